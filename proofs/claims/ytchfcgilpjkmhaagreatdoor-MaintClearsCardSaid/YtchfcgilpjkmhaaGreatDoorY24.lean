import Derived.Test.YtchfcgilpjkmhaaGreatDoorY23
import Derived.Test.YtchfcgilpjkmhaaGreatDoorY17
import Derived.Test.YtchfcgilpjkmhaaGreatDoorY0
set_option maxRecDepth 100000
set_option linter.unusedSimpArgs false
set_option linter.unusedVariables false
set_option linter.unusedSectionVars false
namespace Go.Proofs.YtchfcgilpjkmhaaGreatDoor
open Go.ChangeShapes Go.WideShapes Go.ChangeAt Go.RowKit
attribute [local go_sem] Oper.semAt_some
theorem within_row1(lo hi m1:Int)(W:World):Calls Tryz.prog 48 #[.int .i64 lo,.int .i64 hi,.slice (some ⟨W.heap.size,0,none⟩) 1 1] (W.alloc (.cells #[.int .i64 m1] 3)) fun e w'=>e= .returned (.bool ([m1].all (witP lo hi)))∧Below W.heap.size W w':=by
 refine(within_g lo hi [m1] _ 1 (W.alloc (.cells #[.int .i64 m1] 3)) (rdInt_row (by simp) (fun i hi=>by
  have hi2:i=0:=by simp at hi;omega
  rw[Nat.zero_add];rcases hi2 with rfl<;>exact(Blk.new W _ _).cell _)) (by simp)).mono ?_
 rintro e w' ⟨rfl,hb⟩;exact⟨rfl,((Below.refl _ W).alloc (Nat.le_refl _) _).trans (hb.mono (by simp))⟩
theorem within_row2(lo hi m1 m2:Int)(W:World):Calls Tryz.prog 48 #[.int .i64 lo,.int .i64 hi,.slice (some ⟨W.heap.size,0,none⟩) 2 2] (W.alloc (.cells #[.int .i64 m1,.int .i64 m2] 3)) fun e w'=>e= .returned (.bool ([m1,m2].all (witP lo hi)))∧Below W.heap.size W w':=by
 refine(within_g lo hi [m1,m2] _ 2 (W.alloc (.cells #[.int .i64 m1,.int .i64 m2] 3)) (rdInt_row (by simp) (fun i hi=>by
  have hi2:i=0∨i=1:=by simp at hi;omega
  rw[Nat.zero_add];rcases hi2 with rfl | rfl<;>exact(Blk.new W _ _).cell _)) (by simp)).mono ?_
 rintro e w' ⟨rfl,hb⟩;exact⟨rfl,((Below.refl _ W).alloc (Nat.le_refl _) _).trans (hb.mono (by simp))⟩
theorem within_row3(lo hi m1 m2 m3:Int)(W:World):Calls Tryz.prog 48 #[.int .i64 lo,.int .i64 hi,.slice (some ⟨W.heap.size,0,none⟩) 3 3] (W.alloc (.cells #[.int .i64 m1,.int .i64 m2,.int .i64 m3] 3)) fun e w'=>e= .returned (.bool ([m1,m2,m3].all (witP lo hi)))∧Below W.heap.size W w':=by
 refine(within_g lo hi [m1,m2,m3] _ 3 (W.alloc (.cells #[.int .i64 m1,.int .i64 m2,.int .i64 m3] 3)) (rdInt_row (by simp) (fun i hi=>by
  have hi2:i=0∨i=1∨i=2:=by simp at hi;omega
  rw[Nat.zero_add];rcases hi2 with rfl | rfl | rfl<;>exact(Blk.new W _ _).cell _)) (by simp)).mono ?_
 rintro e w' ⟨rfl,hb⟩;exact⟨rfl,((Below.refl _ W).alloc (Nat.le_refl _) _).trans (hb.mono (by simp))⟩
theorem within_row4(lo hi m1 m2 m3 m4:Int)(W:World):Calls Tryz.prog 48 #[.int .i64 lo,.int .i64 hi,.slice (some ⟨W.heap.size,0,none⟩) 4 4] (W.alloc (.cells #[.int .i64 m1,.int .i64 m2,.int .i64 m3,.int .i64 m4] 3)) fun e w'=>e= .returned (.bool ([m1,m2,m3,m4].all (witP lo hi)))∧Below W.heap.size W w':=by
 refine(within_g lo hi [m1,m2,m3,m4] _ 4 (W.alloc (.cells #[.int .i64 m1,.int .i64 m2,.int .i64 m3,.int .i64 m4] 3)) (rdInt_row (by simp) (fun i hi=>by
  have hi2:i=0∨i=1∨i=2∨i=3:=by simp at hi;omega
  rw[Nat.zero_add];rcases hi2 with rfl | rfl | rfl | rfl<;>exact(Blk.new W _ _).cell _)) (by simp)).mono ?_
 rintro e w' ⟨rfl,hb⟩;exact⟨rfl,((Below.refl _ W).alloc (Nat.le_refl _) _).trans (hb.mono (by simp))⟩
def cLimP(x:ProcV):Bool:=(decide (x.pr≤255))&&(decide ((x.code.l.length:Int)≤24))
set_option maxHeartbeats 2000000 in
theorem limProc_c(x:ProcV)(w:World)(hr:x.rd w w.heap.size):CU 49 #[x.val] w (.bool (cLimP x)):=by
 obtain⟨y0,Hy0,HB0,Hf,HY0,HZ0,kk⟩:=box_hd w 80 #[.string x.nm,.int .i64 x.pr,.int .i64 x.pe,.int .i64 x.li,.slice x.code.a x.code.l.length x.code.c];obtain⟨k0,k1,k2,k3,k4⟩:=ProcV.kl kk;have HF:=lz (show cLimP x=((decide (x.pr≤255))&&(decide ((x.code.l.length:Int)≤24)))from rfl);have HR:=lz hr;clear kk hr;go_enter Tryz.func49,Tryz.ntmps49
 cases a1:decide (x.pr≤255)with
 | false=>
  rw[a1]at HF;exact e0
 | true=>
  rw[a1]at HF
  cases a2:decide ((x.code.l.length:Int)≤24)with
  | false=>
   rw[a2]at HF;have a22:decide (x.code.l.length≤24)=false:=by have:=of_decide_eq_false a2;exact decide_eq_false (by omega)
   exact e0
  | true=>
   rw[a2]at HF;have a22:decide (x.code.l.length≤24)=true:=by have:=of_decide_eq_true a2;exact decide_eq_true (by omega)
   exact e0
def swLimP(x:SwV):Bool:=(decide (x.dl≤1000))&&([x.st].all (witP 1 65536))
set_option maxHeartbeats 2000000 in
theorem limSw_c(x:SwV)(w:World):CU 55 #[x.val] w (.bool (swLimP x)):=by
 obtain⟨y0,Hy0,HB0,Hf,HY0,HZ0,kk⟩:=box_hd w 90 #[.string x.nm,.int .i64 x.net,.int .i64 x.dl,.int .i64 x.st];obtain⟨k0,k1,k2,k3⟩:=SwV.kl kk;have HF:=lz (show swLimP x=((decide (x.dl≤1000))&&([x.st].all (witP 1 65536)))from rfl);clear kk;go_enter Tryz.func55,Tryz.ntmps55
 cases a1:decide (x.dl≤1000)with
 | false=>
  rw[a1]at HF;exact e0
 | true=>
  rw[a1]at HF;go_wp2_with fail;rw[←Hy0.out];have hc:=lz (within_row1 1 65536 (x.st) y0);generalize ([x.st].all (witP 1 65536))=q2 at hc HF;rw[←HZ0.out];refine callB hc HY0 fun y1 HY1=> ?_
  clear hc;clear k0 k1 k2 k3;obtain⟨k0,k1,k2,k3⟩:=SwV.kl (Hf.out _ HY1.out);exact e1
def linkLimP(x:LinkV):Bool:=([x.slow].all (witP 1 16))
set_option maxHeartbeats 2000000 in
theorem limLink_c(x:LinkV)(w:World):CU 56 #[x.val] w (.bool (linkLimP x)):=by
 obtain⟨y0,Hy0,HB0,Hf,HY0,HZ0,kk⟩:=box_hd w 92 #[.string x.a,.string x.b,.int .i64 x.net,.int .i64 x.slow];obtain⟨k0,k1,k2,k3⟩:=LinkV.kl kk;have HF:=lz (show linkLimP x=(([x.slow].all (witP 1 16)))from rfl);clear kk;go_enter Tryz.func56,Tryz.ntmps56;go_wp2_with fail;rw[←Hy0.out];have hc:=lz (within_row1 1 16 (x.slow) y0);generalize ([x.slow].all (witP 1 16))=q1 at hc HF;rw[←HZ0.out];refine callB hc HY0 fun y1 HY1=> ?_
 clear hc;clear k0 k1 k2 k3;obtain⟨k0,k1,k2,k3⟩:=LinkV.kl (Hf.out _ HY1.out);exact e1
def repLimP(x:Rep):Bool:=(decide (x.code≤255))
set_option maxHeartbeats 2000000 in
theorem limRep_c(x:Rep)(w:World):CU 57 #[x.val] w (.bool (repLimP x)):=by
 obtain⟨y0,Hy0,HB0,Hf,HY0,HZ0,kk⟩:=box_hd w 41 #[.string x.unit,.int .i64 x.code];obtain⟨k0,k1⟩:=Rep.kl kk;have HF:=lz (show repLimP x=((decide (x.code≤255)))from rfl);clear kk;go_enter Tryz.func57,Tryz.ntmps57
 cases a1:decide (x.code≤255)with
 | false=>
  rw[a1]at HF;exact e0
 | true=>
  rw[a1]at HF;exact e0
def pLimP(x:PortV):Bool:=(x.kd==2||(x.out==(x.rf==0)))&&((x.kd==1|| [x.dp].all (witP 1 16))&& [x.sz].all (witP 1 64))
set_option maxHeartbeats 2000000 in
theorem limPort_c(x:PortV)(w:World)(hr:x.rd w w.heap.size):CU 47 #[x.val] w (.bool (pLimP x)):=by
 obtain⟨y0,Hy0,HB0,Hf,HY0,HZ0,kk⟩:=box_hd w 77 #[.string x.nm,.int .u8 x.kd,.bool x.out,.int .i64 x.sz,.int .i64 x.dp,.int .i64 x.rf];obtain⟨k0,k1,k2,k3,k4,k5⟩:=PortV.kl kk;have HF:=lz (show pLimP x=((x.kd==2||(x.out==(x.rf==0)))&&((x.kd==1|| [x.dp].all (witP 1 16))&& [x.sz].all (witP 1 64)))from rfl);have HR:=lz hr;clear kk hr;go_enter Tryz.func47,Tryz.ntmps47
 cases a1:(x.kd==2)with
 | false=>
  rw[a1]at HF
  cases a2:(x.rf==0)with
  | false=>
   rw[a2]at HF
   cases a3:x.out with
   | false=>
    rw[a3]at HF;rw[a3]at Hy0 k0 k1 k2 k3 k4 k5
    cases a4:(x.kd==1)with
    | false=>
     rw[a4]at HF;go_wp2_with fail;rw[←Hy0.out];have hc:=lz (within_row1 1 16 (x.dp) y0);generalize ([x.dp].all (witP 1 16))=q5 at hc HF;rw[←HZ0.out];refine callB hc HY0 fun y1 HY1=> ?_
     clear hc;clear k0 k1 k2 k3 k4 k5;obtain⟨k0,k1,k2,k3,k4,k5⟩:=PortV.kl (Hf.out _ HY1.out)
     cases q5 with
     | false=>exact e1
     | true=>
      go_wp2_with fail;have hc:=lz (within_row1 1 64 (x.sz) y1);generalize ([x.sz].all (witP 1 64))=q6 at hc HF;refine callB hc HY1 fun y2 HY2=> ?_
      clear hc;clear k0 k1 k2 k3 k4 k5;obtain⟨k0,k1,k2,k3,k4,k5⟩:=PortV.kl (Hf.out _ HY2.out);exact e2
    | true=>
     rw[a4]at HF;go_wp2_with fail;rw[←Hy0.out];have hc:=lz (within_row1 1 64 (x.sz) y0);generalize ([x.sz].all (witP 1 64))=q7 at hc HF;rw[←HZ0.out];refine callB hc HY0 fun y1 HY1=> ?_
     clear hc;clear k0 k1 k2 k3 k4 k5;obtain⟨k0,k1,k2,k3,k4,k5⟩:=PortV.kl (Hf.out _ HY1.out);exact e1
   | true=>
    rw[a3]at HF;rw[a3]at Hy0 k0 k1 k2 k3 k4 k5
    cases a8:(x.kd==1)with
    | false=>
     rw[a8]at HF;go_wp2_with fail;rw[←Hy0.out];have hc:=lz (within_row1 1 16 (x.dp) y0);generalize ([x.dp].all (witP 1 16))=q9 at hc HF;rw[←HZ0.out];refine callB hc HY0 fun y1 HY1=> ?_
     clear hc;clear k0 k1 k2 k3 k4 k5;obtain⟨k0,k1,k2,k3,k4,k5⟩:=PortV.kl (Hf.out _ HY1.out)
     cases q9 with
     | false=>exact e1
     | true=>exact e1
    | true=>
     rw[a8]at HF;exact e0
  | true=>
   rw[a2]at HF
   cases a10:x.out with
   | false=>
    rw[a10]at HF;rw[a10]at Hy0 k0 k1 k2 k3 k4 k5
    cases a11:(x.kd==1)with
    | false=>
     rw[a11]at HF;go_wp2_with fail;rw[←Hy0.out];have hc:=lz (within_row1 1 16 (x.dp) y0);generalize ([x.dp].all (witP 1 16))=q12 at hc HF;rw[←HZ0.out];refine callB hc HY0 fun y1 HY1=> ?_
     clear hc;clear k0 k1 k2 k3 k4 k5;obtain⟨k0,k1,k2,k3,k4,k5⟩:=PortV.kl (Hf.out _ HY1.out)
     cases q12 with
     | false=>exact e1
     | true=>exact e1
    | true=>
     rw[a11]at HF;exact e0
   | true=>
    rw[a10]at HF;rw[a10]at Hy0 k0 k1 k2 k3 k4 k5
    cases a13:(x.kd==1)with
    | false=>
     rw[a13]at HF;go_wp2_with fail;rw[←Hy0.out];have hc:=lz (within_row1 1 16 (x.dp) y0);generalize ([x.dp].all (witP 1 16))=q14 at hc HF;rw[←HZ0.out];refine callB hc HY0 fun y1 HY1=> ?_
     clear hc;clear k0 k1 k2 k3 k4 k5;obtain⟨k0,k1,k2,k3,k4,k5⟩:=PortV.kl (Hf.out _ HY1.out)
     cases q14 with
     | false=>exact e1
     | true=>
      go_wp2_with fail;have hc:=lz (within_row1 1 64 (x.sz) y1);generalize ([x.sz].all (witP 1 64))=q15 at hc HF;refine callB hc HY1 fun y2 HY2=> ?_
      clear hc;clear k0 k1 k2 k3 k4 k5;obtain⟨k0,k1,k2,k3,k4,k5⟩:=PortV.kl (Hf.out _ HY2.out);exact e2
    | true=>
     rw[a13]at HF;go_wp2_with fail;rw[←Hy0.out];have hc:=lz (within_row1 1 64 (x.sz) y0);generalize ([x.sz].all (witP 1 64))=q16 at hc HF;rw[←HZ0.out];refine callB hc HY0 fun y1 HY1=> ?_
     clear hc;clear k0 k1 k2 k3 k4 k5;obtain⟨k0,k1,k2,k3,k4,k5⟩:=PortV.kl (Hf.out _ HY1.out);exact e1
 | true=>
  rw[a1]at HF;have HK2:=a1;have hk1:(x.kd==1)=false:=by have:=eq_of_beq HK2;rw[this];rfl
  rw[hk1]at HF;go_wp2_with fail;rw[←Hy0.out];have hc:=lz (within_row1 1 16 (x.dp) y0);generalize ([x.dp].all (witP 1 16))=q17 at hc HF;rw[←HZ0.out];refine callB hc HY0 fun y1 HY1=> ?_
  clear hc;clear k0 k1 k2 k3 k4 k5;obtain⟨k0,k1,k2,k3,k4,k5⟩:=PortV.kl (Hf.out _ HY1.out)
  cases q17 with
  | false=>exact e1
  | true=>
   go_wp2_with fail;have hc:=lz (within_row1 1 64 (x.sz) y1);generalize ([x.sz].all (witP 1 64))=q18 at hc HF;refine callB hc HY1 fun y2 HY2=> ?_
   clear hc;clear k0 k1 k2 k3 k4 k5;obtain⟨k0,k1,k2,k3,k4,k5⟩:=PortV.kl (Hf.out _ HY2.out);exact e2
def partLimP(x:PartV):Bool:=([(x.semas.l.length:Int),(x.bufs.l.length:Int),x.ev,x.bo].all (witP 0 8))&&((x.semas.l.all (witP 0 255))&&(x.bufs.l.all (witP 1 16))&&(decide ((x.procs.l.length:Int)≤6))&&(decide ((x.ports.l.length:Int)≤8)))&&(decide (x.mem≤4096))&&([x.pe,x.le].all (witP 1 2000))&&(x.ports.l.all pLimP)&&(x.procs.l.all cLimP)
set_option maxHeartbeats 2000000 in
theorem limPart_c(x:PartV)(Bp Bq:Nat)(w:World)(hr:x.rd w w.heap.size)(hBp:Blk w Bp 129 #[.func (.func 47) #[] #[]])(hBq:Blk w Bq 130 #[.func (.func 49) #[] #[]]):CU 50 #[x.val,.pointer (some ⟨Bp,0,none⟩),.pointer (some ⟨Bq,0,none⟩)] w (.bool (partLimP x)):=by
 obtain⟨y0,Hy0,HB0,Hf,HY0,HZ0,kk⟩:=box_hd w 75 #[.string x.nm,.int .i64 x.pe,.int .i64 x.le,.int .i64 x.mem,.slice x.semas.a x.semas.l.length x.semas.c,.int .i64 x.ev,.int .i64 x.bo,.slice x.bufs.a x.bufs.l.length x.bufs.c,.slice x.ports.a x.ports.l.length x.ports.c,.slice x.procs.a x.procs.l.length x.procs.c];obtain⟨k0,k1,k2,k3,k4,k5,k6,k7,k8,k9⟩:=PartV.kl kk;have HgBp:=box_far Hy0 HB0 hBp;have kbBp0:=(hBp.alloc (.cells #[.string x.nm,.int .i64 x.pe,.int .i64 x.le,.int .i64 x.mem,.slice x.semas.a x.semas.l.length x.semas.c,.int .i64 x.ev,.int .i64 x.bo,.slice x.bufs.a x.bufs.l.length x.bufs.c,.slice x.ports.a x.ports.l.length x.ports.c,.slice x.procs.a x.procs.l.length x.procs.c] 75)).cell 0;have hlBp:=hBp.lt;have HgBq:=box_far Hy0 HB0 hBq;have kbBq0:=(hBq.alloc (.cells #[.string x.nm,.int .i64 x.pe,.int .i64 x.le,.int .i64 x.mem,.slice x.semas.a x.semas.l.length x.semas.c,.int .i64 x.ev,.int .i64 x.bo,.slice x.bufs.a x.bufs.l.length x.bufs.c,.slice x.ports.a x.ports.l.length x.ports.c,.slice x.procs.a x.procs.l.length x.procs.c] 75)).cell 0;have hlBq:=hBq.lt;have HF:=lz (show partLimP x=(([(x.semas.l.length:Int),(x.bufs.l.length:Int),x.ev,x.bo].all (witP 0 8))&&((x.semas.l.all (witP 0 255))&&(x.bufs.l.all (witP 1 16))&&(decide ((x.procs.l.length:Int)≤6))&&(decide ((x.ports.l.length:Int)≤8)))&&(decide (x.mem≤4096))&&([x.pe,x.le].all (witP 1 2000))&&(x.ports.l.all pLimP)&&(x.procs.l.all cLimP))from rfl);have HR:=lz hr;clear kk hr hBp hBq;go_enter Tryz.func50,Tryz.ntmps50;go_wp2_with fail;rw[←Hy0.out];have hc:=lz (within_row4 0 8 ((x.semas.l.length:Int)) ((x.bufs.l.length:Int)) (x.ev) (x.bo) y0);generalize ([(x.semas.l.length:Int),(x.bufs.l.length:Int),x.ev,x.bo].all (witP 0 8))=q1 at hc HF;rw[←HZ0.out];refine callB hc HY0 fun y1 HY1=> ?_
 clear hc;clear k0 k1 k2 k3 k4 k5 k6 k7 k8 k9 kbBp0 kbBq0;obtain⟨k0,k1,k2,k3,k4,k5,k6,k7,k8,k9⟩:=PartV.kl (Hf.out _ HY1.out);have kbBp0:=(HgBp.out _ HY1.out).cell 0;have kbBq0:=(HgBq.out _ HY1.out).cell 0
 cases q1 with
 | false=>
  go_wp2_with fail;have hc:=lz (within_g 0 255 x.semas.l x.semas.a x.semas.c y1 ((HR.out.below (bt HB0 HY1)).semas) (Nat.le_trans HR.out.semas1 (Nat.le_trans HR.out.semas2 (by decide))));generalize (x.semas.l.all (witP 0 255))=q2 at hc HF;refine callB hc HY1 fun y2 HY2=> ?_
  clear hc;clear k0 k1 k2 k3 k4 k5 k6 k7 k8 k9 kbBp0 kbBq0;obtain⟨k0,k1,k2,k3,k4,k5,k6,k7,k8,k9⟩:=PartV.kl (Hf.out _ HY2.out);have kbBp0:=(HgBp.out _ HY2.out).cell 0;have kbBq0:=(HgBq.out _ HY2.out).cell 0
  cases q2 with
  | false=>exact e2
  | true=>
   go_wp2_with fail;have hc:=lz (within_g 1 16 x.bufs.l x.bufs.a x.bufs.c y2 ((HR.out.below (bt HB0 HY2)).bufs) (Nat.le_trans HR.out.bufs1 (Nat.le_trans HR.out.bufs2 (by decide))));generalize (x.bufs.l.all (witP 1 16))=q3 at hc HF;refine callB hc HY2 fun y3 HY3=> ?_
   clear hc;clear k0 k1 k2 k3 k4 k5 k6 k7 k8 k9 kbBp0 kbBq0;obtain⟨k0,k1,k2,k3,k4,k5,k6,k7,k8,k9⟩:=PartV.kl (Hf.out _ HY3.out);have kbBp0:=(HgBp.out _ HY3.out).cell 0;have kbBq0:=(HgBq.out _ HY3.out).cell 0
   cases q3 with
   | false=>exact e3
   | true=>
    cases a4:decide ((x.procs.l.length:Int)≤6)with
    | false=>
     rw[a4]at HF;have a42:decide (x.procs.l.length≤6)=false:=by have:=of_decide_eq_false a4;exact decide_eq_false (by omega)
     exact e3
    | true=>
     rw[a4]at HF;have a42:decide (x.procs.l.length≤6)=true:=by have:=of_decide_eq_true a4;exact decide_eq_true (by omega)
     cases a5:decide ((x.ports.l.length:Int)≤8)with
     | false=>
      rw[a5]at HF;have a52:decide (x.ports.l.length≤8)=false:=by have:=of_decide_eq_false a5;exact decide_eq_false (by omega)
      exact e3
     | true=>
      rw[a5]at HF;have a52:decide (x.ports.l.length≤8)=true:=by have:=of_decide_eq_true a5;exact decide_eq_true (by omega)
      exact e3
 | true=>
  go_wp2_with fail;have hc:=lz (within_g 0 255 x.semas.l x.semas.a x.semas.c y1 ((HR.out.below (bt HB0 HY1)).semas) (Nat.le_trans HR.out.semas1 (Nat.le_trans HR.out.semas2 (by decide))));generalize (x.semas.l.all (witP 0 255))=q6 at hc HF;refine callB hc HY1 fun y2 HY2=> ?_
  clear hc;clear k0 k1 k2 k3 k4 k5 k6 k7 k8 k9 kbBp0 kbBq0;obtain⟨k0,k1,k2,k3,k4,k5,k6,k7,k8,k9⟩:=PartV.kl (Hf.out _ HY2.out);have kbBp0:=(HgBp.out _ HY2.out).cell 0;have kbBq0:=(HgBq.out _ HY2.out).cell 0
  cases q6 with
  | false=>exact e2
  | true=>
   go_wp2_with fail;have hc:=lz (within_g 1 16 x.bufs.l x.bufs.a x.bufs.c y2 ((HR.out.below (bt HB0 HY2)).bufs) (Nat.le_trans HR.out.bufs1 (Nat.le_trans HR.out.bufs2 (by decide))));generalize (x.bufs.l.all (witP 1 16))=q7 at hc HF;refine callB hc HY2 fun y3 HY3=> ?_
   clear hc;clear k0 k1 k2 k3 k4 k5 k6 k7 k8 k9 kbBp0 kbBq0;obtain⟨k0,k1,k2,k3,k4,k5,k6,k7,k8,k9⟩:=PartV.kl (Hf.out _ HY3.out);have kbBp0:=(HgBp.out _ HY3.out).cell 0;have kbBq0:=(HgBq.out _ HY3.out).cell 0
   cases q7 with
   | false=>exact e3
   | true=>
    cases a8:decide ((x.procs.l.length:Int)≤6)with
    | false=>
     rw[a8]at HF;have a82:decide (x.procs.l.length≤6)=false:=by have:=of_decide_eq_false a8;exact decide_eq_false (by omega)
     exact e3
    | true=>
     rw[a8]at HF;have a82:decide (x.procs.l.length≤6)=true:=by have:=of_decide_eq_true a8;exact decide_eq_true (by omega)
     cases a9:decide ((x.ports.l.length:Int)≤8)with
     | false=>
      rw[a9]at HF;have a92:decide (x.ports.l.length≤8)=false:=by have:=of_decide_eq_false a9;exact decide_eq_false (by omega)
      exact e3
     | true=>
      rw[a9]at HF;have a92:decide (x.ports.l.length≤8)=true:=by have:=of_decide_eq_true a9;exact decide_eq_true (by omega)
      cases a10:decide (x.mem≤4096)with
      | false=>
       rw[a10]at HF;exact e3
      | true=>
       rw[a10]at HF;go_wp2_with fail;have hc:=lz (within_row2 1 2000 (x.pe) (x.le) y3);generalize ([x.pe,x.le].all (witP 1 2000))=q11 at hc HF;refine callB hc HY3 fun y4 HY4=> ?_
       clear hc;clear k0 k1 k2 k3 k4 k5 k6 k7 k8 k9 kbBp0 kbBq0;obtain⟨k0,k1,k2,k3,k4,k5,k6,k7,k8,k9⟩:=PartV.kl (Hf.out _ HY4.out);have kbBp0:=(HgBp.out _ HY4.out).cell 0;have kbBq0:=(HgBq.out _ HY4.out).cell 0
       cases q11 with
       | false=>exact e4
       | true=>
        go_wp2_with fail;have hc:=lz (call_Port 47 #[] pLimP (enters_of Tryz.func47 kz rfl) x.ports.l x.ports.a x.ports.c y4 (fun W r hx hW hrd=>by simpa using limPort_c r W hrd) ((HR.out.below (bt HB0 HY4)).ports) (Nat.le_trans HR.out.ports1 (Nat.le_trans HR.out.ports2 (by decide))));generalize (x.ports.l.all pLimP)=q12 at hc HF;refine callB hc HY4 fun y5 HY5=> ?_
        clear hc;clear k0 k1 k2 k3 k4 k5 k6 k7 k8 k9 kbBp0 kbBq0;obtain⟨k0,k1,k2,k3,k4,k5,k6,k7,k8,k9⟩:=PartV.kl (Hf.out _ HY5.out);have kbBp0:=(HgBp.out _ HY5.out).cell 0;have kbBq0:=(HgBq.out _ HY5.out).cell 0
        cases q12 with
        | false=>exact e5
        | true=>
         go_wp2_with fail;have hc:=lz (call_Proc 49 #[] cLimP (enters_of Tryz.func49 kz rfl) x.procs.l x.procs.a x.procs.c y5 (fun W r hx hW hrd=>by simpa using limProc_c r W hrd) ((HR.out.below (bt HB0 HY5)).procs) (Nat.le_trans HR.out.procs1 (Nat.le_trans HR.out.procs2 (by decide))));generalize (x.procs.l.all cLimP)=q13 at hc HF;refine callB hc HY5 fun y6 HY6=> ?_
         clear hc;clear k0 k1 k2 k3 k4 k5 k6 k7 k8 k9 kbBp0 kbBq0;obtain⟨k0,k1,k2,k3,k4,k5,k6,k7,k8,k9⟩:=PartV.kl (Hf.out _ HY6.out);have kbBp0:=(HgBp.out _ HY6.out).cell 0;have kbBq0:=(HgBq.out _ HY6.out).cell 0;exact e6
def modLimP(x:ModV):Bool:=(decide (x.mem≤4096))&&([x.fr].all (witP 1 2000))&&(decide ((x.parts.l.length:Int)≤6))&&(x.parts.l.all partLimP)
set_option maxHeartbeats 2000000 in
theorem limMod_c(x:ModV)(Bp Bq Ba:Nat)(w:World)(hr:x.rd w w.heap.size)(hBa:Blk w Ba 133 #[.func (.func 50) #[] #[.pointer (some ⟨Bp,0,none⟩),.pointer (some ⟨Bq,0,none⟩)]])(hp:∀W,Below w.heap.size w W→Blk W Bp 129 #[.func (.func 47) #[] #[]])(hq:∀W,Below w.heap.size w W→Blk W Bq 130 #[.func (.func 49) #[] #[]]):CU 53 #[x.val,.pointer (some ⟨Ba,0,none⟩)] w (.bool (modLimP x)):=by
 obtain⟨y0,Hy0,HB0,Hf,HY0,HZ0,kk⟩:=box_hd w 70 #[.string x.nm,.int .i64 x.mem,.int .i64 x.fr,.slice x.parts.a x.parts.l.length x.parts.c];obtain⟨k0,k1,k2,k3⟩:=ModV.kl kk;have HgBa:=box_far Hy0 HB0 hBa;have kbBa0:=(hBa.alloc (.cells #[.string x.nm,.int .i64 x.mem,.int .i64 x.fr,.slice x.parts.a x.parts.l.length x.parts.c] 70)).cell 0;have hlBa:=hBa.lt;have HF:=lz (show modLimP x=((decide (x.mem≤4096))&&([x.fr].all (witP 1 2000))&&(decide ((x.parts.l.length:Int)≤6))&&(x.parts.l.all partLimP))from rfl);have HR:=lz hr;have HP:=lz hp;have HQ:=lz hq;clear kk hr hp hq hBa;go_enter Tryz.func53,Tryz.ntmps53
 cases a1:decide (x.mem≤4096)with
 | false=>
  rw[a1]at HF;exact e0
 | true=>
  rw[a1]at HF;go_wp2_with fail;rw[←Hy0.out];have hc:=lz (within_row1 1 2000 (x.fr) y0);generalize ([x.fr].all (witP 1 2000))=q2 at hc HF;rw[←HZ0.out];refine callB hc HY0 fun y1 HY1=> ?_
  clear hc;clear k0 k1 k2 k3 kbBa0;obtain⟨k0,k1,k2,k3⟩:=ModV.kl (Hf.out _ HY1.out);have kbBa0:=(HgBa.out _ HY1.out).cell 0
  cases q2 with
  | false=>exact e1
  | true=>
   cases a3:decide ((x.parts.l.length:Int)≤6)with
   | false=>
    rw[a3]at HF;have a32:decide (x.parts.l.length≤6)=false:=by have:=of_decide_eq_false a3;exact decide_eq_false (by omega)
    exact e1
   | true=>
    rw[a3]at HF;have a32:decide (x.parts.l.length≤6)=true:=by have:=of_decide_eq_true a3;exact decide_eq_true (by omega)
    go_wp2_with fail;have hc:=lz (call_Part 50 #[.pointer (some ⟨Bp,0,none⟩),.pointer (some ⟨Bq,0,none⟩)] partLimP (enters_of Tryz.func50 kz rfl) x.parts.l x.parts.a x.parts.c y1 (fun W r hx hW hrd=>by simpa using limPart_c r Bp Bq W hrd (HP.out W ((bt HB0 HY1).trans (hW.mono (bt HB0 HY1).size))) (HQ.out W ((bt HB0 HY1).trans (hW.mono (bt HB0 HY1).size)))) ((HR.out.below (bt HB0 HY1)).parts) (Nat.le_trans HR.out.parts1 (Nat.le_trans HR.out.parts2 (by decide))));generalize (x.parts.l.all partLimP)=q4 at hc HF;refine callB hc HY1 fun y2 HY2=> ?_
    clear hc;clear k0 k1 k2 k3 kbBa0;obtain⟨k0,k1,k2,k3⟩:=ModV.kl (Hf.out _ HY2.out);have kbBa0:=(HgBa.out _ HY2.out).cell 0;exact e2
def tmP(p:PartV)(x:ProcV):Bool:=(x.pe.tmod p.pe==0)&&(x.pe==0||decide (x.li≤x.pe))
set_option maxHeartbeats 2000000 in
theorem timesF_c(p:PartV)(x:ProcV)(Bp:Nat)(w:World)(hr:x.rd w w.heap.size)(hBp:Blk w Bp 75 #[.string p.nm,.int .i64 p.pe,.int .i64 p.le,.int .i64 p.mem,.slice p.semas.a p.semas.l.length p.semas.c,.int .i64 p.ev,.int .i64 p.bo,.slice p.bufs.a p.bufs.l.length p.bufs.c,.slice p.ports.a p.ports.l.length p.ports.c,.slice p.procs.a p.procs.l.length p.procs.c])(hp:¬p.pe=0):CU 80 #[x.val,.pointer (some ⟨Bp,0,none⟩)] w (.bool (tmP p x)):=by
 obtain⟨y0,Hy0,HB0,Hf,HY0,HZ0,kk⟩:=box_hd w 80 #[.string x.nm,.int .i64 x.pr,.int .i64 x.pe,.int .i64 x.li,.slice x.code.a x.code.l.length x.code.c];obtain⟨k0,k1,k2,k3,k4⟩:=ProcV.kl kk;have HgBp:=box_far Hy0 HB0 hBp;have kbBp0:=(hBp.alloc (.cells #[.string x.nm,.int .i64 x.pr,.int .i64 x.pe,.int .i64 x.li,.slice x.code.a x.code.l.length x.code.c] 80)).cell 0;have kbBp1:=(hBp.alloc (.cells #[.string x.nm,.int .i64 x.pr,.int .i64 x.pe,.int .i64 x.li,.slice x.code.a x.code.l.length x.code.c] 80)).cell 1;have kbBp2:=(hBp.alloc (.cells #[.string x.nm,.int .i64 x.pr,.int .i64 x.pe,.int .i64 x.li,.slice x.code.a x.code.l.length x.code.c] 80)).cell 2;have kbBp3:=(hBp.alloc (.cells #[.string x.nm,.int .i64 x.pr,.int .i64 x.pe,.int .i64 x.li,.slice x.code.a x.code.l.length x.code.c] 80)).cell 3;have kbBp4:=(hBp.alloc (.cells #[.string x.nm,.int .i64 x.pr,.int .i64 x.pe,.int .i64 x.li,.slice x.code.a x.code.l.length x.code.c] 80)).cell 4;have kbBp5:=(hBp.alloc (.cells #[.string x.nm,.int .i64 x.pr,.int .i64 x.pe,.int .i64 x.li,.slice x.code.a x.code.l.length x.code.c] 80)).cell 5;have kbBp6:=(hBp.alloc (.cells #[.string x.nm,.int .i64 x.pr,.int .i64 x.pe,.int .i64 x.li,.slice x.code.a x.code.l.length x.code.c] 80)).cell 6;have kbBp7:=(hBp.alloc (.cells #[.string x.nm,.int .i64 x.pr,.int .i64 x.pe,.int .i64 x.li,.slice x.code.a x.code.l.length x.code.c] 80)).cell 7;have kbBp8:=(hBp.alloc (.cells #[.string x.nm,.int .i64 x.pr,.int .i64 x.pe,.int .i64 x.li,.slice x.code.a x.code.l.length x.code.c] 80)).cell 8;have kbBp9:=(hBp.alloc (.cells #[.string x.nm,.int .i64 x.pr,.int .i64 x.pe,.int .i64 x.li,.slice x.code.a x.code.l.length x.code.c] 80)).cell 9;have hlBp:=hBp.lt;have HF:=lz (show tmP p x=((x.pe.tmod p.pe==0)&&(x.pe==0||decide (x.li≤x.pe)))from rfl);have HR:=lz hr;clear kk hr hBp;go_enter Tryz.func80,Tryz.ntmps80
 cases a1:(x.pe.tmod p.pe==0)with
 | false=>
  rw[a1]at HF;exact e0
 | true=>
  rw[a1]at HF
  cases a2:(x.pe==0)with
  | false=>
   rw[a2]at HF
   cases a3:decide (x.li≤x.pe)with
   | false=>
    rw[a3]at HF;exact e0
   | true=>
    rw[a3]at HF;exact e0
  | true=>
   rw[a2]at HF;exact e0
def AllB{α:Type}(p:α→Bool)(T:List α)(b:Bool):Prop:=T.all p=b
def timeB(y:MpV):Bool:=(y.1.fr.tmod y.2.pe==0)&&(decide (y.2.le≤y.2.pe)&&y.2.procs.l.all (tmP y.2))
def timesP(x:CfgV):Bool:=(partsV x).all timeB
theorem rd_part{x:CfgV}{w:World}{B:Nat}(h:x.rd w B){y:MpV}(hy:y∈partsV x):y.1.rd w B∧y.2.rd w B:=by
 unfold partsV at hy;obtain⟨m,hm,hy⟩:=List.mem_flatMap.1 hy;obtain⟨p,hp,rfl⟩:=List.mem_map.1 hy;obtain⟨i,hi,rfl⟩:=List.mem_iff_getElem.1 hm;obtain⟨b,o,_,_,hc⟩:=h.mods (by omega);have hmr:=(hc i hi).2.2.2.2;obtain⟨j,hj,rfl⟩:=List.mem_iff_getElem.1 hp;obtain⟨b2,o2,_,_,hc2⟩:=hmr.parts (by omega);exact⟨hmr,(hc2 j hj).2.2.2.2.2.2.2.2.2.2⟩
theorem all_snoc{α:Type}(p:α→Bool)(l:List α)(x:α):(l++ [x]).all p=(l.all p&&p x):=by simp
theorem not_all_pre{α:Type}{p:α→Bool}{l k:List α}(h:l <+: k)(hn:l.all p=false):k.all p=false:=by
 obtain⟨t,rfl⟩:=h;rw[List.all_append,hn];rfl
theorem mem_pre{α:Type}{l k:List α}{x:α}(h:l++ [x] <+: k):x∈k:=h.subset (by simp)
set_option maxHeartbeats 4000000 in
theorem times_g(x:CfgV)(g:Nat)(w:World)(h:CkG w g x)(hr:x.rd w w.heap.size)(hpe:∀y∈partsV x,¬y.2.pe=0):CU 26 #[.pointer (some ⟨g,0,none⟩)] w (.bool (timesP x)):=by
 obtain⟨w1,hw1⟩:∃w1,w1=(w.alloc (.cells #[.bool false] 4)).alloc (.cells #[.pointer (some ⟨g,0,none⟩)] 104):=⟨_,rfl⟩;have hb1:Below w.heap.size w w1:=by rw[hw1];exact((Below.refl _ w).alloc (Nat.le_refl _) _).alloc (by simp) _
 have hr0:Blk w1 w.heap.size 4 #[.bool false]:=by rw[hw1];exact(Blk.new w _ _).alloc _
 have hbx:Blk w1 (w.heap.size+1) 104 #[.pointer (some ⟨g,0,none⟩)]:=by rw[hw1];have:=Blk.new (w.alloc (.cells #[.bool false] 4)) 104 #[.pointer (some ⟨g,0,none⟩)];rwa[World.size_alloc]at this
 have hz:w1.heap.size=w.heap.size+2:=by rw[hw1];simp
 have hck:CkRd w1 g (w.heap.size+1) w.heap.size x:=⟨hbx,h.below hb1,hr.to_ (Nat.le_refl _) (bcell hb1),by omega⟩;have hml:x.mods.l.length≤9223372036854775807:=Nat.le_trans hr.mods1 (Nat.le_trans hr.mods2 (by decide));have Hseq:=lz (parts_g x g (w.heap.size+1) w.heap.size (fun _=>False) w1 (fun _ h=>h.elim) (fun _ h=>h.elim) hck hml);have hgl:=Blk.lt h;have Hck:=lz hck;have Hw1:=lz hw1;have Hb1:=lz hb1;have Hr0:=lz hr0;have Hz:=lz hz;have Hpe:=lz hpe;clear h hr hw1 hb1 hr0 hbx hz hck hpe;refine(callsIn_wide (n:=9)).1 ?_;refine callsIn_of_wp_marks Tryz.func26 rfl trivial ?_ rfl;simp only[Tryz.ntmps26,List.size_toArray,List.length_cons,List.length_nil,Nat.reduceAdd,Nat.reduceSub,Array.replicate_succ,Array.replicate_zero,List.push_toArray,List.append_toArray,List.nil_append,List.cons_append];refine wpIn_wide.2 ?_;go_wp2_with (go_at_call 65;refine(parts96 _ _).mono ?_;rintro e w' ⟨rfl,hw'⟩);rw[←Hw1.out];clear hw';refine(wpIn_wide (n:=9)).1 ?_;have hz1:w.heap.size+2≤w1.heap.size:=Nat.le_of_eq Hz.out.symm;have hz1b:w1.heap.size≤w.heap.size+2:=Nat.le_of_eq Hz.out;refine range_s (gf:=152) (lb:= #[.pointer (some ⟨w.heap.size+1,0,none⟩)]) (encs:=mpEnc) (xs:=partsV x) (X:=fun _=>False) (XE:=fun k=>k=w.heap.size) rfl (enters_of Tryz.func152 kz rfl) (fun _=>rfl) (fun _ h=>h.elim) (fun k e=>by omega) Hseq.out
  (fun T W=>Below w1.heap.size w1 W∧AllB timeB T true)
  (fun T W=>Blk W w.heap.size 4 #[.bool false]∧Below w.heap.size w W∧AllB timeB T false) ?hI ?hIE ?hI0
  (fun y a' W=>∃m p Bm Bp,y=(m,p)∧w1.heap.size≤Bm∧w1.heap.size≤Bp∧Blk W Bm 70 #[.string m.nm,.int .i64 m.mem,.int .i64 m.fr,.slice m.parts.a m.parts.l.length m.parts.c]∧Blk W Bp 75 #[.string p.nm,.int .i64 p.pe,.int .i64 p.le,.int .i64 p.mem,.slice p.semas.a p.semas.l.length p.semas.c,.int .i64 p.ev,.int .i64 p.bo,.slice p.bufs.a p.bufs.l.length p.bufs.c,.slice p.ports.a p.ports.l.length p.ports.c,.slice p.procs.a p.procs.l.length p.procs.c]∧a'={tmps:= #[.pointer (some ⟨g,0,none⟩),undef,.pointer (some ⟨w.heap.size,0,none⟩),.pointer (some ⟨Bm,0,none⟩),.pointer (some ⟨Bp,0,none⟩),undef,.pointer (some ⟨g,0,none⟩),.func (.func 152) #[] #[.pointer (some ⟨w.heap.size+1,0,none⟩)],m.val,p.val,undef,undef,undef,undef,undef,undef,undef,undef,undef,undef,undef,undef,undef,undef,undef,undef,undef,undef,undef,undef,undef],defers:= []}) ?hAx ?assign ?body ?done ?ret
 case hI=>exact fun T W W' h hb=>⟨h.1.trans hb,h.2⟩
 case hIE=>exact fun T W W' h hb=>⟨Blk.below h.1 hb (by omega),h.2.1.trans (hb.mono (by omega)),h.2.2⟩
 case hI0=>exact⟨Below.refl _ _,rfl⟩
 case hAx=>
  rintro y l a' W o o' hl ho hc ⟨m,p,Bm,Bp,e,h1,h2,h3,h4,h5⟩;exact⟨m,p,Bm,Bp,e,h1,h2,blk_put h3 ho hc,blk_put h4 ho hc,h5⟩
 case assign=>
  rintro l T ⟨m,p⟩ W K hT hsz hK;gi_wp2;refine hK _ _ (((Below.refl _ W).alloc (Nat.le_refl _) _).alloc (by simp) _) ⟨m,p,_,_,rfl,?_,?_,(Blk.new W _ _).alloc _,?_,rfl⟩
  ·omega
  ·first | omega | (simp;omega)
  ·have:=Blk.new (W.alloc (.cells #[.string m.nm,.int .i64 m.mem,.int .i64 m.fr,.slice m.parts.a m.parts.l.length m.parts.c] 70)) 75 #[.string p.nm,.int .i64 p.pe,.int .i64 p.le,.int .i64 p.mem,.slice p.semas.a p.semas.l.length p.semas.c,.int .i64 p.ev,.int .i64 p.bo,.slice p.bufs.a p.bufs.l.length p.bufs.c,.slice p.ports.a p.ports.l.length p.ports.c,.slice p.procs.a p.procs.l.length p.procs.c]
   rwa[World.size_alloc]at this
 case body=>
  rintro l T y a' W hT hsz hG ⟨hbw,hall⟩ ⟨m,p,Bm,Bp,rfl,h1,h2,hbm,hbp,rfl⟩;have hmem:=mem_pre hT;have hp0:¬p.pe=0:=Hpe.out _ hmem;have hrd:=(rd_part ((Hck.out.gr (X:=fun _=>False) (fun _ h=>h.elim) hG).r) hmem).2;have hBr:=(Hck.out.gr (X:=fun _=>False) (fun _ h=>h.elim) hG).B;have hrd:p.rd W W.heap.size:=hrd.more hBr;have m2:=hbm.cell 2;have p1:=hbp.cell 1;have p2:=hbp.cell 2;have p9:=hbp.cell 9;have hlm:=hbm.lt;have hlp:=hbp.lt;have hr0W:=Hr0.out.below hbw (by omega);have r0:=hr0W.cell 0;have f0:=hr0W.frozen 0;have hcall:=call_Proc 80 #[.pointer (some ⟨Bp,0,none⟩)] (tmP p) (enters_of Tryz.func80 kz rfl) p.procs.l p.procs.a p.procs.c W (fun W' r hx hW' hrd'=>by simpa using timesF_c p r Bp W' hrd' (hbp.below hW' hbp.lt) hp0) hrd.procs (Nat.le_trans hrd.procs1 (Nat.le_trans hrd.procs2 (by decide)));have hT1:∀b,timeB (m,p)=b→AllB timeB (T++ [(m,p)]) b:=fun b hb=>by unfold AllB at *;rw[all_snoc,hall,hb];rfl
  have htb:timeB (m,p)=((m.fr.tmod p.pe==0)&&(decide (p.le≤p.pe)&&p.procs.l.all (tmP p))):=rfl;obtain⟨q,hq⟩:∃q,q=p.procs.l.all (tmP p):=⟨_,rfl⟩;rw[←hq]at hcall htb;have hbad:∀W2,Below W.heap.size W W2→timeB (m,p)=false→(Gr (fun k=>k=w.heap.size) W (W2.setCell ⟨w.heap.size,0,none⟩ (.bool false))∧Blk (W2.setCell ⟨w.heap.size,0,none⟩ (.bool false)) w.heap.size 4 #[.bool false]∧Below w.heap.size w (W2.setCell ⟨w.heap.size,0,none⟩ (.bool false))∧AllB timeB (T++ [(m,p)]) false)∧W2.cell? ⟨w.heap.size,0,none⟩=some (.bool false)∧W2.frozen? ⟨w.heap.size,0,none⟩=false:=fun W2 h2 hb=>
   ⟨⟨(Gr.of_below h2).trans (Gr.setCell W2 ⟨w.heap.size,0,none⟩ _ rfl),by simpa using(hr0W.below h2 hr0W.lt).set_ 0 (.bool false),(Hb1.out.trans ((hbw.trans (h2.mono hbw.size)).mono Hb1.out.size)).setCell (p:=⟨w.heap.size,0,none⟩) (Nat.le_refl _) _,hT1 _ hb⟩,(hr0W.below h2 hr0W.lt).cell 0,(hr0W.below h2 hr0W.lt).frozen 0⟩
  have Hcall:=lz hcall;have Htb:=lz htb;have HT1:=lz hT1;have Hbad:=lz hbad;have Hbw:=lz hbw;have Hr0W:=lz hr0W;clear hcall htb hq hT1 hbad hbw hr0W hrd hmem hbm hbp hG hall hT
  cases t1:(m.fr.tmod p.pe==0)with
  | false=>
   have hbb:=lz (Hbad.out W (Below.refl _ _) (by rw[Htb.out,t1];rfl)).1;have e1:¬m.fr.tmod p.pe=0:=by simpa using t1
   clear t1;gi_wp2;refine⟨trivial,?_⟩;gi_wp2;exact hbb.out
  | true=>
   have e1:m.fr.tmod p.pe=0:=by simpa using t1
   have t1:=lz t1
   cases t2:decide (p.le≤p.pe)with
   | false=>
    have hbb:=lz (Hbad.out W (Below.refl _ _) (by rw[Htb.out,t1.out,t2];rfl)).1;have t3:p.pe<p.le:=by have:=of_decide_eq_false t2;omega
    have t4:decide (p.pe<p.le)=true:=decide_eq_true t3;clear t2;gi_wp2;refine⟨trivial,?_⟩;gi_wp2;exact hbb.out
   | true=>
    have t3:¬p.pe<p.le:=by have:=of_decide_eq_true t2;omega
    have t4:decide (p.pe<p.le)=false:=decide_eq_false t3;have T2:=lz t2;clear t2;gi_wp2;refine round_call Hcall.out ?_;rintro e W2 ⟨rfl,hb2⟩;have HB2:=lz hb2;clear r0 f0 m2 p1 p2 p9 hb2
    cases q with
    | false=>
     have hbb:=Hbad.out W2 HB2.out (by rw[Htb.out,t1.out,T2.out];rfl);have r0:=hbb.2.1;have f0:=hbb.2.2;have HBB:=lz hbb.1;clear hbb;gi_wp2;exact HBB.out
    | true=>
     gi_wp2;exact⟨Gr.of_below HB2.out,Hbw.out.trans (HB2.out.mono Hbw.out.size),HT1.out _ (by rw[Htb.out,t1.out,T2.out];rfl)⟩
 case done=>
  rintro D W hD hs ⟨hW,hall⟩ hk;have HF:=lz (show timesP x=true from hall);have hDlt:D<W.heap.size:=(Array.getElem?_eq_some_iff.1 hk).1;have d0:=(Hr0.out.below hW (by omega)).cell 0;have f0:W.frozen? ⟨w.heap.size,0,none⟩=false:=(Hr0.out.below hW (by omega)).frozen 0;have Hb0:=lz (Hr0.out.below hW (by omega));have HB:=lz (Hb1.out.trans (hW.mono Hb1.out.size));have Hk:=lz hk;clear hW hk hall;go_wp2_with fail;have hz0:Blk (W.setCell ⟨w.heap.size,0,none⟩ (.bool true)) w.heap.size 4 #[.bool true]:=by simpa using Hb0.out.set_ 0 (.bool true)
  have Hz0:=lz hz0;clear hz0;refine leaves_marks [D] (W.setCell ⟨w.heap.size,0,none⟩ (.bool true)) (w.heap.size+1) (by simp) (fun E hE=>by simp at hE;subst hE;exact⟨by omega,(Below.heap_setCell W ⟨w.heap.size,0,none⟩ _ E (by simp;omega)).trans Hk.out⟩) fun W' hSh=> ?_
  have z0:=(Hz0.out.below hSh.below (by omega)).cell 0;exact⟨.bool true,by simp[results,Tryz.f26,go_sem,z0],by rw[HF.out],(HB.out.setCell (p:=⟨w.heap.size,0,none⟩) (Nat.le_refl _) _).trans (hSh.below.mono (by omega))⟩
 case ret=>
  rintro D T W3 hD hs hT ⟨h1,h2,h3⟩ hk;have HF:=lz (show timesP x=false from not_all_pre hT h3);have hDlt:D<W3.heap.size:=(Array.getElem?_eq_some_iff.1 hk).1;refine leaves_marks [D] W3 D (by simp) (fun E hE=>by simp at hE;subst hE;exact⟨Nat.le_refl _,hk⟩) fun W' hSh=> ?_
  have z0:=(Blk.below h1 hSh.below (by omega)).cell 0;exact⟨.bool false,by simp[results,Tryz.f26,go_sem,z0],by rw[HF.out],h2.trans (hSh.below.mono (by omega))⟩
theorem fin1{F:Fence}{n:Nat}{P:Program}{fn:Func}{tmps:Array Value}{R:Ending→World→Prop}(D r0 base:Nat)(b b0:Bool)(w W:World)(hr:Blk W r0 4 #[.bool b0])(hk:W.heap[D]?=some (.deferred (some [])))(hDr:r0<D)(hB:Below base w W)(hbr:base≤r0)
 (hres:∀W',W'.cell? ⟨r0,0,none⟩=some (.bool b)→(results fn tmps).run P W'= .ok (.bool b) W') (hR:∀W',Below base w W'→R (.returned (.bool b)) W'):LeavesInM F n P fn tmps R ([D].map markD) .returning (W.setCell ⟨r0,0,none⟩ (.bool b)):=by
 have hDlt:D<W.heap.size:=(Array.getElem?_eq_some_iff.1 hk).1;have hz0:Blk (W.setCell ⟨r0,0,none⟩ (.bool b)) r0 4 #[.bool b]:=by simpa using hr.set_ 0 (.bool b)
 refine leaves_marks [D] (W.setCell ⟨r0,0,none⟩ (.bool b)) (r0+1) (by simp) (fun E hE=>by simp at hE;subst hE;exact⟨by omega,(Below.heap_setCell W ⟨r0,0,none⟩ _ E (by simp;omega)).trans hk⟩) fun W' hSh=> ?_
 have z0:=(hz0.below hSh.below (by omega)).cell 0;exact⟨.bool b,hres W' z0,hR W' ((hB.setCell (p:=⟨r0,0,none⟩) hbr _).trans (hSh.below.mono (by omega)))⟩
end Go.Proofs.YtchfcgilpjkmhaaGreatDoor
