import Derived.Deep.DeepCutAuto
import Derived.Deep.CutBlock
import Derived.Deep.CutRange
import Derived.BigQuiet
import Derived.RegionTactic
import Derived.Test.YtmdgooofdmpcjaaGreatDoorY15
import Derived.Test.YtmdgooofdmpcjaaGreatDoorY16
import Derived.Test.YtmdgooofdmpcjaaGreatDoorY0
set_option maxRecDepth 100000
set_option maxHeartbeats 8000000
set_option linter.unusedSimpArgs false
set_option linter.unusedVariables false
set_option linter.unusedSectionVars false
open Go.Proofs.Tryz renaming prog → pG
namespace Go.Proofs.YtmdgooofdmpcjaaGreatDoor
section
open Go.ChangeShapes Go.WideShapes Go.ChangeAt Go.RowKit
attribute [local go_sem] Oper.semAt_some
def Ut(t:Int):Int:=bits BinOp.and IntKind.i64 t (wrap64 (t-1))
def vlB(x:ay)(y:fU):Bool:= [y.lQ].all (dJ 100 12800)&&(y.lQ.tmod 100==0&&(Ut (wrap64 (y.lQ.tdiv 100))==0&& [y.mx].all (dJ ((fD x y.src).1.sz+8) 72)))
def aFF(x:ay):Bool:=x.aF.l.all (vlB x)
theorem aJA(x:ay)(y:fU)(g Bc:Nat)(w:World)(hb:ah w Bc 92 #[.pointer (some ⟨g,0,none⟩)])(h:tU w g x)(hr:x.rd w w.heap.size)(hsz:(fD x y.src).1.sz≤1000000∧ -1000000≤(fD x y.src).1.sz):
 CU 89 #[y.val,.pointer (some ⟨Bc,0,none⟩)] w (.bool (vlB x y)):=by
 obtain⟨y0,bR⟩:=ez (w.alloc (.cells #[.string y.nm,.string y.src.m,.string y.src.p,.string y.src.o,.int .i64 y.lQ,.int .i64 y.mx,.slice y.dst.a y.dst.l.length y.dst.c] 44));have bW:Below w.heap.size w y0:=by rw[bR];exact bN
 have bS:ah y0 w.heap.size 44 #[.string y.nm,.string y.src.m,.string y.src.p,.string y.src.o,.int .i64 y.lQ,.int .i64 y.mx,.slice y.dst.a y.dst.l.length y.dst.c]:=by rw[bR];exact ah.new w _ _
 have hg0:=h.below bW;have yh:=hb.below bW hb.lt;have jy:=hr.below bW;have KQ:=KR x y.src g y0 hg0 jy;obtain⟨⟨q,i⟩,hq⟩:∃q,q=fD x y.src:=⟨_,rfl⟩;rw[←hq]at KQ hsz;have HN:=lz (show vlB x y=([y.lQ].all (dJ 100 12800)&&(y.lQ.tmod 100==0&&(Ut (wrap64 (y.lQ.tdiv 100))==0&& [y.mx].all (dJ (q.sz+8) 72))))by unfold vlB;rw[←hq]);obtain⟨b,hb'⟩:=ez (vlB x y);rw[←hb']at HN ⊢;have hvb:∀W,Below y0.heap.size y0 W→ah W w.heap.size 44 #[.string y.nm,.string y.src.m,.string y.src.p,.string y.src.o,.int .i64 y.lQ,.int .i64 y.mx,.slice y.dst.a y.dst.l.length y.dst.c]:=fun W hW=>bS.below hW bS.lt
 have St:=lz hvb;have c0:=bR▸yh.cell 0;have v0:=bR▸bS.cell 0;have v1:=bR▸bS.cell 1;have v2:=bR▸bS.cell 2;have v3:=bR▸bS.cell 3;have v4:=bR▸bS.cell 4;have v5:=bR▸bS.cell 5;have v6:=bR▸bS.cell 6;have DL:=hb.lt;have Xy:=lz KQ;have aV:=lz bW;have dV:=lz bR;have hw8:IntKind.i64.wrap (q.sz+8)=q.sz+8:=by have h1:=hsz.1;have h2:=hsz.2;dsimp only at h1 h2;exact IntWalk.i64_in _ ⟨oz,oz⟩
 have Hw8:=lz hw8;clear hvb KQ bW bR bS hg0 yh jy hr h hb hq hb' hsz hw8;go_enter Tryz.func89,Tryz.ntmps89;go_wp2_with fail;rw[←dV.out];refine Xy.out.mono ?_;rintro e y1 ⟨rfl,aU⟩;dsimp only;obtain⟨y2,KT⟩:=ez (y1.alloc (.cells #[.string q.nm,.int .u8 q.kd,.bool q.out,.int .i64 q.sz,.int .i64 q.dp,.int .i64 q.rf] 73));have pq:Below y1.heap.size y1 y2:=by rw[KT];exact bN
 have hqb:ah y2 y1.heap.size 73 #[.string q.nm,.int .u8 q.kd,.bool q.out,.int .i64 q.sz,.int .i64 q.dp,.int .i64 q.rf]:=by rw[KT];exact ah.new y1 _ _
 have iF:=lz (aU.trans (pq.mono aU.size));have Hy2:=lz KT;have Hqb:=lz hqb;have aUw:=hqb.lt;clear c0 v0 v1 v2 v3 v4 v5 v6 aU pq hqb KT Xy;have v0:y2.cell? ⟨w.heap.size,0,none⟩=some (.string y.nm):=(St.out _ iF.out).cell 0;have v1:y2.cell? ⟨w.heap.size,1,none⟩=some (.string y.src.m):=(St.out _ iF.out).cell 1;have v2:y2.cell? ⟨w.heap.size,2,none⟩=some (.string y.src.p):=(St.out _ iF.out).cell 2;have v3:y2.cell? ⟨w.heap.size,3,none⟩=some (.string y.src.o):=(St.out _ iF.out).cell 3;have v4:y2.cell? ⟨w.heap.size,4,none⟩=some (.int .i64 y.lQ):=(St.out _ iF.out).cell 4;have v5:y2.cell? ⟨w.heap.size,5,none⟩=some (.int .i64 y.mx):=(St.out _ iF.out).cell 5;have v6:y2.cell? ⟨w.heap.size,6,none⟩=some (.slice y.dst.a y.dst.l.length y.dst.c):=(St.out _ iF.out).cell 6;have H:=lz (show True from trivial);have v4':(y1.alloc (.cells #[.string q.nm,.int .u8 q.kd,.bool q.out,.int .i64 q.sz,.int .i64 q.dp,.int .i64 q.rf] 73)).cell? ⟨w.heap.size,4,none⟩=some (.int .i64 y.lQ):=by rw[←Hy2.out];exact v4
 obtain⟨t,ht⟩:=ez (wrap64 (y.lQ.tdiv 100));obtain⟨m,hm⟩:=ez (y.lQ.tmod 100);rw[←ht,←hm]at HN;have hc:=dG 100 12800 y.lQ y2;obtain⟨q1,MI⟩:∃q,q= [y.lQ].all (dJ 100 12800):=⟨_,rfl⟩;rw[←MI]at hc HN;have Hc:=lz hc;clear hc MI;go_wp2_with fail;rw[←ht];have hz2:y1.heap.size+1=y2.heap.size:=by rw[Hy2.out];simp
 rw[hz2,←Hy2.out];refine Hc.out.mono ?_;rintro e y3 ⟨rfl,kq⟩;have pz:=lz (iF.out.trans (kq.mono iF.out.size));have aOQ:=lz (Hqb.out.below kq Hqb.out.lt);clear v0 v1 v2 v3 v4 v5 v6 v4' kq Hc;have v0:y3.cell? ⟨w.heap.size,0,none⟩=some (.string y.nm):=(St.out _ pz.out).cell 0;have v1:y3.cell? ⟨w.heap.size,1,none⟩=some (.string y.src.m):=(St.out _ pz.out).cell 1;have v2:y3.cell? ⟨w.heap.size,2,none⟩=some (.string y.src.p):=(St.out _ pz.out).cell 2;have v3:y3.cell? ⟨w.heap.size,3,none⟩=some (.string y.src.o):=(St.out _ pz.out).cell 3;have v4:y3.cell? ⟨w.heap.size,4,none⟩=some (.int .i64 y.lQ):=(St.out _ pz.out).cell 4;have v5:y3.cell? ⟨w.heap.size,5,none⟩=some (.int .i64 y.mx):=(St.out _ pz.out).cell 5;have v6:y3.cell? ⟨w.heap.size,6,none⟩=some (.slice y.dst.a y.dst.l.length y.dst.c):=(St.out _ pz.out).cell 6;have q3:=aOQ.out.cell 3
 cases q1 with
 | false=>
  go_wp2;go_ret;exact⟨by rw[HN.out];rfl,aV.out.trans (pz.out.mono aV.out.size)⟩
 | true=>
  by_cases yc:m=0;rotate_left
  ·have tg:=lz (show b=false by rw[HN.out,show(m==0)=false from by simpa using yc];rfl)
   have hm1:¬y.lQ.tmod 100=0:=by rw[←hm];exact yc
   clear yc hm HN;go_wp2;go_ret;exact⟨by rw[tg.out]<;>rfl,aV.out.trans (pz.out.mono aV.out.size)⟩
  ·have hm1:y.lQ.tmod 100=0:=by rw[←hm];exact yc
   have tg:=lz (show b=(Ut t==0&& [y.mx].all (dJ (q.sz+8) 72))by rw[HN.out,yc];rfl);clear yc hm HN ht;have hc:=dG (q.sz+8) 72 y.mx y3;obtain⟨q2,lS⟩:=ez ( [y.mx].all (dJ (q.sz+8) 72));rw[←lS]at hc tg;have Hc:=lz hc;clear hc lS;by_cases hp:bits BinOp.and IntKind.i64 t (wrap64 (t-1))=0
   ·have Pf:=lz (show b=q2 by rw[tg.out,show Ut t=0 from hp];rfl)
    have hw8:=Hw8.out;clear tg;go_wp2_with fail;refine Hc.out.mono ?_;rintro e y4 ⟨rfl,mF⟩;have Fy:=lz (pz.out.trans (mF.mono pz.out.size));clear mF Hc v0 v1 v2 v3 v4 v5 v6 q3;go_wp2;go_ret;exact⟨by rw[Pf.out]<;>rfl,aV.out.trans (Fy.out.mono aV.out.size)⟩
   ·have Pf:=lz (show b=false by rw[tg.out,show(Ut t==0)=false from by unfold Ut;simpa using hp];rfl)
    clear tg Hc;go_wp2;go_ret;exact⟨by rw[Pf.out]<;>rfl,aV.out.trans (pz.out.mono aV.out.size)⟩
theorem aJD(x:ay)(g:Nat)(w:World)(h:tU w g x)(hr:x.rd w w.heap.size)(hsz:∀y∈x.aF.l,(fD x y.src).1.sz≤1000000∧ -1000000≤(fD x y.src).1.sz):CU 29 #[.pointer (some ⟨g,0,none⟩)] w (.bool (aFF x)):=by
 obtain⟨y0,bR⟩:=ez (w.alloc (.cells #[.pointer (some ⟨g,0,none⟩)] 92));have bW:Below w.heap.size w y0:=by rw[bR];exact bN
 have bS:ah y0 w.heap.size 92 #[.pointer (some ⟨g,0,none⟩)]:=by rw[bR];exact ah.new w _ _
 have hg0:=h.below bW;have jy:=hr.below bW;have hc:=aAy 89 #[.pointer (some ⟨w.heap.size,0,none⟩)] (vlB x) (enters_of Tryz.func89 kz rfl) x.aF.l x.aF.a x.aF.c y0 (fun W r hx hW fK=>by simpa using aJA x r g w.heap.size W (bS.below hW bS.lt) (hg0.below hW) (jy.below hW) (hsz r hx)) jy.aF (nT hr.T9 (nT hr.Ua dz));have k4:=bR▸hg0.cell 4;have HP:=lz (show aFF x=x.aF.l.all (vlB x)from rfl);obtain⟨q,hq⟩:=ez (x.aF.l.all (vlB x));rw[←hq]at hc HP;have Hc:=lz hc;have aV:=lz bW;have dV:=lz bR;have wu:=ah.lt h;clear hc hq bW bR bS hg0 jy hr h hsz;go_enter Tryz.func29,Tryz.ntmps29;go_wp2_with fail;rw[←dV.out];refine Hc.out.mono ?_;rintro e y1 ⟨rfl,aU⟩;have fI:=lz aU;clear aU Hc k4;go_wp2;go_ret;exact⟨by rw[HP.out]<;>rfl,aV.out.trans (fI.out.mono aV.out.size)⟩
theorem XC{X:Nat→Prop}{w W W':World}(h:Gr X w W)(hb:Below w.heap.size W W'):Gr X w W':=
 ⟨hb.os.trans h.os,hb.tape.trans h.tape,hb.output.trans h.output,nT h.size hb.size,fun k hk hn=>(hb.block k hk).trans (h.block k hk hn)⟩
def eS(s:ByteArray):Bool:=s.toList.isEmpty
def KU(x:ay)(y:lF):Bool:=decide (iM x y.a≥0)&&(decide (iM x y.b≥0)&& !(iM x y.a==iM x y.b))
theorem aFH(x:ay)(y:lF)(g Bc:Nat)(w:World)(hb:ah w Bc 92 #[.pointer (some ⟨g,0,none⟩)])(h:tU w g x)(hr:x.rd w w.heap.size)(IK:x.mods.l.length≤100000):
 CU 91 #[y.val,.pointer (some ⟨Bc,0,none⟩)] w (.bool (KU x y)):=by
 obtain⟨y0,bR⟩:=ez (w.alloc (.cells #[.string y.a,.int .i64 y.va,.string y.b,.int .i64 y.vb] 91));have bW:Below w.heap.size w y0:=by rw[bR];exact bN
 have bS:ah y0 w.heap.size 91 #[.string y.a,.int .i64 y.va,.string y.b,.int .i64 y.vb]:=by rw[bR];exact ah.new w _ _
 have hg0:=h.below bW;have yh:=hb.below bW hb.lt;have d0:=bS.cell 0;have d1:=bS.cell 1;have d2:=bS.cell 2;have d3:=bS.cell 3;have c0:=yh.cell 0;have k0:=hg0.cell 0;have hl0:=bS.lt;have DL:=yh.lt;have Cb:=ah.lt hg0;have iR:=bn y0;have jy:=hr.below bW;have au:∀(s:ByteArray) (z:Ext y0),CU 34 #[.slice x.mods.a x.mods.l.length x.mods.c,.func (.func 35) #[] #[],.string s] z.w (.int .i64 (iM x s)):=fun s z=>
  mY s x.mods.l x.mods.a x.mods.c z.w (jy.mods.below z.h) oz
 obtain⟨i,hi⟩:=ez (iM x y.a);obtain⟨j,hj⟩:∃i,i=iM x y.b:=⟨_,rfl⟩;have Sv:=au y.a;have hcb:=au y.b;rw[←hi]at Sv;rw[←hj]at hcb;have HN:=lz (show KU x y=(decide (i≥0)&&(decide (j≥0)&& !(i==j)))by rw[hi,hj];rfl);have Hca:=lz Sv;have Hcb:=lz hcb;have aV:=lz bW;have dV:=lz bR;clear au Sv hcb bW bR bS yh hg0 jy hr h hb hi hj;go_enter Tryz.func91,Tryz.ntmps91;go_wp2_with fail;rw[←dV.out];refine aB kz kz ?_;repeat (go_big_quiet_step ((go_at_call 34;first | with_reducible exact dN (Hca.out _) | with_reducible exact dN (Hcb.out _))))
 refine wpQuiet_nil ?_;intro _ hw';obtain⟨xx,hw''⟩:=hw';subst hw'';have eF:=lz (aV.out.trans (xx.h.mono aV.out.size));clear iR Hca Hcb d0 d1 d2 d3 c0 k0;generalize xx.w=w2 at *;by_cases h1:i≥0;rotate_left
 ·have d1:decide (i≥0)=false:=dF h1
  have tg:=lz (show KU x y=false by rw[HN.out,d1];rfl);clear HN;go_wp2;go_ret;exact⟨by rw[tg.out]<;>rfl,eF.out⟩
 ·have d1:decide (i≥0)=true:=dT h1
  by_cases h2:j≥0;rotate_left
  ·have d2:decide (j≥0)=false:=dF h2
   have tg:=lz (show KU x y=false by rw[HN.out,d1,d2];rfl);clear HN;go_wp2;go_ret;exact⟨by rw[tg.out]<;>rfl,eF.out⟩
  ·have d2:decide (j≥0)=true:=dT h2
   have tg:=lz (show KU x y= !(i==j)by rw[HN.out,d1,d2];rfl);clear HN;go_wp2;go_ret;exact⟨by rw[tg.out]<;>rfl,eF.out⟩
def XD(y:iK)(z:WM):Bool:=(eS y.m||seqB y.m z.1.nm)&&seqB y.p z.2.nm
def qh(y:iK)(T:List WM):Bool:=eS y.p||T.any (XD y)
def aFI(y:iK):Bool:=(!(y.yV==6)&& !(y.yV==7))||(y.lv==3&&eS y.p)
def C4(n:Int):Int:=if n=2∨n=3 then 1 else if n=4∨n=5∨n=6 then 2 else if n=7∨n=8 then 3 else 0
def Qy(x:ay)(y:iK):Bool:=qh y (fE x)&&(aFI y&&((eS y.m||decide (iM x y.m≥0))&&(y.dd==1||C4 y.dd==y.lv)))
def XF(x:ay):Bool:=x.bQ.l.all (Qy x)&&x.aA.l.all (KU x)
theorem aFJ(x:ay)(y:iK)(g Bc Bl:Nat)(w:World)(hb:ah w Bc 92 #[.pointer (some ⟨g,0,none⟩)])(hlv:ah w Bl 180 #[.int .u8 0,.int .u8 0,.int .u8 1,.int .u8 1,.int .u8 2,.int .u8 2,.int .u8 2,.int .u8 3,.int .u8 3])(h:tU w g x)(hr:x.rd w w.heap.size)(IK:x.mods.l.length≤100000)(hd:0≤y.dd∧y.dd≤8):
 CU 90 #[y.val,.pointer (some ⟨Bc,0,none⟩),.pointer (some ⟨Bl,0,none⟩)] w (.bool (Qy x y)):=by
 obtain⟨w1,cN⟩:=ez ((((w.alloc (.cells #[.string y.m,.string y.p,.int .u8 y.yV,.int .u8 y.lv,.int .u8 y.dd] 89)).alloc (.cells #[.bool y.p.toList.isEmpty] 4)).alloc (.cells #[.pointer (some ⟨g,0,none⟩)] 92)));have aU:Below w.heap.size w w1:=by rw[cN];exact((bN).alloc qz _).alloc qo _
 have hbh:ah w1 w.heap.size 89 #[.string y.m,.string y.p,.int .u8 y.yV,.int .u8 y.lv,.int .u8 y.dd]:=by rw[cN];exact((ah.new w _ _).alloc _).alloc _
 have Sw:ah w1 (w.heap.size+1) 4 #[.bool y.p.toList.isEmpty]:=by rw[cN];have:=ah.new (w.alloc (.cells #[.string y.m,.string y.p,.int .u8 y.yV,.int .u8 y.lv,.int .u8 y.dd] 89)) 4 #[.bool y.p.toList.isEmpty];rw[World.size_alloc]at this;exact this.alloc _
 have gP:ah w1 (w.heap.size+1+1) 92 #[.pointer (some ⟨g,0,none⟩)]:=by rw[cN];have:=ah.new ((w.alloc (.cells #[.string y.m,.string y.p,.int .u8 y.yV,.int .u8 y.lv,.int .u8 y.dd] 89)).alloc (.cells #[.bool y.p.toList.isEmpty] 4)) 92 #[.pointer (some ⟨g,0,none⟩)];simp only[World.size_alloc]at this;exact this
 have hz:w1.heap.size=w.heap.size+3:=by rw[cN];simp
 have gH:D6 w1 g (w.heap.size+1+1) w.heap.size x:=⟨gP,h.below aU,hr.dn nL (cZ aU),oz⟩;have wu:=ah.lt h;have um:=lz (CQ x g (w.heap.size+1+1) w.heap.size (fun k=>k=w.heap.size+1) w1 (fun k e=>by subst e;exact⟨oz,oz,oz⟩) (fun k e=>by omega) gH oz);have c00:((w.alloc (.cells #[.string y.m,.string y.p,.int .u8 y.yV,.int .u8 y.lv,.int .u8 y.dd] 89)).alloc (.cells #[.bool y.p.toList.isEmpty] 4)).cell? ⟨Bc,0,none⟩=some (.pointer (some ⟨g,0,none⟩)):=((hb.alloc _).alloc _).cell 0;have d01:=(ah.new w 89 #[.string y.m,.string y.p,.int .u8 y.yV,.int .u8 y.lv,.int .u8 y.dd]).cell 1;have aOR:=hb.lt;have aUy:=hlv.lt;have Mk:=lz gH;have lH:=lz cN;have gh:=lz aU;have Hbh:=lz hbh;have Hbc:=lz (hb.below aU hb.lt);have Hlv:=lz (hlv.below aU hlv.lt);have Hbt:=lz Sw;have Hz:=lz hz;clear h hr cN aU Sw gP hbh hz gH hb hlv;refine(callsIn_wide (n:=9)).1 ?_;refine callsIn_of_wp_marks Tryz.func90 rfl trivial ?_ rfl;simp only[Tryz.ntmps90,List.size_toArray,List.length_cons,List.length_nil,Nat.reduceAdd,Nat.reduceSub,Array.replicate_succ,Array.replicate_zero,List.push_toArray,List.append_toArray,List.nil_append,List.cons_append];refine wpIn_wide.2 ?_;go_wp2_with (go_at_call 70;refine(CX _ _).mono ?_;rintro e w' ⟨rfl,hw'⟩);rw[←lH.out];clear hw' c00 d01;refine(wpIn_wide (n:=9)).1 ?_;have hz1:w.heap.size+3≤w1.heap.size:=Nat.le_of_eq Hz.out.symm;have Xm:w1.heap.size≤w.heap.size+3:=Nat.le_of_eq Hz.out;have nk:=lz (show Qy x y=(qh y (fE x)&&(aFI y&&((eS y.m||decide (iM x y.m≥0))&&(y.dd==1||C4 y.dd==y.lv))))from rfl);refine tQ (gf:=151) (lb:= #[.pointer (some ⟨w.heap.size+1+1,0,none⟩)]) (encs:=II) (xs:=fE x) (X:=fun k=>k=w.heap.size+1) (XE:=fun _=>False) rfl (enters_of Tryz.func151 kz rfl) (fun _=>rfl) (fun k e=>by omega) (fun _ h=>h.elim) um.out
  (fun T W=>Gr (fun k=>k=w.heap.size+1) w1 W∧ah W (w.heap.size+1) 4 #[.bool (qh y T)])
  (fun T W=>False) ?hI ?RU ?TG
  (fun z a' W=>∃m p Bm Bp,z=(m,p)∧w1.heap.size≤Bm∧w1.heap.size≤Bp∧ah W Bm 67 #[.string m.nm,.int .i64 m.mem,.int .i64 m.fr,.slice m.parts.a m.parts.l.length m.parts.c]∧ah W Bp 71 #[.string p.nm,.int .i64 p.pe,.int .i64 p.le,.int .i64 p.mem,.slice p.aG.a p.aG.l.length p.aG.c,.int .i64 p.ev,.int .i64 p.bo,.slice p.aX.a p.aX.l.length p.aX.c,.slice p.aq.a p.aq.l.length p.aq.c,.slice p.procs.a p.procs.l.length p.procs.c]∧a'={tmps:= #[y.val,.pointer (some ⟨Bc,0,none⟩),.pointer (some ⟨Bl,0,none⟩),.pointer (some ⟨w.heap.size,0,none⟩),.bool false,.pointer (some ⟨w.heap.size+1,0,none⟩),.pointer (some ⟨Bm,0,none⟩),.pointer (some ⟨Bp,0,none⟩),undef,.pointer (some ⟨w.heap.size,1,none⟩),.string y.p,.bool y.p.toList.isEmpty,.pointer (some ⟨g,0,none⟩),.func (.func 151) #[] #[.pointer (some ⟨w.heap.size+1+1,0,none⟩)],m.val,p.val,undef,undef,undef,undef,undef,undef,undef,undef,undef,undef,undef,undef,undef,undef,undef,undef,undef,undef,undef,undef,undef,undef,undef,undef,undef,undef,undef,undef,undef,undef,undef,undef,undef,undef,undef,undef,undef,undef,undef,undef,undef,undef,undef,undef,undef,undef,undef,undef,undef,undef,undef,undef,undef,undef,undef,undef,undef,undef,undef,undef,undef,undef,undef,undef,undef,undef,undef,undef,undef,undef,undef,undef],defers:= []}) ?Kf ?assign ?body ?done ?ret
 case hI=>exact fun T W W' h hb=>⟨XC h.1 hb,ah.below h.2 hb oz⟩
 case RU=>exact fun T W W' h hb=>h
 case TG=>exact⟨Gr.refl _ _,by simpa [qh,eS]using Hbt.out⟩
 case Kf=>
  rintro z l a' W o o' hl ho hc ⟨m,p,Bm,Bp,e,h1,h2,h3,h4,h5⟩;exact⟨m,p,Bm,Bp,e,h1,h2,mW h3 ho hc,mW h4 ho hc,h5⟩
 case assign=>
  rintro l T ⟨m,p⟩ W K hT hsz hK;gi_wp2;refine hK _ _ ((bN).alloc qz _) ⟨m,p,W.heap.size,W.heap.size+1,rfl,?_,?_,(ah.new W _ _).alloc _,?_,rfl⟩
  ·omega
  ·omega
  ·have:=ah.new (W.alloc (.cells #[.string m.nm,.int .i64 m.mem,.int .i64 m.fr,.slice m.parts.a m.parts.l.length m.parts.c] 67)) 71 #[.string p.nm,.int .i64 p.pe,.int .i64 p.le,.int .i64 p.mem,.slice p.aG.a p.aG.l.length p.aG.c,.int .i64 p.ev,.int .i64 p.bo,.slice p.aX.a p.aX.l.length p.aX.c,.slice p.aq.a p.aq.l.length p.aq.c,.slice p.procs.a p.procs.l.length p.procs.c]
   rwa[World.size_alloc]at this
 case body=>
  rintro l T z a' W hT hsz hG ⟨hgr,Sw⟩ ⟨m,p,Bm,Bp,rfl,h1,h2,CY,kg,rfl⟩;have hW:=hgr.blk Hbh.out oz;have y0:=hW.cell 0;have y1:=hW.cell 1;have m0:=CY.cell 0;have p0:=kg.cell 0;have hlm:=CY.lt;have Vx:=kg.lt;have hlt:=Sw.lt;have hlh:=hW.lt;have hth:qh y (T++ [(m,p)])=(qh y T||((eS y.m||seqB y.m m.nm)&&seqB y.p p.nm)):=by
   unfold qh;rw[List.any_append];simp[XD,Bool.or_assoc]
  obtain⟨b,hb⟩:=ez (qh y T);obtain⟨v,hv⟩:=ez (qh y (T++ [(m,p)]));rw[←hb]at Sw hth;rw[←hv]at hth ⊢;have r0:=Sw.cell 0;have f0:=Sw.frozen 0;have iJ:∀u,v=u→Gr (fun k=>k=w.heap.size+1) W (W.setCell ⟨w.heap.size+1,0,none⟩ (.bool u))∧Gr (fun k=>k=w.heap.size+1) w1 (W.setCell ⟨w.heap.size+1,0,none⟩ (.bool u))∧ah (W.setCell ⟨w.heap.size+1,0,none⟩ (.bool u)) (w.heap.size+1) 4 #[.bool v]:=fun u hu=>by
   have hs:=Gr.setCell (X:=fun k=>k=w.heap.size+1) W ⟨w.heap.size+1,0,none⟩ (.bool u) rfl;exact⟨hs,hgr.trans hs,by rw[hu];simpa using Sw.bX 0 (.bool u)⟩
  have Hth:=lz hth;have vQ:=lz iJ;clear hth iJ Sw hgr hG CY kg hW hb hv hT
  cases b with
  | true=>
   have mz:=lz (vQ.out true (by rw[Hth.out];rfl));gi_wp2;exact mz.out
  | false=>
   cases e1:y.m.toList.isEmpty with
   | true=>
    have mz:=lz (vQ.out (y.p.toList==p.nm.toList) (by rw[Hth.out,show eS y.m=true from e1];rfl));gi_wp2;exact mz.out
   | false=>
    cases e2:(y.m.toList==m.nm.toList)with
    | false=>
     have mz:=lz (vQ.out false (by rw[Hth.out,show eS y.m=false from e1,show seqB y.m m.nm=false from e2];rfl));gi_wp2;exact mz.out
    | true=>
     have mz:=lz (vQ.out (y.p.toList==p.nm.toList) (by rw[Hth.out,show eS y.m=false from e1,show seqB y.m m.nm=true from e2];rfl));gi_wp2;exact mz.out
 case ret=>exact fun D T W3 hD hs hT h hk=>h.elim
 case done=>
  rintro D W hD hs ⟨hgr,Sw⟩ hk;have hW:=hgr.blk Hbh.out oz;have Pp:=hgr.blk Hbc.out oz;have XG:=hgr.blk Hlv.out oz;have gH:=Mk.out.gr (X:=fun k=>k=w.heap.size+1) (fun k e=>by subst e;exact⟨oz,oz,oz⟩) hgr;have hrW:x.rd W W.heap.size:=gH.r.more gH.B;have aBp:Below w.heap.size w W:=⟨hgr.os.trans gh.out.os,hgr.tape.trans gh.out.tape,hgr.output.trans gh.out.output,nT gh.out.size hgr.size,fun k hk=>(hgr.block k oz oz).trans (gh.out.block k hk)⟩;obtain⟨n,hn,KV⟩:∃n:Nat,y.dd=(n:Int)∧n≤8:=⟨y.dd.toNat,oz,oz⟩;have XH:W.cell? ⟨Bl,y.dd.toNat,none⟩=some (.int .u8 (C4 y.dd)):=by
   rw[hn,Int.toNat_natCast];have h9:n=0∨n=1∨n=2∨n=3∨n=4∨n=5∨n=6∨n=7∨n=8:=by omega
   rcases h9 with rfl | rfl | rfl | rfl | rfl | rfl | rfl | rfl | rfl
   ·exact XG.cell 0
   ·exact XG.cell 1
   ·exact XG.cell 2
   ·exact XG.cell 3
   ·exact XG.cell 4
   ·exact XG.cell 5
   ·exact XG.cell 6
   ·exact XG.cell 7
   ·exact XG.cell 8
  obtain⟨lo,VY⟩:=ez (C4 y.dd);rw[←VY]at XH nk;have y0:=hW.cell 0;have y1:=hW.cell 1;have y2:=hW.cell 2;have y3:=hW.cell 3;have y4:=hW.cell 4;have c0:=Pp.cell 0;have k0:=gH.g.cell 0;obtain⟨b,hb⟩:=ez (qh y (fE x));rw[←hb]at Sw nk;have r0:=Sw.cell 0;have l0:=hW.lt;have l1:=Pp.lt;have l2:=XG.lt;have l3:=ah.lt gH.g;have l4:=Sw.lt;obtain⟨dd,hdd⟩:∃d,d=y.dd:=⟨_,rfl⟩;rw[←hdd]at XH y4 nk;have i0:(0:Int)≤dd:=by omega
  have i1:dd<9:=by omega
  have au:∀z:Ext W,CU 34 #[.slice x.mods.a x.mods.l.length x.mods.c,.func (.func 35) #[] #[],.string y.m] z.w (.int .i64 (iM x y.m)):=fun z=>
   mY y.m x.mods.l x.mods.a x.mods.c z.w (hrW.mods.below z.h) oz
  obtain⟨mi,hmi⟩:∃i,i=iM x y.m:=⟨_,rfl⟩;rw[←hmi]at nk;simp only[←hmi]at au;obtain⟨rb,iy⟩:∃r,r=Qy x y:=⟨_,rfl⟩;rw[←iy]at nk;have XI:=lz iy;have aN:=lz au;have Hk:=lz hk;have sG:=lz aBp;obtain⟨ob,Cc⟩:∃o,o=aFI y:=⟨_,rfl⟩;rw[←Cc]at nk;have Sy:=lz (show ob=((!(y.yV==6)&& !(y.yV==7))||(y.lv==3&&y.p.toList.isEmpty))by rw[Cc];rfl);clear hgr Sw hW Pp XG gH hrW aBp au hk hb hmi iy Cc hn VY hd hdd KV;go_upto_region 6 with fail
  go_cut [8]from 36 to 53 (fun s wc=>s= .bool ob∧wc=W)
  case first=>
   by_cases h6:y.yV=6
   ·cases h3:(y.lv==3)with
    | false=>
     have h3':¬y.lv=3:=by simpa using h3
     have he:=lz (show ob=false by rw[Sy.out,h6,h3];rfl);clear h3 Sy;go_wp2_with fail;go_meet;exact⟨by rw[he.out]<;>rfl,rfl⟩
    | true=>
     have h3':y.lv=3:=by simpa using h3
     have he:=lz (show ob=y.p.toList.isEmpty by rw[Sy.out,h6,h3];rfl);clear h3 Sy;go_wp2_with fail;go_meet;exact⟨by rw[he.out]<;>rfl,rfl⟩
   ·have g6:(y.yV==6)=false:=by simpa using h6
    by_cases h7:y.yV=7
    ·cases h3:(y.lv==3)with
     | false=>
      have h3':¬y.lv=3:=by simpa using h3
      have he:=lz (show ob=false by rw[Sy.out,h7,h3];rfl);clear h3 Sy g6;go_wp2_with fail;go_meet;exact⟨by rw[he.out]<;>rfl,rfl⟩
     | true=>
      have h3':y.lv=3:=by simpa using h3
      have he:=lz (show ob=y.p.toList.isEmpty by rw[Sy.out,h7,h3];rfl);clear h3 Sy g6;go_wp2_with fail;go_meet;exact⟨by rw[he.out]<;>rfl,rfl⟩
    ·have he:=lz (show ob=true by rw[Sy.out,g6,show(y.yV==7)=false from by simpa using h7];rfl)
     clear Sy g6;go_wp2_with fail;go_meet;exact⟨by rw[he.out]<;>rfl,rfl⟩
  case rest=>
   obtain⟨rfl,rfl⟩:=hcut;clear Sy y1 y2
   cases b with
   | false=>
    have he:=lz (show rb=false by rw[nk.out];rfl);clear nk;have iR:=bn wc;go_wp2_with fail;refine aB kz kz ?_;repeat (go_big_quiet_step ((go_at_call 34;with_reducible exact dN (aN.out _))))
    refine wpQuiet_nil ?_;intro _ hw';obtain⟨xx,hw''⟩:=hw';subst hw'';have HX:=lz xx.h;clear iR aN y0 y3 y4 XH c0 k0 r0;generalize xx.w=w2 at *;go_wp2_with fail;refine bP [D] w2 D qz (fun E hE=>by simp at hE;rw[hE];exact⟨nL,(HX.out.block D (gE Hk.out).1).trans Hk.out⟩) fun W' j5=> ?_
    refine⟨.bool rb,by rw[he.out];simp[results,Tryz.f90,go_sem],by rw[XI.out],(sG.out.trans (HX.out.mono sG.out.size)).trans (j5.below.mono (by have:=HX.out.size;have:=(gE Hk.out).1;omega))⟩
   | true=>
    cases ob with
    | false=>
     have he:=lz (show rb=false by rw[nk.out];rfl);clear nk;have iR:=bn wc;go_wp2_with fail;refine aB kz kz ?_;repeat (go_big_quiet_step ((go_at_call 34;with_reducible exact dN (aN.out _))))
     refine wpQuiet_nil ?_;intro _ hw';obtain⟨xx,hw''⟩:=hw';subst hw'';have HX:=lz xx.h;clear iR aN y0 y3 y4 XH c0 k0 r0;generalize xx.w=w2 at *;go_wp2_with fail;refine bP [D] w2 D qz (fun E hE=>by simp at hE;rw[hE];exact⟨nL,(HX.out.block D (gE Hk.out).1).trans Hk.out⟩) fun W' j5=> ?_
     refine⟨.bool rb,by rw[he.out];simp[results,Tryz.f90,go_sem],by rw[XI.out],(sG.out.trans (HX.out.mono sG.out.size)).trans (j5.below.mono (by have:=HX.out.size;have:=(gE Hk.out).1;omega))⟩
    | true=>
     cases e1:y.m.toList.isEmpty with
     | true=>
      by_cases d1:dd=1
      ·subst d1
       have he:=lz (show rb=true by rw[nk.out,show eS y.m=true from e1];rfl);clear nk;have iR:=bn wc;go_wp2_with fail;refine aB kz kz ?_;repeat (go_big_quiet_step ((go_at_call 34;with_reducible exact dN (aN.out _))))
       refine wpQuiet_nil ?_;intro _ hw';obtain⟨xx,hw''⟩:=hw';subst hw'';have HX:=lz xx.h;clear iR aN y0 y3 y4 XH c0 k0 r0;generalize xx.w=w2 at *;go_wp2_with fail;refine bP [D] w2 D qz (fun E hE=>by simp at hE;rw[hE];exact⟨nL,(HX.out.block D (gE Hk.out).1).trans Hk.out⟩) fun W' j5=> ?_
       refine⟨.bool rb,by rw[he.out];simp[results,Tryz.f90,go_sem],by rw[XI.out],(sG.out.trans (HX.out.mono sG.out.size)).trans (j5.below.mono (by have:=HX.out.size;have:=(gE Hk.out).1;omega))⟩
      ·have d2:¬dd=1:=d1
       have d3:(dd==1)=false:=by simpa using d2
       cases d4:(lo==y.lv)with
       | false=>
        have d5:¬lo=y.lv:=by simpa using d4
        have he:=lz (show rb=false by rw[nk.out,show eS y.m=true from e1,d3,d4];rfl);clear nk;have iR:=bn wc;go_wp2_with fail;refine aB kz kz ?_;repeat (go_big_quiet_step ((go_at_call 34;with_reducible exact dN (aN.out _))))
        refine wpQuiet_nil ?_;intro _ hw';obtain⟨xx,hw''⟩:=hw';subst hw'';have HX:=lz xx.h;clear iR aN y0 y3 y4 XH c0 k0 r0;generalize xx.w=w2 at *;go_wp2_with fail;refine bP [D] w2 D qz (fun E hE=>by simp at hE;rw[hE];exact⟨nL,(HX.out.block D (gE Hk.out).1).trans Hk.out⟩) fun W' j5=> ?_
        refine⟨.bool rb,by rw[he.out];simp[results,Tryz.f90,go_sem],by rw[XI.out],(sG.out.trans (HX.out.mono sG.out.size)).trans (j5.below.mono (by have:=HX.out.size;have:=(gE Hk.out).1;omega))⟩
       | true=>
        have d5:lo=y.lv:=by simpa using d4
        have he:=lz (show rb=true by rw[nk.out,show eS y.m=true from e1,d3,d4];rfl);clear nk;have iR:=bn wc;go_wp2_with fail;refine aB kz kz ?_;repeat (go_big_quiet_step ((go_at_call 34;with_reducible exact dN (aN.out _))))
        refine wpQuiet_nil ?_;intro _ hw';obtain⟨xx,hw''⟩:=hw';subst hw'';have HX:=lz xx.h;clear iR aN y0 y3 y4 XH c0 k0 r0;generalize xx.w=w2 at *;go_wp2_with fail;refine bP [D] w2 D qz (fun E hE=>by simp at hE;rw[hE];exact⟨nL,(HX.out.block D (gE Hk.out).1).trans Hk.out⟩) fun W' j5=> ?_
        refine⟨.bool rb,by rw[he.out];simp[results,Tryz.f90,go_sem],by rw[XI.out],(sG.out.trans (HX.out.mono sG.out.size)).trans (j5.below.mono (by have:=HX.out.size;have:=(gE Hk.out).1;omega))⟩
     | false=>
      by_cases h4:mi≥0
      ·have d0:decide (mi≥0)=true:=dT h4
       by_cases d1:dd=1
       ·subst d1
        have he:=lz (show rb=true by rw[nk.out,show eS y.m=false from e1,d0];rfl);clear nk;have iR:=bn wc;go_wp2_with fail;refine aB kz kz ?_;repeat (go_big_quiet_step ((go_at_call 34;with_reducible exact dN (aN.out _))))
        refine wpQuiet_nil ?_;intro _ hw';obtain⟨xx,hw''⟩:=hw';subst hw'';have HX:=lz xx.h;clear iR aN y0 y3 y4 XH c0 k0 r0;generalize xx.w=w2 at *;go_wp2_with fail;refine bP [D] w2 D qz (fun E hE=>by simp at hE;rw[hE];exact⟨nL,(HX.out.block D (gE Hk.out).1).trans Hk.out⟩) fun W' j5=> ?_
        refine⟨.bool rb,by rw[he.out];simp[results,Tryz.f90,go_sem],by rw[XI.out],(sG.out.trans (HX.out.mono sG.out.size)).trans (j5.below.mono (by have:=HX.out.size;have:=(gE Hk.out).1;omega))⟩
       ·have d2:¬dd=1:=d1
        have d3:(dd==1)=false:=by simpa using d2
        cases d4:(lo==y.lv)with
        | false=>
         have d5:¬lo=y.lv:=by simpa using d4
         have he:=lz (show rb=false by rw[nk.out,show eS y.m=false from e1,d0,d3,d4];rfl);clear nk;have iR:=bn wc;go_wp2_with fail;refine aB kz kz ?_;repeat (go_big_quiet_step ((go_at_call 34;with_reducible exact dN (aN.out _))))
         refine wpQuiet_nil ?_;intro _ hw';obtain⟨xx,hw''⟩:=hw';subst hw'';have HX:=lz xx.h;clear iR aN y0 y3 y4 XH c0 k0 r0;generalize xx.w=w2 at *;go_wp2_with fail;refine bP [D] w2 D qz (fun E hE=>by simp at hE;rw[hE];exact⟨nL,(HX.out.block D (gE Hk.out).1).trans Hk.out⟩) fun W' j5=> ?_
         refine⟨.bool rb,by rw[he.out];simp[results,Tryz.f90,go_sem],by rw[XI.out],(sG.out.trans (HX.out.mono sG.out.size)).trans (j5.below.mono (by have:=HX.out.size;have:=(gE Hk.out).1;omega))⟩
        | true=>
         have d5:lo=y.lv:=by simpa using d4
         have he:=lz (show rb=true by rw[nk.out,show eS y.m=false from e1,d0,d3,d4];rfl);clear nk;have iR:=bn wc;go_wp2_with fail;refine aB kz kz ?_;repeat (go_big_quiet_step ((go_at_call 34;with_reducible exact dN (aN.out _))))
         refine wpQuiet_nil ?_;intro _ hw';obtain⟨xx,hw''⟩:=hw';subst hw'';have HX:=lz xx.h;clear iR aN y0 y3 y4 XH c0 k0 r0;generalize xx.w=w2 at *;go_wp2_with fail;refine bP [D] w2 D qz (fun E hE=>by simp at hE;rw[hE];exact⟨nL,(HX.out.block D (gE Hk.out).1).trans Hk.out⟩) fun W' j5=> ?_
         refine⟨.bool rb,by rw[he.out];simp[results,Tryz.f90,go_sem],by rw[XI.out],(sG.out.trans (HX.out.mono sG.out.size)).trans (j5.below.mono (by have:=HX.out.size;have:=(gE Hk.out).1;omega))⟩
      ·have d0:decide (mi≥0)=false:=dF h4
       have he:=lz (show rb=false by rw[nk.out,show eS y.m=false from e1,d0];rfl);clear nk;have iR:=bn wc;go_wp2_with fail;refine aB kz kz ?_;repeat (go_big_quiet_step ((go_at_call 34;with_reducible exact dN (aN.out _))))
       refine wpQuiet_nil ?_;intro _ hw';obtain⟨xx,hw''⟩:=hw';subst hw'';have HX:=lz xx.h;clear iR aN y0 y3 y4 XH c0 k0 r0;generalize xx.w=w2 at *;go_wp2_with fail;refine bP [D] w2 D qz (fun E hE=>by simp at hE;rw[hE];exact⟨nL,(HX.out.block D (gE Hk.out).1).trans Hk.out⟩) fun W' j5=> ?_
       refine⟨.bool rb,by rw[he.out];simp[results,Tryz.f90,go_sem],by rw[XI.out],(sG.out.trans (HX.out.mono sG.out.size)).trans (j5.below.mono (by have:=HX.out.size;have:=(gE Hk.out).1;omega))⟩
theorem aFK(x:ay)(g:Nat)(w:World)(h:tU w g x)(hr:x.rd w w.heap.size)(IK:x.mods.l.length≤100000)(hd:∀y∈x.bQ.l,0≤y.dd∧y.dd≤8):CU 30 #[.pointer (some ⟨g,0,none⟩)] w (.bool (XF x)):=by
 obtain⟨y0,bR⟩:=ez (((w.alloc (.cells #[.pointer (some ⟨g,0,none⟩)] 92)).alloc (.cells #[.int .u8 0,.int .u8 0,.int .u8 1,.int .u8 1,.int .u8 2,.int .u8 2,.int .u8 2,.int .u8 3,.int .u8 3] 180)));have bW:Below w.heap.size w y0:=by rw[bR];exact(bN).alloc qz _
 have bS:ah y0 w.heap.size 92 #[.pointer (some ⟨g,0,none⟩)]:=by rw[bR];exact(ah.new w _ _).alloc _
 have aU:ah y0 (w.heap.size+1) 180 #[.int .u8 0,.int .u8 0,.int .u8 1,.int .u8 1,.int .u8 2,.int .u8 2,.int .u8 2,.int .u8 3,.int .u8 3]:=by rw[bR];have:=ah.new (w.alloc (.cells #[.pointer (some ⟨g,0,none⟩)] 92)) 180 #[.int .u8 0,.int .u8 0,.int .u8 1,.int .u8 1,.int .u8 2,.int .u8 2,.int .u8 2,.int .u8 3,.int .u8 3];rwa[World.size_alloc]at this
 have hg0:=h.below bW;have jy:=hr.below bW;have k5:=bR▸hg0.cell 5;have c0:=bR▸bS.cell 0;have hc1:=MU 90 #[.pointer (some ⟨w.heap.size,0,none⟩),.pointer (some ⟨w.heap.size+1,0,none⟩)] (Qy x) (enters_of Tryz.func90 kz rfl) x.bQ.l x.bQ.a x.bQ.c y0 (fun W r hx hW fK=>by simpa using aFJ x r g w.heap.size (w.heap.size+1) W (bS.below hW bS.lt) (aU.below hW aU.lt) (hg0.below hW) (jy.below hW) IK (hd r hx)) jy.bQ (nT hr.aBJ (nT hr.aBK dz));have qc:=fun W (hW:Below y0.heap.size y0 W)=>Ke 91 #[.pointer (some ⟨w.heap.size,0,none⟩)] (KU x) (enters_of Tryz.func91 kz rfl) x.aA.l x.aA.a x.aA.c W (fun W' r hx hW'=>by simpa using aFH x r g w.heap.size W' (bS.below (hW.trans (hW'.mono hW.size)) bS.lt) (hg0.below (hW.trans (hW'.mono hW.size))) (jy.below (hW.trans (hW'.mono hW.size))) IK) (jy.aA.below hW) (nT hr.R9 (nT hr.Sb dz))
 have hf:∀W,Below y0.heap.size y0 W→W.cell? ⟨w.heap.size,0,none⟩=some (.pointer (some ⟨g,0,none⟩))∧W.cell? ⟨g,7,none⟩=some (.slice x.aA.a x.aA.l.length x.aA.c):=fun W hW=>⟨(bS.below hW bS.lt).cell 0,(hg0.below hW).cell 7⟩
 have HP:=lz (show XF x=(x.bQ.l.all (Qy x)&&x.aA.l.all (KU x))from rfl);obtain⟨q1,MI⟩:∃q,q=x.bQ.l.all (Qy x):=⟨_,rfl⟩;obtain⟨q2,lS⟩:∃q,q=x.aA.l.all (KU x):=⟨_,rfl⟩;rw[←MI]at hc1 HP;rw[←lS]at HP;simp only[←lS]at qc;have Hc1:=lz hc1;have Hc2:=lz qc;have Hf:=lz hf;have aV:=lz bW;have dV:=lz bR;have wu:=ah.lt h;clear hc1 qc MI lS bW bR bS aU hg0 jy hr h hf hd;go_enter Tryz.func30,Tryz.ntmps30;go_wp2_with fail;rw[←dV.out];refine Hc1.out.mono ?_;rintro e y1 ⟨rfl,aU⟩;have fI:=lz aU;have hff:=Hf.out _ aU;have c0:y1.cell? ⟨w.heap.size,0,none⟩=some (.pointer (some ⟨g,0,none⟩)):=hff.1;have k7:y1.cell? ⟨g,7,none⟩=some (.slice x.aA.a x.aA.l.length x.aA.c):=hff.2;have Hc3:=lz (Hc2.out _ aU);clear aU Hc1 k5 hff Hc2 Hf
 cases q1 with
 | false=>
  go_wp2;go_ret;exact⟨by rw[HP.out]<;>rfl,aV.out.trans (fI.out.mono aV.out.size)⟩
 | true=>
  go_wp2_with fail;refine Hc3.out.mono ?_;rintro e y2 ⟨rfl,dI⟩;have iF:=lz (fI.out.trans (dI.mono fI.out.size));clear dI Hc3 c0 k7;go_wp2;go_ret;exact⟨by rw[HP.out]<;>rfl,aV.out.trans (iF.out.mono aV.out.size)⟩
open Go.Act renaming put → zP
open List renaming setIfInBounds_toArray → zA, set_cons_zero → zB, set_cons_succ → zC
theorem NJ(g:Nat)(lb:Array Value)(q:Nat→Bool)(J:Nat→World→Prop)(X:Nat→Prop)(B:Nat)(eg:∀args w,(callFunc g args).run pG w= .ok (.enter g args) w)(l:List aO)(A:Option Addr)(c:Nat)(w:World)
 (hp:∀k (hk:k<l.length) W,J k W→Calls pG g (#[l[k].val]++lb) W fun e w'=>e= .returned (.bool (q k))∧(q k=false→J (k+1) w')∧Gr X W w') (h0:J 0 w) (h:fZ w B A l) (bW:B≤w.heap.size) (hX:∀k,X k→B≤k) (hl:l.length≤9223372036854775807):
 Calls pG 233 #[.slice A l.length c,.func (.func g) #[] lb] w fun e w'=>e= .returned (.int .i64 (cV q (List.range l.length)))∧Gr X w w':=by
 go_enter Tryz.func233,Tryz.ntmps233;go_wp2;go_loopw [5,8] (fun _ i wr=>∃k:Nat,k≤l.length∧i= .int .i64 k∧Gr X w wr∧J k wr∧Hid (∀j,j<l.length→j<k→q j=false)) (fun _ i _=>l.length-(intOf i).toNat)
 case atStart=>exact⟨0,nZ,rfl,Gr.refl _ _,h0,fun j _ h=>absurd h oz⟩
 case round=>
  clear h0;obtain⟨k,hk,rfl,hB,hJ,aJ⟩:=hrel;have HG:=lz hB;by_cases hlt:k<l.length
  ·have hh:=h.dn nL (kN hB bW hX)
   obtain⟨b,o,rfl,hb,hc⟩:=hh oz;have gH:=hc k hlt;have au:=hp k hlt wr hJ;have hs:=hB.size;clear hc hp h hh hJ hB;have cD:q k=true→cV q (List.range l.length)=k:=fun hq=>nX hlt hq aJ.out
   have cQ:q k=false→∀j,j<l.length→j<k+1→q j=false:=fun hq=>ru aJ.out hq
   have dU:=lz cD;have dH:=lz cQ;clear cD cQ aJ;generalize l[k]=r at gH au;obtain⟨c0,c1,c2,c3⟩:=gH;have aN:=lz au;clear au
   cases hq:q k with
   | true=>
    have cD:=lz (dU.out hq);rw[hq]at aN;clear dU dH hq;go_wp2_with (go_at_fn g;refine aN.out.mono ?_;rintro e w' ⟨rfl,hj',hb'⟩);go_ret;exact⟨eT cD.out.symm,HG.out.trans hb'⟩
   | false=>
    have cQ:=lz (dH.out hq);rw[hq]at aN;clear dU dH hq;go_wp2_with (go_at_fn g;refine aN.out.mono ?_;rintro e w' ⟨rfl,hj',hb'⟩;have Hj:=lz (hj' rfl);clear hj');go_roundw
    case rel=>exact⟨k+1,oz,by go_num,HG.out.trans hb',Hj.out,cQ⟩
    case measure=>simp[intOf];omega
  ·go_wp2
   go_ret;exact⟨eT (lG fun j hj=>aJ.out j hj oz).symm,HG.out⟩
theorem Ee(g:Nat)(lb:Array Value)(q:Nat→Bool)(J:Nat→World→Prop)(X:Nat→Prop)(B:Nat)(eg:∀args w,(callFunc g args).run pG w= .ok (.enter g args) w)(l:List aO)(A:Option Addr)(c:Nat)(w:World)
 (hp:∀k (hk:k<l.length) W,J k W→Calls pG g (#[l[k].val]++lb) W fun e w'=>e= .returned (.bool (q k))∧(q k=false→J (k+1) w')∧Gr X W w') (h0:J 0 w) (h:fZ w B A l) (bW:B≤w.heap.size) (hX:∀k,X k→B≤k) (hl:l.length≤9223372036854775807):
 Calls pG 148 #[.slice A l.length c,.func (.func g) #[] lb] w fun e w'=>e= .returned (.bool ((List.range l.length).any q))∧Gr X w w':=by
 have hI:=NJ g lb q J X B eg l A c w hp h0 h bW hX hl;rw[←eZ];generalize cV q (List.range l.length)=r at hI ⊢;clear h hp h0;go_enter Tryz.func148,Tryz.ntmps148;go_wp2_with fail;refine hI.mono ?_;rintro e w1 ⟨rfl,aU⟩;clear hI;go_wp2;go_ret;exact⟨rfl,aU⟩
theorem Qz(g:Nat)(lb:Array Value)(q:Nat→Bool)(J:Nat→World→Prop)(X:Nat→Prop)(B:Nat)(eg:∀args w,(callFunc g args).run pG w= .ok (.enter g args) w)(l:List aO)(A:Option Addr)(c:Nat)(w:World)
 (hp:∀k (hk:k<l.length) W,J k W→Calls pG g (#[l[k].val]++lb) W fun e w'=>e= .returned (.bool (q k))∧(q k=true→J (k+1) w')∧Gr X W w') (zu:∀k W o,J k W→J k (W.alloc o)) (h0:J 0 w) (h:fZ w B A l) (bW:B≤w.heap.size) (hX:∀k,X k→B≤k∧k<w.heap.size) (hl:l.length≤9223372036854775807):
 Calls pG 68 #[.slice A l.length c,.func (.func g) #[] lb] w fun e w'=>e= .returned (.bool ((List.range l.length).all q))∧Gr X w w':=by
 have h1:=ah.new w 141 #[.func (.func g) #[] lb];have aZ:=Ee 149 #[.pointer (some ⟨w.heap.size,0,none⟩)] (fun k=> !q k) (fun k W=>J k W∧ah W w.heap.size 141 #[.func (.func g) #[] lb]) X B (enters_of Tryz.func149 kz rfl) l A c (w.alloc (.cells #[.func (.func g) #[] lb] 141))
  (fun k hk W hJ=>(TL g lb eg w.heap.size (q k) l[k] W X (fun w'=>q k=true→J (k+1) w') hJ.2 (hp k hk _ (zu _ _ _ hJ.1))).mono fun e w' ⟨e1,e2,e3⟩=>⟨e1,fun hq=>⟨e2 (by simpa using hq),e3.blk hJ.2 fun hx=>absurd (hX _ hx).2 oz⟩,e3⟩)
  ⟨zu _ _ _ h0,h1⟩ (h.dn nL fun b o hb=>World.cell?_alloc_lt w _ ⟨b,o,none⟩ (by simp only;omega)) qo (fun k hk=>(hX k hk).1) hl
 rw[cB]at aZ;have eP:=lz aZ;generalize (List.range l.length).all q=r at *;clear h1 aZ hp h hX zu h0;go_enter Tryz.func68,Tryz.ntmps68;go_wp2_with fail;refine eP.out.mono ?_;rintro e w1 ⟨rfl,hg1⟩;have HG:=lz ((Gr.alloc X w (.cells #[.func (.func g) #[] lb] 141)).trans hg1);clear eP hg1;go_wp2;go_ret;exact⟨by cases r<;>rfl,HG.out⟩
def iP(x:ay)(net n:Int)(st:List kY×Int):Option (List kY×Int):=
 if n<0 then none
 else if n-x.mods.l.length≥0 then(if ((x.aP.l[(n-x.mods.l.length).toNat]?).map (·.net)).getD 0=net then some (st.1,st.2+1)else none)
 else if fP ⟨n,net⟩ st.1=true then none else some (st.1++ [⟨n,net⟩],st.2)
def gA(x:ay)(y:aO)(met:List kY):Option (List kY):=
 match iP x y.net (bg x y.a) (met,0)with
 | none=>none
 | some s1=>match iP x y.net (bg x y.b) s1 with
  | none=>none
  | some s2=>if s2.2>0∧¬bg x y.a=bg x y.b then some s2.1 else none
def fJ(x:ay):List aO→List kY→Option (List kY)
 | [],met=>some met
 | y :: r,met=>match gA x y met with | none=>none | some m=>fJ x r m
def tC(x:ay):Bool:=(fJ x x.links.l []).isSome
theorem yj(x:ay)(s:ByteArray):bg x s<x.mods.l.length+x.aP.l.length:=by
 unfold bg;have h1:=kO (fun y:bT=>seqB y.nm s) x.mods.l;have h2:=kO (fun y:iI=>seqB y.nm s) x.aP.l;split
 ·omega
 ·split<;>omega
theorem NK(x:ay)(s:ByteArray): -1≤bg x s:=by
 unfold bg;split
 ·omega
 ·split<;>omega
theorem tD{x:ay}{net n:Int}{st st':List kY×Int}(h:iP x net n st=some st'):st'.1.length≤st.1.length+1∧st'.2≤st.2+1∧st.2≤st'.2:=by
 unfold iP at h;split at h
 ·cases h
 ·split at h
  ·split at h
   ·injection h with h;subst h;exact⟨qz,by simp only;omega,by simp only;omega⟩
   ·cases h
  ·split at h
   ·cases h
   ·injection h with h;subst h;exact⟨qz,by simp only;omega,by simp only;omega⟩
theorem QA{κ:Type}[DecidableEq κ]{M:jX κ}{w:World}{b mb:Nat}{t:TypeId}{cs:Array Value}{l:List κ}(h:ah w b t cs)(hc:aH M w mb l):¬b=mb:=fun e=>by
 subst e;obtain⟨es,ck,ho⟩:=hc.obj;rw[show w.heap[_]?=_ from h]at ho;cases ho
def stk(x:ay)(net a b:Int)(mR:List kY)(k:Nat):Option (List kY×Int):=
 if k=0 then some (mR,0)else if k=1 then iP x net a (mR,0)else(iP x net a (mR,0)).bind (iP x net b)
theorem XJ{x:ay}{net a b:Int}{mR:List kY}{k:Nat}{st:List kY×Int}(hk:k<2)(h:stk x net a b mR k=some st):stk x net a b mR (k+1)=iP x net (if k=0 then a else b) st:=by
 have h2:k=0∨k=1:=by omega
 rcases h2 with rfl | rfl
 ·simp only[stk,if_pos]at h
  injection h with h
  subst h;rfl
 ·have h:iP x net a (mR,0)=some st:=h
  show(iP x net a (mR,0)).bind (iP x net b)=_;rw[h];rfl
theorem aBq{x:ay}{net a b:Int}{mR:List kY}{k:Nat}{st:List kY×Int}(hk:k≤2)(h:stk x net a b mR k=some st):st.1.length≤mR.length+2∧0≤st.2∧st.2≤2:=by
 have h2:k=0∨k=1∨k=2:=by omega
 rcases h2 with rfl | rfl | rfl
 ·simp only[stk,if_pos]at h
  injection h with h
  subst h;simp
 ·have h:iP x net a (mR,0)=some st:=h
  have:=tD h;simp only at this;omega
 ·have h:(iP x net a (mR,0)).bind (iP x net b)=some st:=h
  cases h1:iP x net a (mR,0)with
  | none=>rw[h1]at h;cases h
  | some s1=>
   rw[h1]at h;have h:iP x net b s1=some st:=h;have:=tD h;have:=tD h1;simp only at this;omega
theorem QB{x:ay}{y:aO}{mR:List kY}{k:Nat}(hk:k≤2)(h:stk x y.net (bg x y.a) (bg x y.b) mR k=none):gA x y mR=none:=by
 have h2:k=0∨k=1∨k=2:=by omega
 unfold gA;rcases h2 with rfl | rfl | rfl
 ·cases h
 ·have h:iP x y.net (bg x y.a) (mR,0)=none:=h
  rw[h]
 ·have h:(iP x y.net (bg x y.a) (mR,0)).bind (iP x y.net (bg x y.b))=none:=h
  cases h1:iP x y.net (bg x y.a) (mR,0)with
  | none=>rfl
  | some s1=>
   rw[h1]at h;have h:iP x y.net (bg x y.b) s1=none:=h;simp only[h]
theorem QC{x:ay}{y:aO}{mR:List kY}{st:List kY×Int}(h:stk x y.net (bg x y.a) (bg x y.b) mR 2=some st):gA x y mR=if st.2>0∧¬bg x y.a=bg x y.b then some st.1 else none:=by
 unfold gA;have h:(iP x y.net (bg x y.a) (mR,0)).bind (iP x y.net (bg x y.b))=some st:=h
 cases h1:iP x y.net (bg x y.a) (mR,0)with
 | none=>rw[h1]at h;cases h
 | some s1=>
  rw[h1]at h;have h:iP x y.net (bg x y.b) s1=some st:=h;simp only[h]
theorem aBr(x:ay)(y:aO)(g Bc Bm mb B:Nat)(mR:List kY)(w:World)(hb:ah w Bc 92 #[.pointer (some ⟨g,0,none⟩)])(hm:ah w Bm 172 #[.map (some mb)])(hc:aH KP w mb mR)(h:tU w g x)(hr:x.rd w B)(hB:B≤mb)(IK:x.mods.l.length≤100000)(Qc:x.aP.l.length≤100000)(XK:mR.length≤100000)(pQ:0≤y.net∧y.net≤1):
 Calls pG 86 #[y.val,.pointer (some ⟨Bc,0,none⟩),.pointer (some ⟨Bm,0,none⟩)] w fun e w'=>e= .returned (.bool (gA x y mR).isSome)∧(∀m,gA x y mR=some m→aH KP w' mb m)∧Gr (· =mb) w w':=by
 obtain⟨y0,bR⟩:=ez (w.alloc (.cells #[.string y.a,.string y.b,.int .i64 y.net,.int .i64 y.slow] 46));have bW:Below w.heap.size w y0:=by rw[bR];exact bN
 have bS:ah y0 w.heap.size 46 #[.string y.a,.string y.b,.int .i64 y.net,.int .i64 y.slow]:=by rw[bR];exact ah.new w _ _
 have uH:=QA hb hc;have uU:=QA hm hc;have hng:=QA h hc;have aU1:=hc.lt;have aOR:=hb.lt;have aU2:=hm.lt;have wu:=ah.lt h;have hBs:B≤y0.heap.size:=by have:=bW.size;omega
 have jy:x.rd y0 B:=hr.dn nL (fun b o hb=>bW.cell (p:=⟨b,o,none⟩) (by show b<w.heap.size;omega));have aJ:∀W,Gr (· =mb) y0 W→ah W Bc 92 #[.pointer (some ⟨g,0,none⟩)]∧tU W g x∧ah W w.heap.size 46 #[.string y.a,.string y.b,.int .i64 y.net,.int .i64 y.slow]∧ah W Bm 172 #[.map (some mb)]∧x.rd W B∧B≤W.heap.size:=fun W hG=>
  ⟨hG.blk (hb.below bW hb.lt) uH,(tU.below h bW).gr hG hng,hG.blk bS oz,hG.blk (hm.below bW hm.lt) uU,jy.dn nL (kN hG hBs fun k e=>by subst e;exact hB),nT hBs hG.size⟩
 have I7:∀W,Below y0.heap.size y0 W→(fun W=>W.cell? ⟨Bc,0,none⟩=some (.pointer (some ⟨g,0,none⟩))∧W.cell? ⟨g,0,none⟩=some (.slice x.mods.a x.mods.l.length x.mods.c)∧W.cell? ⟨g,1,none⟩=some (.slice x.aj.a x.aj.l.length x.aj.c)∧W.cell? ⟨g,2,none⟩=some (.slice x.aP.a x.aP.l.length x.aP.c)∧W.cell? ⟨g,3,none⟩=some (.slice x.links.a x.links.l.length x.links.c)∧W.cell? ⟨g,4,none⟩=some (.slice x.aF.a x.aF.l.length x.aF.c)∧W.cell? ⟨g,5,none⟩=some (.slice x.bQ.a x.bQ.l.length x.bQ.c)∧W.cell? ⟨g,6,none⟩=some (.slice x.causes.a x.causes.l.length x.causes.c)∧W.cell? ⟨g,7,none⟩=some (.slice x.aA.a x.aA.l.length x.aA.c)∧W.cell? ⟨w.heap.size,0,none⟩=some (.string y.a)∧W.cell? ⟨w.heap.size,1,none⟩=some (.string y.b)∧W.cell? ⟨w.heap.size,2,none⟩=some (.int .i64 y.net)∧W.cell? ⟨w.heap.size,3,none⟩=some (.int .i64 y.slow)) W:=fun W hW=>by
  obtain⟨h1,h2,h3,-,-,-⟩:=aJ W (Gr.ak hW);exact⟨h1.cell 0,h2.cell 0,h2.cell 1,h2.cell 2,h2.cell 3,h2.cell 4,h2.cell 5,h2.cell 6,h2.cell 7,h3.cell 0,h3.cell 1,h3.cell 2,h3.cell 3⟩
 have Pj:=fun W (hW:Below y0.heap.size y0 W)=>vI x y.a W ((aJ W (Gr.ak hW)).2.2.2.2.1.more (aJ W (Gr.ak hW)).2.2.2.2.2) oz oz
 have aBD:=fun W (hW:Below y0.heap.size y0 W)=>vI x y.b W ((aJ W (Gr.ak hW)).2.2.2.2.1.more (aJ W (Gr.ak hW)).2.2.2.2.2) oz oz
 have HLn:=lz (fun(k:Nat) (hk:k≤2) (h:stk x y.net (bg x y.a) (bg x y.b) mR k=none)=>QB (y:=y) hk h);have HLs:=lz (fun(st:List kY×Int) (h:stk x y.net (bg x y.a) (bg x y.b) mR 2=some st)=>QC (y:=y) h);have FZ:=yj x y.a;have aOU:=NK x y.a;have hlb:=yj x y.b;have aBt:=NK x y.b;obtain⟨a,ha⟩:=ez (bg x y.a);obtain⟨b,hb'⟩:=ez (bg x y.b);simp only[←ha]at Pj HLn HLs FZ aOU;simp only[←hb']at aBD HLn HLs hlb aBt;have Hna:=lz Pj;have Hnb:=lz aBD;have HS:=lz I7;have Co:=lz aJ;have aV:=lz bW;have dV:=lz bR;have Hc0:=lz (hc.next bW);have hHeld:=I7 y0.drew (Below.refl _ y0).drew;clear ha hb' Pj aBD I7 aJ bW bR hc hb hm h hr jy bS;go_enter Tryz.func86,Tryz.ntmps86;go_wp2_with fail;rw[←dV.out];refine aT (fun W=>W.cell? ⟨Bc,0,none⟩=some (.pointer (some ⟨g,0,none⟩))∧W.cell? ⟨g,0,none⟩=some (.slice x.mods.a x.mods.l.length x.mods.c)∧W.cell? ⟨g,1,none⟩=some (.slice x.aj.a x.aj.l.length x.aj.c)∧W.cell? ⟨g,2,none⟩=some (.slice x.aP.a x.aP.l.length x.aP.c)∧W.cell? ⟨g,3,none⟩=some (.slice x.links.a x.links.l.length x.links.c)∧W.cell? ⟨g,4,none⟩=some (.slice x.aF.a x.aF.l.length x.aF.c)∧W.cell? ⟨g,5,none⟩=some (.slice x.bQ.a x.bQ.l.length x.bQ.c)∧W.cell? ⟨g,6,none⟩=some (.slice x.causes.a x.causes.l.length x.causes.c)∧W.cell? ⟨g,7,none⟩=some (.slice x.aA.a x.aA.l.length x.aA.c)∧W.cell? ⟨w.heap.size,0,none⟩=some (.string y.a)∧W.cell? ⟨w.heap.size,1,none⟩=some (.string y.b)∧W.cell? ⟨w.heap.size,2,none⟩=some (.int .i64 y.net)∧W.cell? ⟨w.heap.size,3,none⟩=some (.int .i64 y.slow)) 15 kz hHeld (fun hHeld=> ?_);refine TS 0 rfl hHeld ?_
 simp only[zP,zA,zB,zC];refine TS 1 rfl hHeld ?_
 simp only[zP,zA,zB,zC];refine TS 2 rfl hHeld ?_
 simp only[zP,zA,zB,zC];refine TS 3 rfl hHeld ?_
 simp only[zP,zA,zB,zC];refine TS 4 rfl hHeld ?_
 simp only[zP,zA,zB,zC];refine TS 5 rfl hHeld ?_
 simp only[zP,zA,zB,zC];refine TS 7 rfl hHeld ?_
 simp only[zP,zA,zB,zC];refine TS 8 rfl hHeld ?_
 simp only[zP,zA,zB,zC];refine TS 9 rfl hHeld ?_
 simp only[zP,zA,zB,zC];refine TS 10 rfl hHeld ?_
 simp only[zP,zA,zB,zC];refine TS 11 rfl hHeld ?_
 simp only[zP,zA,zB,zC];refine TS 12 rfl hHeld ?_
 simp only[zP,zA,zB,zC];refine RQ 6 rfl fun K hK=> ?_;go_simp;refine(Hna.out _ (Below.refl _ y0).drew).mono ?_;rintro e w1 ⟨rfl,aU⟩;have aU:Below y0.heap.size y0 w1:=(Below.refl _ y0).drew.trans aU;have hHeld:=HS.out _ aU;have gh:=lz aU;refine hK.out _ _ (fun _=>hHeld) ?_;clear hK aU;refine RQ 13 rfl fun K hK=> ?_;go_simp;refine(Hnb.out _ gh.out).mono ?_;rintro e w2 ⟨rfl,dI⟩;have dI:=gh.out.trans (dI.mono gh.out.size);have hHeld:=HS.out _ dI;have CM:=lz dI;refine hK.out _ _ (fun _=>hHeld) ?_;clear hK dI gh;refine RQ 14 rfl fun K hK=> ?_;go_simp;obtain⟨w3,hw3⟩:=ez (w2.alloc (.cells #[.int .i64 a,.int .i64 b] 3));have Pn:Below y0.heap.size y0 w3:=by rw[hw3];exact CM.out.alloc CM.out.size _
 have iO:ah w3 w2.heap.size 3 #[.int .i64 a,.int .i64 b]:=by rw[hw3];exact ah.new w2 _ _
 rw[←hw3];have hHeld:=HS.out _ Pn;have mP:=lz Pn;have rA:=lz iO;have hz2:=CM.out.size;have hz0:w.heap.size<y0.heap.size:=by have h9:=Co.out y0 (Gr.refl _ _);exact h9.2.2.1.lt
 refine hK.out _ _ (fun _=>hHeld) ?_;clear hK Pn hw3 iO Hna Hnb;refine RQ 15 rfl fun K hK=> ?_;go_simp;refine hK.out _ _ (fun h=>absurd h dz) ?_;clear hK hHeld;refine aL kz ?_ _;obtain⟨be,NC⟩:=ez w2.heap.size;rw[←NC]at rA hz2 ⊢;have Hc3:=lz (Hc0.out.next mP.out);clear NC CM HS;go_wp2;go_loopw [6,27] (fun s t wr=>∃(k:Nat) (st:List kY×Int),k≤2∧t= .int .i64 k∧s= .int .i64 st.2∧Hid (stk x y.net a b mR k=some st)∧aH KP wr mb st.1∧Gr (· =mb) w3 wr) (fun s t wr=>2-(intOf t).toNat)
 case atStart=>exact⟨0,(mR,0),oz,rfl,rfl,lz rfl,Hc3.out,Gr.refl _ _⟩
 case round=>
  obtain⟨k,⟨pl,sc⟩,hk,rfl,rfl,qR,Pk,wk⟩:=hrel;dsimp only at Pk ⊢;have hlen:=aBq hk qR.out;have hG0:Gr (· =mb) y0 wr:=(Gr.ak mP.out).trans wk;have hrw:=wk.blk rA.out oz;obtain⟨g1,g2,g3,g4,g5,g6⟩:=Co.out _ hG0;have c0:=g1.cell 0;have k0:=g2.cell 0;have k2:=g2.cell 2;have y2:=g3.cell 2;have m0:=g4.cell 0;have r0:=hrw.cell 0;have r1:=hrw.cell 1;have gl1:=g1.lt;have gl2:=ah.lt g2;have gl3:=g3.lt;have gl4:=g4.lt;have gl5:=hrw.lt;by_cases hlt:k<2
  ·obtain⟨n,hn⟩:=ez ((if k=0 then a else b))
   have pE:=XJ hlt qR.out;rw[←hn]at pE;have rk:wr.cell? ⟨be,k,none⟩=some (.int .i64 n):=by
    have h2:k=0∨k=1:=by omega
    rcases h2 with rfl | rfl
    ·rw[hn];exact r0
    ·rw[hn];exact r1
   have hnr: -1≤n∧n<x.mods.l.length+x.aP.l.length:=by
    rw[hn];split<;>exact⟨oz,oz⟩
   have hwk:IntKind.i64.wrap (n-(x.mods.l.length:Int))=n-x.mods.l.length:=IntWalk.i64_in _ ⟨oz,oz⟩;have Wq:(k:Int)<2:=by omega
   have lg:=lz pE;have Hcm:=lz Pk;have Qd:=lz wk;have HG0:=lz hG0;have Hst:=lz qR.out;clear hn pE Pk wk hG0 hrw r0 r1 g1 g2 g3 g4 qR;by_cases qw:n<0
   ·have d0:decide (n<0)=true:=dT qw
    have HE:=lz (HLn.out (k+1) oz (by rw[lg.out];unfold iP;rw[if_pos qw]));have iR:=bn wr;go_wp2_with fail;refine aB kz kz ?_;repeat (go_big_quiet_step (fail))
    refine wpQuiet_nil ?_;intro _ hw';obtain⟨xx,hw''⟩:=hw';subst hw'';have HX:=lz xx.h;clear iR c0 k0 k2 y2 m0 rk;generalize xx.w=w5 at *;go_wp2;go_ret;refine⟨by rw[HE.out]<;>rfl,?_,(Gr.ak aV.out).trans (HG0.out.trans (Gr.ak HX.out))⟩;intro m hm;rw[HE.out]at hm
    cases hm
   ·have d0:decide (n<0)=false:=dF qw
    by_cases hk9:n-(x.mods.l.length:Int)≥0
    ·obtain⟨j,hj,hjl⟩:∃j:Nat,n-(x.mods.l.length:Int)=(j:Int)∧j<x.aP.l.length:=⟨(n-(x.mods.l.length:Int)).toNat,oz,oz⟩
     obtain⟨b',o,hA,mz,Mh⟩:=g5.aP oz;obtain⟨s0,s1,s2,s3⟩:=Mh j hjl;have s1:wr.cell? ⟨b',o+(n.toNat-x.mods.l.length)*4+1,none⟩=some (.int .i64 x.aP.l[j].net):=by rw[show n.toNat-x.mods.l.length=j by omega];exact s1
     have hi3:n-(x.mods.l.length:Int)<(x.aP.l.length:Int):=by omega
     have hi4:(0:Int)≤n-(x.mods.l.length:Int):=by omega
     have hi5:(x.mods.l.length:Int)≤n:=by omega
     have Ef:b'<wr.heap.size:=by omega
     have iJ:iP x y.net n (pl,sc)=if x.aP.l[j].net=y.net then some (pl,sc+1)else none:=by
      unfold iP;rw[if_neg qw,if_pos hk9,hj,Int.toNat_natCast,List.getElem?_eq_getElem hjl];rfl
     rw[hA]at k2;rw[iJ]at lg;have d1:decide (n-(x.mods.l.length:Int)≥0)=true:=dT hk9;have d1b:decide ((x.mods.l.length:Int)≤n)=true:=dT hi5;obtain⟨nj,hnj⟩:∃v,v=x.aP.l[j].net:=⟨_,rfl⟩;rw[←hnj]at s1 lg;clear iJ hj Mh s0 s2 s3 hnj g5 hA;by_cases hne:nj=y.net
     ·have hq:(nj==y.net)=true:=by simpa using hne
      rw[if_pos hne]at lg;subst hne;have hws:IntKind.i64.wrap (sc+1)=sc+1:=IntWalk.i64_in _ ⟨oz,oz⟩;have iR:=bn wr;go_wp2_with fail;refine aB kz kz ?_;repeat (go_big_quiet_step (fail))
      refine wpQuiet_nil ?_;intro _ hw';obtain⟨xx,hw''⟩:=hw';subst hw'';have HX:=lz xx.h;clear iR c0 k0 k2 y2 m0 rk;generalize xx.w=w5 at *;clear s1;go_wp2;go_roundw
      case rel=>exact⟨k+1,(pl,sc+1),oz,by go_num,rfl,lz lg.out,Hcm.out.next HX.out,Qd.out.trans (Gr.ak HX.out)⟩
      case measure=>simp[intOf];omega
     ·have hq:(nj==y.net)=false:=by simpa using hne
      rw[if_neg hne]at lg;have HE:=lz (HLn.out (k+1) oz lg.out);have iR:=bn wr;go_wp2_with fail;refine aB kz kz ?_;repeat (go_big_quiet_step (fail))
      refine wpQuiet_nil ?_;intro _ hw';obtain⟨xx,hw''⟩:=hw';subst hw'';have HX:=lz xx.h;clear iR c0 k0 k2 y2 m0 rk;generalize xx.w=w5 at *;go_wp2;go_ret;refine⟨by rw[HE.out]<;>rfl,?_,(Gr.ak aV.out).trans (HG0.out.trans (Gr.ak HX.out))⟩;intro m hm;rw[HE.out]at hm
      cases hm
    ·have d1:decide (n-(x.mods.l.length:Int)≥0)=false:=dF hk9
     have iJ:iP x y.net n (pl,sc)=if fP ⟨n,y.net⟩ pl=true then none else some (pl++ [⟨n,y.net⟩],sc):=by
      unfold iP;rw[if_neg qw,if_neg hk9]
     rw[iJ]at lg;have hi5:¬(x.mods.l.length:Int)≤n:=by omega
     have d1b:decide ((x.mods.l.length:Int)≤n)=false:=dF hi5;clear iJ;have iR:=bn wr;go_wp2_with fail;refine aB kz kz ?_;repeat (go_big_quiet_step (fail))
     refine wpQuiet_nil ?_;intro _ hw';obtain⟨xx,hw''⟩:=hw';subst hw'';have HX:=lz xx.h;clear iR c0 k0 k2 y2 m0 rk;generalize xx.w=w5 at *;have Fw:kY.ok ⟨n,y.net⟩:=⟨WalkArith.wf_i64 (by dsimp only;omega),WalkArith.wf_i64 (by dsimp only;omega)⟩;have hpl:pl.length<maxLen:=by unfold maxLen;have:=hlen.1;omega
     have aFM:aH KP w5.drew mb pl:=(Hcm.out.next HX.out).drew;have hlk:(Instr.lookup 172 (.map (some mb)) (.agg #[.int .i64 n,.int .i64 y.net]) false).run pG w5.drew= .ok (.int .i64 (dR ⟨n,y.net⟩ pl)) w5.drew:=aFM.iH (M:=KP) (y:=⟨n,y.net⟩) Fw;obtain⟨v0,stq,W1,W2,hE,hL,hSt,hC2,eG,hcell⟩:=aFM.Qq (M:=KP) aIz KP.und hpl (y:=⟨n,y.net⟩) Fw;have hG5:Gr (· =mb) y0 w5:=HG0.out.trans (Gr.ak HX.out);obtain⟨g1,g2,g3,g4,g5,g6⟩:=Co.out _ hG5;have c3:=g3.cell 2;have c4:=g4.cell 0;have c5:=(hcell ⟨w.heap.size,2,none⟩ (by show w.heap.size≠mb;omega)).trans c3;have c6:=(hcell ⟨Bm,0,none⟩ (by show Bm≠mb;exact uU)).trans c4;have XL:=vA (⟨n,y.net⟩:kY) pl;have hcb:(dR (⟨n,y.net⟩:kY) pl:Int)≤9223372036854775806:=by unfold maxLen at hpl;omega
     have hc0:(0:Int)≤(dR (⟨n,y.net⟩:kY) pl:Int):=by omega
     have hwr:IntKind.i64.wrap ((dR (⟨n,y.net⟩:kY) pl:Int)+1)=(dR (⟨n,y.net⟩:kY) pl:Int)+1:=IntWalk.i64_in _ oz;have hE:(Instr.mapEntry 172 (.map (some mb)) (.agg #[.int .i64 n,.int .i64 y.net])).run pG w5.drew= .ok (.tuple #[v0,.int .i64 ((stq:Nat):Int)]) W1:=hE;have hL:(Instr.lookup 172 (.map (some mb)) (.agg #[.int .i64 n,.int .i64 y.net]) false).run pG W1= .ok (.int .i64 (dR (⟨n,y.net⟩:kY) pl)) W1:=hL;have hSt:(Instr.entryStore 172 (.map (some mb)) (.int .i64 ((stq:Nat):Int)) (.int .i64 ((dR (⟨n,y.net⟩:kY) pl:Int)+1))).run pG W1= .ok () W2:=hSt;have aBw:(Instr.lookup 172 (.map (some mb)) (.agg #[.int .i64 n,.int .i64 y.net]) false).run pG W2= .ok (.int .i64 (dR (⟨n,y.net⟩:kY) (pl++ [⟨n,y.net⟩]))) W2:=hC2.iH (M:=KP) (y:=⟨n,y.net⟩) Fw;have AX:Gr (· =mb) w5 W2:=⟨eG.os,eG.tape,eG.output,eG.size,fun i hi hne=>eG.block i hi (fun e=>hne (Option.some.inj e))⟩;obtain⟨h1,h2,h3,h4,h5,h6⟩:=Co.out _ (hG5.trans AX);have e3:=h3.cell 2;have e4:=h4.cell 0;have tE:=sP (⟨n,y.net⟩:kY) (⟨n,y.net⟩:kY) pl;rw[if_pos rfl]at tE;have og:=JU (⟨n,y.net⟩:kY) pl;obtain⟨cn,C5⟩:∃c,c=dR (⟨n,y.net⟩:kY) pl:=⟨_,rfl⟩;rw[tE,←C5]at aBw;rw[←C5]at hL hlk hSt hwr hcb hc0 og;have HC2:=lz hC2;have C6:=lz AX;have HG5:=lz hG5;clear hC2 AX hG5 eG hcell XL tE C5 g1 g2 g3 g4 g5 g6 h1 h2 h3 h4 h5 h6 aFM Fw hpl
     cases iU:fP (⟨n,y.net⟩:kY) pl with
     | true=>
      rw[iU]at og;rw[if_pos iU]at lg;have HE:=lz (HLn.out (k+1) oz lg.out);have h7:decide (((cn+1:Nat):Int)>1)=true:=by have:=of_decide_eq_true og;exact dT oz
      have h8:decide (1<cn+1)=true:=by have:=of_decide_eq_true og;exact dT oz
      have h9:0<cn:=of_decide_eq_true og;clear og iU;go_wp2_with fail;go_region;go_wp2;go_ret;refine⟨by rw[HE.out]<;>rfl,?_,(Gr.ak aV.out).trans (HG5.out.trans C6.out)⟩;intro m hm;rw[HE.out]at hm
      cases hm
     | false=>
      rw[iU]at og;rw[if_neg (by rw[iU];decide)]at lg;have h9:¬0<cn:=of_decide_eq_false og;have h8:decide (1<cn+1)=false:=dF oz;have h7:decide (((cn+1:Nat):Int)>1)=false:=dF oz;clear og iU;go_wp2_with fail;go_region;go_wp2;go_roundw
      case rel=>exact⟨k+1,(pl++ [⟨n,y.net⟩],sc),oz,by go_num,rfl,lz lg.out,HC2.out,(Qd.out.trans (Gr.ak HX.out)).trans C6.out⟩
      case measure=>simp[intOf];omega
  ·obtain rfl:k=2:=by omega
   have HF:=lz (HLs.out _ qR.out);have Pb:=hlen.2;simp only at Pb;have Hcm:=lz Pk;have HG0:=lz hG0;clear Pk wk hG0 hrw g1 g2 g3 g4 qR hlt c0 k0 k2 y2 m0 hlen;by_cases hs0:sc>0;rotate_left
   ·have HE:=lz (show gA x y mR=none by rw[HF.out,if_neg (fun h=>hs0 h.1)])
    have d1:decide (sc>0)=false:=dF hs0;have d2:decide (0<sc)=false:=d1;have d3:¬0<sc:=hs0;have iR:=bn wr;go_wp2_with fail;refine aB kz kz ?_;repeat (go_big_quiet_step (fail))
    refine wpQuiet_nil ?_;intro _ hw';obtain⟨xx,hw''⟩:=hw';subst hw'';have HX:=lz xx.h;clear iR r0 r1;generalize xx.w=w5 at *;go_wp2;go_ret;refine⟨by rw[HE.out]<;>rfl,?_,(Gr.ak aV.out).trans (HG0.out.trans (Gr.ak HX.out))⟩;intro m hm;rw[HE.out]at hm
    cases hm
   ·have d1:decide (sc>0)=true:=dT hs0
    have d2:decide (0<sc)=true:=d1;have d3:0<sc:=hs0;by_cases hab:a=b
    ·have HE:=lz (show gA x y mR=none by rw[HF.out,if_neg (fun h=>h.2 hab)])
     have d4:(a==b)=true:=by simpa using hab
     clear hs0;have iR:=bn wr;go_wp2_with fail;refine aB kz kz ?_;repeat (go_big_quiet_step (fail))
     refine wpQuiet_nil ?_;intro _ hw';obtain⟨xx,hw''⟩:=hw';subst hw'';have HX:=lz xx.h;clear iR r0 r1;generalize xx.w=w5 at *;go_wp2;go_ret;refine⟨by rw[HE.out]<;>rfl,?_,(Gr.ak aV.out).trans (HG0.out.trans (Gr.ak HX.out))⟩;intro m hm;rw[HE.out]at hm
     cases hm
    ·have HE:=lz (show gA x y mR=some pl by rw[HF.out,if_pos ⟨hs0,hab⟩])
     have d4:(a==b)=false:=by simpa using hab
     clear hs0;have iR:=bn wr;go_wp2_with fail;refine aB kz kz ?_;repeat (go_big_quiet_step (fail))
     refine wpQuiet_nil ?_;intro _ hw';obtain⟨xx,hw''⟩:=hw';subst hw'';have HX:=lz xx.h;clear iR r0 r1;generalize xx.w=w5 at *;go_wp2;go_ret;refine⟨?_,?_,(Gr.ak aV.out).trans (HG0.out.trans (Gr.ak HX.out))⟩
     ·rw[HE.out]
      show Ending.returned (.bool (a !=b))=_;rw[show(a !=b)=true from by simpa using hab];rfl
     intro m hm;rw[HE.out]at hm;injection hm with hm
     subst hm;exact Hcm.out.next HX.out
theorem tF(x:ay)(y:aO):∀(l:List aO) (met:List kY),fJ x (l++ [y]) met=(fJ x l met).bind (gA x y)
 | [],met=>by
  show(match gA x y met with | none=>none | some m=>fJ x [] m)=gA x y met
  cases gA x y met<;>rfl
 | z :: r,met=>by
  show(match gA x z met with | none=>none | some m=>fJ x (r++ [y]) m)=(match gA x z met with | none=>none | some m=>fJ x r m).bind (gA x y)
  cases gA x z met with
  | none=>rfl
  | some m=>exact tF x y r m
theorem Uu{x:ay}{y:aO}{mR m:List kY}(h:gA x y mR=some m):m.length≤mR.length+2:=by
 unfold gA at h
 cases h1:iP x y.net (bg x y.a) (mR,0)with
 | none=>rw[h1]at h;cases h
 | some s1=>
  rw[h1]at h;simp only at h
  cases h2:iP x y.net (bg x y.b) s1 with
  | none=>rw[h2]at h;cases h
  | some s2=>
   rw[h2]at h;simp only at h;split at h
   ·injection h with h
    subst h;have:=(tD h1).1;have:=(tD h2).1;simp only at *;omega
   ·cases h
theorem tZ{α:Type}{l:List α}{k:Nat}(hk:k<l.length):l.take (k+1)=l.take k++ [l[k]]:=List.take_succ_eq_append_getElem hk
theorem Uv(x:ay)(l:List aO):∀k,k≤l.length→(fJ x l []).isSome=true→(fJ x (l.take k) []).isSome=true:=by
 intro k hk h;obtain⟨d,hd⟩:=ez (l.length-k)
 induction d generalizing k with
 | zero=>rw[List.take_of_length_le oz];exact h
 | succ d ih=>
  have:=ih (k+1) oz oz;rw[tZ oz,tF]at this
  cases h2:fJ x (l.take k) []with
  | none=>rw[h2]at this;cases this
  | some m=>rfl
theorem Uw(x:ay)(l:List aO):((List.range l.length).all fun k=>(fJ x (l.take (k+1)) []).isSome)=(fJ x l []).isSome:=by
 cases h:(fJ x l []).isSome with
 | true=>
  rw[List.all_eq_true];intro k hk;exact Uv x l (k+1) (by simp at hk;omega) h
 | false=>
  cases hl:l with
  | nil=>rw[hl]at h;cases h
  | cons y r=>
   rw[←hl];have hn:0<l.length:=by rw[hl];simp
   rw[List.all_eq_false];exact⟨l.length-1,qo,by rw[show l.length-1+1=l.length by omega,List.take_length,h];decide⟩
theorem aBx(x:ay)(g:Nat)(w:World)(h:tU w g x)(hr:x.rd w w.heap.size)(IK:x.mods.l.length≤100000)(Qc:x.aP.l.length≤100000)(XK:x.links.l.length≤40000)(pQ:∀y∈x.links.l,0≤y.net∧y.net≤1):CU 27 #[.pointer (some ⟨g,0,none⟩)] w (.bool (tC x)):=by
 obtain⟨y0,bR⟩:=ez (((w.alloc (.cells #[.pointer (some ⟨g,0,none⟩)] 92)).alloc (.map #[] 0)).alloc (.cells #[.map (some (w.heap.size+1))] 172));have bW:Below w.heap.size w y0:=by rw[bR];exact((bN).alloc qz _).alloc qo _
 have bS:ah y0 w.heap.size 92 #[.pointer (some ⟨g,0,none⟩)]:=by rw[bR];exact((ah.new w _ _).alloc _).alloc _
 have hc:aH KP y0 (w.heap.size+1) []:=by rw[bR];have:=aH.made (M:=KP) (w.alloc (.cells #[.pointer (some ⟨g,0,none⟩)] 92));rw[World.size_alloc]at this;exact this.alloc _
 have hm:ah y0 (w.heap.size+1+1) 172 #[.map (some (w.heap.size+1))]:=by rw[bR];have:=ah.new ((w.alloc (.cells #[.pointer (some ⟨g,0,none⟩)] 92)).alloc (.map #[] 0)) 172 #[.map (some (w.heap.size+1))];simp only[World.size_alloc]at this;exact this
 have hz:y0.heap.size=w.heap.size+3:=by rw[bR];simp
 have hg0:=h.below bW;have wu:=ah.lt h;have jy:x.rd y0 w.heap.size:=hr.dn nL (cZ bW);have au:=Qz 86 #[.pointer (some ⟨w.heap.size,0,none⟩),.pointer (some ⟨w.heap.size+1+1,0,none⟩)] (fun k=>(fJ x (x.links.l.take (k+1)) []).isSome)
  (fun k W=>∃mR,fJ x (x.links.l.take k) []=some mR∧mR.length≤2*k∧aH KP W (w.heap.size+1) mR∧Gr (fun k=>k=w.heap.size+1) y0 W)
  (fun k=>k=w.heap.size+1) w.heap.size (enters_of Tryz.func86 kz rfl) x.links.l x.links.a x.links.c y0
  (fun k hk W hJ=>by
   obtain⟨mR,h1,h2,h3,h4⟩:=hJ;have hs:fJ x (x.links.l.take (k+1)) []=gA x x.links.l[k] mR:=by rw[tZ hk,tF,h1];rfl
   have hsz:=h4.size;refine(aBr x x.links.l[k] g w.heap.size (w.heap.size+1+1) (w.heap.size+1) w.heap.size mR W (h4.blk bS oz) (h4.blk hm oz) h3 (hg0.gr h4 oz) (jy.dn nL (kN h4 oz (fun k e=>by omega))) oz IK Qc oz (pQ _ (List.getElem_mem hk))).mono ?_;rintro e W' ⟨rfl,h5,h6⟩;refine⟨by simp only[hs],fun hq=> ?_,h6⟩;simp only[hs]at hq;obtain⟨m,Kw⟩:=Option.isSome_iff_exists.1 hq;exact⟨m,by rw[hs,Kw],by have:=Uu Kw;omega,h5 m Kw,h4.trans h6⟩)
  (fun k W o hJ=>by
   obtain⟨mR,h1,h2,h3,h4⟩:=hJ;exact⟨mR,h1,h2,h3.alloc _,h4.trans (Gr.alloc _ _ _)⟩)
  ⟨[],rfl,qz,hc,Gr.refl _ _⟩ jy.links oz (fun k e=>by omega) oz
 rw[Uw]at au;have HP:=lz (show tC x=(fJ x x.links.l []).isSome from rfl);obtain⟨q,hq⟩:=ez ((fJ x x.links.l []).isSome);rw[←hq]at au HP;have k3:=bR▸hg0.cell 3;have Hc:=lz au;have aV:=lz bW;have dV:=lz bR;have hmk:= @run_makeMap pG;clear au hq bW bR bS hc hm hz hg0 jy hr h pQ;go_enter Tryz.func27,Tryz.ntmps27;go_wp2_with fail;rw[←dV.out];refine Hc.out.mono ?_;rintro e y1 ⟨rfl,hg1⟩;have HG:=lz hg1;clear hg1 Hc k3;go_wp2;go_ret;exact⟨by rw[HP.out]<;>rfl,⟨HG.out.os.trans aV.out.os,HG.out.tape.trans aV.out.tape,HG.out.output.trans aV.out.output,nT aV.out.size HG.out.size,fun k hk=>(HG.out.block k (by have:=aV.out.size;omega) oz).trans (aV.out.block k hk)⟩⟩
end
end Go.Proofs.YtmdgooofdmpcjaaGreatDoor
