import Derived.Deep.DeepCutAuto
import Derived.Deep.CutBlock
import Derived.Deep.CutRange
import Derived.BigQuiet
import Derived.Test.YtchfcgilpjkmhaaGreatDoorY28
import Derived.Test.YtchfcgilpjkmhaaGreatDoorY0
set_option maxRecDepth 100000
set_option linter.unusedSimpArgs false
set_option linter.unusedVariables false
set_option linter.unusedSectionVars false
namespace Go.Proofs.YtchfcgilpjkmhaaGreatDoor
open Go.ChangeShapes Go.WideShapes Go.ChangeAt Go.RowKit
attribute [local go_sem] Oper.semAt_some
theorem gr_low{X:Nat→Prop}{w W W':World}(h:Gr X w W)(hb:Below w.heap.size W W'):Gr X w W':=
 ⟨hb.os.trans h.os,hb.tape.trans h.tape,hb.output.trans h.output,Nat.le_trans h.size hb.size,fun k hk hn=>(hb.block k hk).trans (h.block k hk hn)⟩
def eS(s:ByteArray):Bool:=s.toList.isEmpty
def vsnB(x:CfgV)(y:VsnV):Bool:=decide (modI x y.a≥0)&&(decide (modI x y.b≥0)&& !(modI x y.a==modI x y.b))
set_option maxHeartbeats 2000000 in
theorem vsnF_c(x:CfgV)(y:VsnV)(g Bc:Nat)(w:World)(hb:Blk w Bc 104 #[.pointer (some ⟨g,0,none⟩)])(h:CkG w g x)(hr:x.rd w w.heap.size)(hml:x.mods.l.length≤100000):
 CU 91 #[y.val,.pointer (some ⟨Bc,0,none⟩)] w (.bool (vsnB x y)):=by
 obtain⟨y0,hy0⟩:∃y0,y0=w.alloc (.cells #[.string y.a,.int .i64 y.va,.string y.b,.int .i64 y.vb] 96):=⟨_,rfl⟩;have hB0:Below w.heap.size w y0:=by rw[hy0];exact(Below.refl _ _).alloc (Nat.le_refl _) _
 have hb0:Blk y0 w.heap.size 96 #[.string y.a,.int .i64 y.va,.string y.b,.int .i64 y.vb]:=by rw[hy0];exact Blk.new w _ _
 have hg0:=h.below hB0;have hbc:=hb.below hB0 hb.lt;have d0:=hb0.cell 0;have d1:=hb0.cell 1;have d2:=hb0.cell 2;have d3:=hb0.cell 3;have c0:=hbc.cell 0;have k0:=hg0.cell 0;have hl0:=hb0.lt;have hl1:=hbc.lt;have hl2:=Blk.lt hg0;have hec:=ext_cell y0;have hr0:=hr.below hB0;have hcall:∀(s:ByteArray) (z:Ext y0),CU 90 #[.slice x.mods.a x.mods.l.length x.mods.c,.func (.func 76) #[] #[],.string s] z.w (.int .i64 (modI x s)):=fun s z=>
  named_Module s x.mods.l x.mods.a x.mods.c z.w (hr0.mods.below z.h) (by omega)
 obtain⟨i,hi⟩:∃i,i=modI x y.a:=⟨_,rfl⟩;obtain⟨j,hj⟩:∃i,i=modI x y.b:=⟨_,rfl⟩;have hca:=hcall y.a;have hcb:=hcall y.b;rw[←hi]at hca;rw[←hj]at hcb;have HN:=lz (show vsnB x y=(decide (i≥0)&&(decide (j≥0)&& !(i==j)))by rw[hi,hj];rfl);have Hca:=lz hca;have Hcb:=lz hcb;have HB0:=lz hB0;have Hy0:=lz hy0;clear hcall hca hcb hB0 hy0 hb0 hbc hg0 hr0 hr h hb hi hj;go_enter Tryz.func91,Tryz.ntmps91;go_wp2_with fail;rw[←Hy0.out];refine wp_region_ext kz kz ?_;repeat (go_big_quiet_step ((go_at_call 90;first | with_reducible exact ext_call (Hca.out _) | with_reducible exact ext_call (Hcb.out _))))
 refine wpQuiet_nil ?_;intro _ hw';obtain⟨xx,hw''⟩:=hw';subst hw'';have HB2:=lz (HB0.out.trans (xx.h.mono HB0.out.size));clear hec Hca Hcb d0 d1 d2 d3 c0 k0;generalize xx.w=w2 at *;by_cases h1:i≥0;rotate_left
 ·have d1:decide (i≥0)=false:=decide_eq_false h1
  have HN2:=lz (show vsnB x y=false by rw[HN.out,d1];rfl);clear HN;go_wp2_with fail;go_ret;exact⟨by rw[HN2.out]<;>rfl,HB2.out⟩
 ·have d1:decide (i≥0)=true:=decide_eq_true h1
  by_cases h2:j≥0;rotate_left
  ·have d2:decide (j≥0)=false:=decide_eq_false h2
   have HN2:=lz (show vsnB x y=false by rw[HN.out,d1,d2];rfl);clear HN;go_wp2_with fail;go_ret;exact⟨by rw[HN2.out]<;>rfl,HB2.out⟩
  ·have d2:decide (j≥0)=true:=decide_eq_true h2
   have HN2:=lz (show vsnB x y= !(i==j)by rw[HN.out,d1,d2];rfl);clear HN;go_wp2_with fail;go_ret;exact⟨by rw[HN2.out]<;>rfl,HB2.out⟩
def thereP(y:HeaV)(z:MpV):Bool:=(eS y.m||seqB y.m z.1.nm)&&seqB y.p z.2.nm
def thereB(y:HeaV)(T:List MpV):Bool:=eS y.p||T.any (thereP y)
def ownB(y:HeaV):Bool:=(!(y.flt==6)&& !(y.flt==7))||(y.lv==3&&eS y.p)
def levelOf(n:Int):Int:=if n=2∨n=3 then 1 else if n=4∨n=5∨n=6 then 2 else if n=7∨n=8 then 3 else 0
def rowB(x:CfgV)(y:HeaV):Bool:=thereB y (partsV x)&&(ownB y&&((eS y.m||decide (modI x y.m≥0))&&(y.dd==1||levelOf y.dd==y.lv)))
def rowsP(x:CfgV):Bool:=x.hea.l.all (rowB x)&&x.vers.l.all (vsnB x)
set_option maxHeartbeats 4000000 in
theorem rowF_c(x:CfgV)(y:HeaV)(g Bc Bl:Nat)(w:World)(hb:Blk w Bc 104 #[.pointer (some ⟨g,0,none⟩)])(hlv:Blk w Bl 179 #[.int .u8 0,.int .u8 0,.int .u8 1,.int .u8 1,.int .u8 2,.int .u8 2,.int .u8 2,.int .u8 3,.int .u8 3])(h:CkG w g x)(hr:x.rd w w.heap.size)(hml:x.mods.l.length≤100000)(hd:0≤y.dd∧y.dd≤8):
 CU 89 #[y.val,.pointer (some ⟨Bc,0,none⟩),.pointer (some ⟨Bl,0,none⟩)] w (.bool (rowB x y)):=by
 obtain⟨w1,hw1⟩:∃w1,w1=(((w.alloc (.cells #[.string y.m,.string y.p,.int .u8 y.flt,.int .u8 y.lv,.int .u8 y.dd] 94)).alloc (.cells #[.bool y.p.toList.isEmpty] 4)).alloc (.cells #[.pointer (some ⟨g,0,none⟩)] 104)):=⟨_,rfl⟩;have hb1:Below w.heap.size w w1:=by rw[hw1];exact(((Below.refl _ w).alloc (Nat.le_refl _) _).alloc (by simp) _).alloc (by simp;omega) _
 have hbh:Blk w1 w.heap.size 94 #[.string y.m,.string y.p,.int .u8 y.flt,.int .u8 y.lv,.int .u8 y.dd]:=by rw[hw1];exact((Blk.new w _ _).alloc _).alloc _
 have hbt:Blk w1 (w.heap.size+1) 4 #[.bool y.p.toList.isEmpty]:=by rw[hw1];have:=Blk.new (w.alloc (.cells #[.string y.m,.string y.p,.int .u8 y.flt,.int .u8 y.lv,.int .u8 y.dd] 94)) 4 #[.bool y.p.toList.isEmpty];rw[World.size_alloc]at this;exact this.alloc _
 have hbx:Blk w1 (w.heap.size+1+1) 104 #[.pointer (some ⟨g,0,none⟩)]:=by rw[hw1];have:=Blk.new ((w.alloc (.cells #[.string y.m,.string y.p,.int .u8 y.flt,.int .u8 y.lv,.int .u8 y.dd] 94)).alloc (.cells #[.bool y.p.toList.isEmpty] 4)) 104 #[.pointer (some ⟨g,0,none⟩)];simp only[World.size_alloc]at this;exact this
 have hz:w1.heap.size=w.heap.size+3:=by rw[hw1];simp
 have hck:CkRd w1 g (w.heap.size+1+1) w.heap.size x:=⟨hbx,h.below hb1,hr.to_ (Nat.le_refl _) (bcell hb1),by omega⟩;have hgl:=Blk.lt h;have Hseq:=lz (parts_g x g (w.heap.size+1+1) w.heap.size (fun k=>k=w.heap.size+1) w1 (fun k e=>by subst e;exact⟨by omega,by omega,by omega⟩) (fun k e=>by omega) hck (by omega));have c00:((w.alloc (.cells #[.string y.m,.string y.p,.int .u8 y.flt,.int .u8 y.lv,.int .u8 y.dd] 94)).alloc (.cells #[.bool y.p.toList.isEmpty] 4)).cell? ⟨Bc,0,none⟩=some (.pointer (some ⟨g,0,none⟩)):=((hb.alloc _).alloc _).cell 0;have d01:=(Blk.new w 94 #[.string y.m,.string y.p,.int .u8 y.flt,.int .u8 y.lv,.int .u8 y.dd]).cell 1;have hbcl:=hb.lt;have hbll:=hlv.lt;have Hck:=lz hck;have Hw1:=lz hw1;have Hb1:=lz hb1;have Hbh:=lz hbh;have Hbc:=lz (hb.below hb1 hb.lt);have Hlv:=lz (hlv.below hb1 hlv.lt);have Hbt:=lz hbt;have Hz:=lz hz;clear h hr hw1 hb1 hbt hbx hbh hz hck hb hlv;refine(callsIn_wide (n:=9)).1 ?_;refine callsIn_of_wp_marks Tryz.func89 rfl trivial ?_ rfl;simp only[Tryz.ntmps89,List.size_toArray,List.length_cons,List.length_nil,Nat.reduceAdd,Nat.reduceSub,Array.replicate_succ,Array.replicate_zero,List.push_toArray,List.append_toArray,List.nil_append,List.cons_append];refine wpIn_wide.2 ?_;go_wp2_with (go_at_call 65;refine(parts96 _ _).mono ?_;rintro e w' ⟨rfl,hw'⟩);rw[←Hw1.out];clear hw' c00 d01;refine(wpIn_wide (n:=9)).1 ?_;have hz1:w.heap.size+3≤w1.heap.size:=Nat.le_of_eq Hz.out.symm;have hz1b:w1.heap.size≤w.heap.size+3:=Nat.le_of_eq Hz.out;have HRow:=lz (show rowB x y=(thereB y (partsV x)&&(ownB y&&((eS y.m||decide (modI x y.m≥0))&&(y.dd==1||levelOf y.dd==y.lv))))from rfl);refine range_s (gf:=152) (lb:= #[.pointer (some ⟨w.heap.size+1+1,0,none⟩)]) (encs:=mpEnc) (xs:=partsV x) (X:=fun k=>k=w.heap.size+1) (XE:=fun _=>False) rfl (enters_of Tryz.func152 kz rfl) (fun _=>rfl) (fun k e=>by omega) (fun _ h=>h.elim) Hseq.out
  (fun T W=>Gr (fun k=>k=w.heap.size+1) w1 W∧Blk W (w.heap.size+1) 4 #[.bool (thereB y T)])
  (fun T W=>False) ?hI ?hIE ?hI0
  (fun z a' W=>∃m p Bm Bp,z=(m,p)∧w1.heap.size≤Bm∧w1.heap.size≤Bp∧Blk W Bm 70 #[.string m.nm,.int .i64 m.mem,.int .i64 m.fr,.slice m.parts.a m.parts.l.length m.parts.c]∧Blk W Bp 75 #[.string p.nm,.int .i64 p.pe,.int .i64 p.le,.int .i64 p.mem,.slice p.semas.a p.semas.l.length p.semas.c,.int .i64 p.ev,.int .i64 p.bo,.slice p.bufs.a p.bufs.l.length p.bufs.c,.slice p.ports.a p.ports.l.length p.ports.c,.slice p.procs.a p.procs.l.length p.procs.c]∧a'={tmps:= #[y.val,.pointer (some ⟨Bc,0,none⟩),.pointer (some ⟨Bl,0,none⟩),.pointer (some ⟨w.heap.size,0,none⟩),.bool false,.pointer (some ⟨w.heap.size+1,0,none⟩),.pointer (some ⟨Bm,0,none⟩),.pointer (some ⟨Bp,0,none⟩),undef,.pointer (some ⟨w.heap.size,1,none⟩),.string y.p,.bool y.p.toList.isEmpty,.pointer (some ⟨g,0,none⟩),.func (.func 152) #[] #[.pointer (some ⟨w.heap.size+1+1,0,none⟩)],m.val,p.val,undef,undef,undef,undef,undef,undef,undef,undef,undef,undef,undef,undef,undef,undef,undef,undef,undef,undef,undef,undef,undef,undef,undef,undef,undef,undef,undef,undef,undef,undef,undef,undef,undef,undef,undef,undef,undef,undef,undef,undef,undef,undef,undef,undef,undef,undef,undef,undef,undef,undef,undef,undef,undef,undef,undef,undef,undef,undef,undef,undef,undef,undef,undef,undef,undef,undef,undef,undef,undef,undef,undef,undef],defers:= []}) ?hAx ?assign ?body ?done ?ret
 case hI=>exact fun T W W' h hb=>⟨gr_low h.1 hb,Blk.below h.2 hb (by omega)⟩
 case hIE=>exact fun T W W' h hb=>h
 case hI0=>exact⟨Gr.refl _ _,by simpa [thereB,eS]using Hbt.out⟩
 case hAx=>
  rintro z l a' W o o' hl ho hc ⟨m,p,Bm,Bp,e,h1,h2,h3,h4,h5⟩;exact⟨m,p,Bm,Bp,e,h1,h2,blk_put h3 ho hc,blk_put h4 ho hc,h5⟩
 case assign=>
  rintro l T ⟨m,p⟩ W K hT hsz hK;gi_wp2;refine hK _ _ (((Below.refl _ W).alloc (Nat.le_refl _) _).alloc (by simp) _) ⟨m,p,W.heap.size,W.heap.size+1,rfl,?_,?_,(Blk.new W _ _).alloc _,?_,rfl⟩
  ·omega
  ·omega
  ·have:=Blk.new (W.alloc (.cells #[.string m.nm,.int .i64 m.mem,.int .i64 m.fr,.slice m.parts.a m.parts.l.length m.parts.c] 70)) 75 #[.string p.nm,.int .i64 p.pe,.int .i64 p.le,.int .i64 p.mem,.slice p.semas.a p.semas.l.length p.semas.c,.int .i64 p.ev,.int .i64 p.bo,.slice p.bufs.a p.bufs.l.length p.bufs.c,.slice p.ports.a p.ports.l.length p.ports.c,.slice p.procs.a p.procs.l.length p.procs.c]
   rwa[World.size_alloc]at this
 case body=>
  rintro l T z a' W hT hsz hG ⟨hgr,hbt⟩ ⟨m,p,Bm,Bp,rfl,h1,h2,hbm,hbp,rfl⟩;have hW:=hgr.blk Hbh.out (by omega);have y0:=hW.cell 0;have y1:=hW.cell 1;have m0:=hbm.cell 0;have p0:=hbp.cell 0;have hlm:=hbm.lt;have hlp:=hbp.lt;have hlt:=hbt.lt;have hlh:=hW.lt;have hth:thereB y (T++ [(m,p)])=(thereB y T||((eS y.m||seqB y.m m.nm)&&seqB y.p p.nm)):=by
   unfold thereB;rw[List.any_append];simp[thereP,Bool.or_assoc]
  obtain⟨b,hb⟩:∃b,b=thereB y T:=⟨_,rfl⟩;obtain⟨v,hv⟩:∃v,v=thereB y (T++ [(m,p)]):=⟨_,rfl⟩;rw[←hb]at hbt hth;rw[←hv]at hth ⊢;have r0:=hbt.cell 0;have f0:=hbt.frozen 0;have hend:∀u,v=u→Gr (fun k=>k=w.heap.size+1) W (W.setCell ⟨w.heap.size+1,0,none⟩ (.bool u))∧Gr (fun k=>k=w.heap.size+1) w1 (W.setCell ⟨w.heap.size+1,0,none⟩ (.bool u))∧Blk (W.setCell ⟨w.heap.size+1,0,none⟩ (.bool u)) (w.heap.size+1) 4 #[.bool v]:=fun u hu=>by
   have hs:=Gr.setCell (X:=fun k=>k=w.heap.size+1) W ⟨w.heap.size+1,0,none⟩ (.bool u) rfl;exact⟨hs,hgr.trans hs,by rw[hu];simpa using hbt.set_ 0 (.bool u)⟩
  have Hth:=lz hth;have Hend:=lz hend;clear hth hend hbt hgr hG hbm hbp hW hb hv hT
  cases b with
  | true=>
   have hbb:=lz (Hend.out true (by rw[Hth.out];rfl));gi_wp2;exact hbb.out
  | false=>
   cases e1:y.m.toList.isEmpty with
   | true=>
    have hbb:=lz (Hend.out (y.p.toList==p.nm.toList) (by rw[Hth.out,show eS y.m=true from e1];rfl));gi_wp2;exact hbb.out
   | false=>
    cases e2:(y.m.toList==m.nm.toList)with
    | false=>
     have hbb:=lz (Hend.out false (by rw[Hth.out,show eS y.m=false from e1,show seqB y.m m.nm=false from e2];rfl));gi_wp2;exact hbb.out
    | true=>
     have hbb:=lz (Hend.out (y.p.toList==p.nm.toList) (by rw[Hth.out,show eS y.m=false from e1,show seqB y.m m.nm=true from e2];rfl));gi_wp2;exact hbb.out
 case ret=>exact fun D T W3 hD hs hT h hk=>h.elim
 case done=>
  rintro D W hD hs ⟨hgr,hbt⟩ hk;have hW:=hgr.blk Hbh.out (by omega);have hBc:=hgr.blk Hbc.out (by omega);have hLv:=hgr.blk Hlv.out (by omega);have hck:=Hck.out.gr (X:=fun k=>k=w.heap.size+1) (fun k e=>by subst e;exact⟨by omega,by omega,by omega⟩) hgr;have hrW:x.rd W W.heap.size:=hck.r.more hck.B;have hBel:Below w.heap.size w W:=⟨hgr.os.trans Hb1.out.os,hgr.tape.trans Hb1.out.tape,hgr.output.trans Hb1.out.output,Nat.le_trans Hb1.out.size hgr.size,fun k hk=>(hgr.block k (by omega) (by omega)).trans (Hb1.out.block k hk)⟩;obtain⟨n,hn,hn8⟩:∃n:Nat,y.dd=(n:Int)∧n≤8:=⟨y.dd.toNat,by omega,by omega⟩;have lvc:W.cell? ⟨Bl,y.dd.toNat,none⟩=some (.int .u8 (levelOf y.dd)):=by
   rw[hn,Int.toNat_natCast];have h9:n=0∨n=1∨n=2∨n=3∨n=4∨n=5∨n=6∨n=7∨n=8:=by omega
   rcases h9 with rfl | rfl | rfl | rfl | rfl | rfl | rfl | rfl | rfl
   ·exact hLv.cell 0
   ·exact hLv.cell 1
   ·exact hLv.cell 2
   ·exact hLv.cell 3
   ·exact hLv.cell 4
   ·exact hLv.cell 5
   ·exact hLv.cell 6
   ·exact hLv.cell 7
   ·exact hLv.cell 8
  obtain⟨lo,hlo⟩:∃lo,lo=levelOf y.dd:=⟨_,rfl⟩;rw[←hlo]at lvc HRow;have y0:=hW.cell 0;have y1:=hW.cell 1;have y2:=hW.cell 2;have y3:=hW.cell 3;have y4:=hW.cell 4;have c0:=hBc.cell 0;have k0:=hck.g.cell 0;obtain⟨b,hb⟩:∃b,b=thereB y (partsV x):=⟨_,rfl⟩;rw[←hb]at hbt HRow;have r0:=hbt.cell 0;have l0:=hW.lt;have l1:=hBc.lt;have l2:=hLv.lt;have l3:=Blk.lt hck.g;have l4:=hbt.lt;obtain⟨dd,hdd⟩:∃d,d=y.dd:=⟨_,rfl⟩;rw[←hdd]at lvc y4 HRow;have i0:(0:Int)≤dd:=by omega
  have i1:dd<9:=by omega
  have hcall:∀z:Ext W,CU 90 #[.slice x.mods.a x.mods.l.length x.mods.c,.func (.func 76) #[] #[],.string y.m] z.w (.int .i64 (modI x y.m)):=fun z=>
   named_Module y.m x.mods.l x.mods.a x.mods.c z.w (hrW.mods.below z.h) (by omega)
  obtain⟨mi,hmi⟩:∃i,i=modI x y.m:=⟨_,rfl⟩;rw[←hmi]at HRow;simp only[←hmi]at hcall;obtain⟨rb,hrb⟩:∃r,r=rowB x y:=⟨_,rfl⟩;rw[←hrb]at HRow;have Hrb:=lz hrb;have Hcall:=lz hcall;have Hk:=lz hk;have HBel:=lz hBel;obtain⟨ob,hob⟩:∃o,o=ownB y:=⟨_,rfl⟩;rw[←hob]at HRow;have Hob:=lz (show ob=((!(y.flt==6)&& !(y.flt==7))||(y.lv==3&&y.p.toList.isEmpty))by rw[hob];rfl);clear hgr hbt hW hBc hLv hck hrW hBel hcall hk hb hmi hrb hob hn hlo hd hdd hn8;go_upto_region 6 with fail
  go_cut [8]from 36 to 53 (fun s wc=>s= .bool ob∧wc=W)
  case first=>
   by_cases h6:y.flt=6
   ·cases h3:(y.lv==3)with
    | false=>
     have h3':¬y.lv=3:=by simpa using h3
     have he:=lz (show ob=false by rw[Hob.out,h6,h3];rfl);clear h3 Hob;go_wp2_with fail;go_meet;exact⟨by rw[he.out]<;>rfl,rfl⟩
    | true=>
     have h3':y.lv=3:=by simpa using h3
     have he:=lz (show ob=y.p.toList.isEmpty by rw[Hob.out,h6,h3];rfl);clear h3 Hob;go_wp2_with fail;go_meet;exact⟨by rw[he.out]<;>rfl,rfl⟩
   ·have g6:(y.flt==6)=false:=by simpa using h6
    by_cases h7:y.flt=7
    ·cases h3:(y.lv==3)with
     | false=>
      have h3':¬y.lv=3:=by simpa using h3
      have he:=lz (show ob=false by rw[Hob.out,h7,h3];rfl);clear h3 Hob g6;go_wp2_with fail;go_meet;exact⟨by rw[he.out]<;>rfl,rfl⟩
     | true=>
      have h3':y.lv=3:=by simpa using h3
      have he:=lz (show ob=y.p.toList.isEmpty by rw[Hob.out,h7,h3];rfl);clear h3 Hob g6;go_wp2_with fail;go_meet;exact⟨by rw[he.out]<;>rfl,rfl⟩
    ·have he:=lz (show ob=true by rw[Hob.out,g6,show(y.flt==7)=false from by simpa using h7];rfl)
     clear Hob g6;go_wp2_with fail;go_meet;exact⟨by rw[he.out]<;>rfl,rfl⟩
  case rest=>
   obtain⟨rfl,rfl⟩:=hcut;clear Hob y1 y2
   cases b with
   | false=>
    have he:=lz (show rb=false by rw[HRow.out];rfl);clear HRow;have hec:=ext_cell wc;go_wp2_with fail;refine wp_region_ext kz kz ?_;repeat (go_big_quiet_step ((go_at_call 90;with_reducible exact ext_call (Hcall.out _))))
    refine wpQuiet_nil ?_;intro _ hw';obtain⟨xx,hw''⟩:=hw';subst hw'';have HX:=lz xx.h;clear hec Hcall y0 y3 y4 lvc c0 k0 r0;generalize xx.w=w2 at *;go_wp2_with fail;refine leaves_marks [D] w2 D (by simp) (fun E hE=>by simp at hE;rw[hE];exact⟨Nat.le_refl _,(HX.out.block D (Array.getElem?_eq_some_iff.1 Hk.out).1).trans Hk.out⟩) fun W' hSh=> ?_
    refine⟨.bool rb,by rw[he.out];simp[results,Tryz.f89,go_sem],by rw[Hrb.out],(HBel.out.trans (HX.out.mono HBel.out.size)).trans (hSh.below.mono (by have:=HX.out.size;have:=(Array.getElem?_eq_some_iff.1 Hk.out).1;omega))⟩
   | true=>
    cases ob with
    | false=>
     have he:=lz (show rb=false by rw[HRow.out];rfl);clear HRow;have hec:=ext_cell wc;go_wp2_with fail;refine wp_region_ext kz kz ?_;repeat (go_big_quiet_step ((go_at_call 90;with_reducible exact ext_call (Hcall.out _))))
     refine wpQuiet_nil ?_;intro _ hw';obtain⟨xx,hw''⟩:=hw';subst hw'';have HX:=lz xx.h;clear hec Hcall y0 y3 y4 lvc c0 k0 r0;generalize xx.w=w2 at *;go_wp2_with fail;refine leaves_marks [D] w2 D (by simp) (fun E hE=>by simp at hE;rw[hE];exact⟨Nat.le_refl _,(HX.out.block D (Array.getElem?_eq_some_iff.1 Hk.out).1).trans Hk.out⟩) fun W' hSh=> ?_
     refine⟨.bool rb,by rw[he.out];simp[results,Tryz.f89,go_sem],by rw[Hrb.out],(HBel.out.trans (HX.out.mono HBel.out.size)).trans (hSh.below.mono (by have:=HX.out.size;have:=(Array.getElem?_eq_some_iff.1 Hk.out).1;omega))⟩
    | true=>
     cases e1:y.m.toList.isEmpty with
     | true=>
      by_cases d1:dd=1
      ·subst d1
       have he:=lz (show rb=true by rw[HRow.out,show eS y.m=true from e1];rfl);clear HRow;have hec:=ext_cell wc;go_wp2_with fail;refine wp_region_ext kz kz ?_;repeat (go_big_quiet_step ((go_at_call 90;with_reducible exact ext_call (Hcall.out _))))
       refine wpQuiet_nil ?_;intro _ hw';obtain⟨xx,hw''⟩:=hw';subst hw'';have HX:=lz xx.h;clear hec Hcall y0 y3 y4 lvc c0 k0 r0;generalize xx.w=w2 at *;go_wp2_with fail;refine leaves_marks [D] w2 D (by simp) (fun E hE=>by simp at hE;rw[hE];exact⟨Nat.le_refl _,(HX.out.block D (Array.getElem?_eq_some_iff.1 Hk.out).1).trans Hk.out⟩) fun W' hSh=> ?_
       refine⟨.bool rb,by rw[he.out];simp[results,Tryz.f89,go_sem],by rw[Hrb.out],(HBel.out.trans (HX.out.mono HBel.out.size)).trans (hSh.below.mono (by have:=HX.out.size;have:=(Array.getElem?_eq_some_iff.1 Hk.out).1;omega))⟩
      ·have d2:¬dd=1:=d1
       have d3:(dd==1)=false:=by simpa using d2
       cases d4:(lo==y.lv)with
       | false=>
        have d5:¬lo=y.lv:=by simpa using d4
        have he:=lz (show rb=false by rw[HRow.out,show eS y.m=true from e1,d3,d4];rfl);clear HRow;have hec:=ext_cell wc;go_wp2_with fail;refine wp_region_ext kz kz ?_;repeat (go_big_quiet_step ((go_at_call 90;with_reducible exact ext_call (Hcall.out _))))
        refine wpQuiet_nil ?_;intro _ hw';obtain⟨xx,hw''⟩:=hw';subst hw'';have HX:=lz xx.h;clear hec Hcall y0 y3 y4 lvc c0 k0 r0;generalize xx.w=w2 at *;go_wp2_with fail;refine leaves_marks [D] w2 D (by simp) (fun E hE=>by simp at hE;rw[hE];exact⟨Nat.le_refl _,(HX.out.block D (Array.getElem?_eq_some_iff.1 Hk.out).1).trans Hk.out⟩) fun W' hSh=> ?_
        refine⟨.bool rb,by rw[he.out];simp[results,Tryz.f89,go_sem],by rw[Hrb.out],(HBel.out.trans (HX.out.mono HBel.out.size)).trans (hSh.below.mono (by have:=HX.out.size;have:=(Array.getElem?_eq_some_iff.1 Hk.out).1;omega))⟩
       | true=>
        have d5:lo=y.lv:=by simpa using d4
        have he:=lz (show rb=true by rw[HRow.out,show eS y.m=true from e1,d3,d4];rfl);clear HRow;have hec:=ext_cell wc;go_wp2_with fail;refine wp_region_ext kz kz ?_;repeat (go_big_quiet_step ((go_at_call 90;with_reducible exact ext_call (Hcall.out _))))
        refine wpQuiet_nil ?_;intro _ hw';obtain⟨xx,hw''⟩:=hw';subst hw'';have HX:=lz xx.h;clear hec Hcall y0 y3 y4 lvc c0 k0 r0;generalize xx.w=w2 at *;go_wp2_with fail;refine leaves_marks [D] w2 D (by simp) (fun E hE=>by simp at hE;rw[hE];exact⟨Nat.le_refl _,(HX.out.block D (Array.getElem?_eq_some_iff.1 Hk.out).1).trans Hk.out⟩) fun W' hSh=> ?_
        refine⟨.bool rb,by rw[he.out];simp[results,Tryz.f89,go_sem],by rw[Hrb.out],(HBel.out.trans (HX.out.mono HBel.out.size)).trans (hSh.below.mono (by have:=HX.out.size;have:=(Array.getElem?_eq_some_iff.1 Hk.out).1;omega))⟩
     | false=>
      by_cases h4:mi≥0
      ·have d0:decide (mi≥0)=true:=decide_eq_true h4
       by_cases d1:dd=1
       ·subst d1
        have he:=lz (show rb=true by rw[HRow.out,show eS y.m=false from e1,d0];rfl);clear HRow;have hec:=ext_cell wc;go_wp2_with fail;refine wp_region_ext kz kz ?_;repeat (go_big_quiet_step ((go_at_call 90;with_reducible exact ext_call (Hcall.out _))))
        refine wpQuiet_nil ?_;intro _ hw';obtain⟨xx,hw''⟩:=hw';subst hw'';have HX:=lz xx.h;clear hec Hcall y0 y3 y4 lvc c0 k0 r0;generalize xx.w=w2 at *;go_wp2_with fail;refine leaves_marks [D] w2 D (by simp) (fun E hE=>by simp at hE;rw[hE];exact⟨Nat.le_refl _,(HX.out.block D (Array.getElem?_eq_some_iff.1 Hk.out).1).trans Hk.out⟩) fun W' hSh=> ?_
        refine⟨.bool rb,by rw[he.out];simp[results,Tryz.f89,go_sem],by rw[Hrb.out],(HBel.out.trans (HX.out.mono HBel.out.size)).trans (hSh.below.mono (by have:=HX.out.size;have:=(Array.getElem?_eq_some_iff.1 Hk.out).1;omega))⟩
       ·have d2:¬dd=1:=d1
        have d3:(dd==1)=false:=by simpa using d2
        cases d4:(lo==y.lv)with
        | false=>
         have d5:¬lo=y.lv:=by simpa using d4
         have he:=lz (show rb=false by rw[HRow.out,show eS y.m=false from e1,d0,d3,d4];rfl);clear HRow;have hec:=ext_cell wc;go_wp2_with fail;refine wp_region_ext kz kz ?_;repeat (go_big_quiet_step ((go_at_call 90;with_reducible exact ext_call (Hcall.out _))))
         refine wpQuiet_nil ?_;intro _ hw';obtain⟨xx,hw''⟩:=hw';subst hw'';have HX:=lz xx.h;clear hec Hcall y0 y3 y4 lvc c0 k0 r0;generalize xx.w=w2 at *;go_wp2_with fail;refine leaves_marks [D] w2 D (by simp) (fun E hE=>by simp at hE;rw[hE];exact⟨Nat.le_refl _,(HX.out.block D (Array.getElem?_eq_some_iff.1 Hk.out).1).trans Hk.out⟩) fun W' hSh=> ?_
         refine⟨.bool rb,by rw[he.out];simp[results,Tryz.f89,go_sem],by rw[Hrb.out],(HBel.out.trans (HX.out.mono HBel.out.size)).trans (hSh.below.mono (by have:=HX.out.size;have:=(Array.getElem?_eq_some_iff.1 Hk.out).1;omega))⟩
        | true=>
         have d5:lo=y.lv:=by simpa using d4
         have he:=lz (show rb=true by rw[HRow.out,show eS y.m=false from e1,d0,d3,d4];rfl);clear HRow;have hec:=ext_cell wc;go_wp2_with fail;refine wp_region_ext kz kz ?_;repeat (go_big_quiet_step ((go_at_call 90;with_reducible exact ext_call (Hcall.out _))))
         refine wpQuiet_nil ?_;intro _ hw';obtain⟨xx,hw''⟩:=hw';subst hw'';have HX:=lz xx.h;clear hec Hcall y0 y3 y4 lvc c0 k0 r0;generalize xx.w=w2 at *;go_wp2_with fail;refine leaves_marks [D] w2 D (by simp) (fun E hE=>by simp at hE;rw[hE];exact⟨Nat.le_refl _,(HX.out.block D (Array.getElem?_eq_some_iff.1 Hk.out).1).trans Hk.out⟩) fun W' hSh=> ?_
         refine⟨.bool rb,by rw[he.out];simp[results,Tryz.f89,go_sem],by rw[Hrb.out],(HBel.out.trans (HX.out.mono HBel.out.size)).trans (hSh.below.mono (by have:=HX.out.size;have:=(Array.getElem?_eq_some_iff.1 Hk.out).1;omega))⟩
      ·have d0:decide (mi≥0)=false:=decide_eq_false h4
       have he:=lz (show rb=false by rw[HRow.out,show eS y.m=false from e1,d0];rfl);clear HRow;have hec:=ext_cell wc;go_wp2_with fail;refine wp_region_ext kz kz ?_;repeat (go_big_quiet_step ((go_at_call 90;with_reducible exact ext_call (Hcall.out _))))
       refine wpQuiet_nil ?_;intro _ hw';obtain⟨xx,hw''⟩:=hw';subst hw'';have HX:=lz xx.h;clear hec Hcall y0 y3 y4 lvc c0 k0 r0;generalize xx.w=w2 at *;go_wp2_with fail;refine leaves_marks [D] w2 D (by simp) (fun E hE=>by simp at hE;rw[hE];exact⟨Nat.le_refl _,(HX.out.block D (Array.getElem?_eq_some_iff.1 Hk.out).1).trans Hk.out⟩) fun W' hSh=> ?_
       refine⟨.bool rb,by rw[he.out];simp[results,Tryz.f89,go_sem],by rw[Hrb.out],(HBel.out.trans (HX.out.mono HBel.out.size)).trans (hSh.below.mono (by have:=HX.out.size;have:=(Array.getElem?_eq_some_iff.1 Hk.out).1;omega))⟩
set_option maxHeartbeats 1000000 in
theorem rows_g(x:CfgV)(g:Nat)(w:World)(h:CkG w g x)(hr:x.rd w w.heap.size)(hml:x.mods.l.length≤100000)(hd:∀y∈x.hea.l,0≤y.dd∧y.dd≤8):CU 31 #[.pointer (some ⟨g,0,none⟩)] w (.bool (rowsP x)):=by
 obtain⟨y0,hy0⟩:∃y0,y0=((w.alloc (.cells #[.pointer (some ⟨g,0,none⟩)] 104)).alloc (.cells #[.int .u8 0,.int .u8 0,.int .u8 1,.int .u8 1,.int .u8 2,.int .u8 2,.int .u8 2,.int .u8 3,.int .u8 3] 179)):=⟨_,rfl⟩;have hB0:Below w.heap.size w y0:=by rw[hy0];exact((Below.refl _ _).alloc (Nat.le_refl _) _).alloc (by simp) _
 have hb0:Blk y0 w.heap.size 104 #[.pointer (some ⟨g,0,none⟩)]:=by rw[hy0];exact(Blk.new w _ _).alloc _
 have hb1:Blk y0 (w.heap.size+1) 179 #[.int .u8 0,.int .u8 0,.int .u8 1,.int .u8 1,.int .u8 2,.int .u8 2,.int .u8 2,.int .u8 3,.int .u8 3]:=by rw[hy0];have:=Blk.new (w.alloc (.cells #[.pointer (some ⟨g,0,none⟩)] 104)) 179 #[.int .u8 0,.int .u8 0,.int .u8 1,.int .u8 1,.int .u8 2,.int .u8 2,.int .u8 2,.int .u8 3,.int .u8 3];rwa[World.size_alloc]at this
 have hg0:=h.below hB0;have hr0:=hr.below hB0;have k5:=hy0▸hg0.cell 5;have c0:=hy0▸hb0.cell 0;have hc1:=call_Health 89 #[.pointer (some ⟨w.heap.size,0,none⟩),.pointer (some ⟨w.heap.size+1,0,none⟩)] (rowB x) (enters_of Tryz.func89 kz rfl) x.hea.l x.hea.a x.hea.c y0 (fun W r hx hW hrd=>by simpa using rowF_c x r g w.heap.size (w.heap.size+1) W (hb0.below hW hb0.lt) (hb1.below hW hb1.lt) (hg0.below hW) (hr0.below hW) hml (hd r hx)) hr0.hea (Nat.le_trans hr.hea1 (Nat.le_trans hr.hea2 (by decide)));have hc2:=fun W (hW:Below y0.heap.size y0 W)=>call_Version 91 #[.pointer (some ⟨w.heap.size,0,none⟩)] (vsnB x) (enters_of Tryz.func91 kz rfl) x.vers.l x.vers.a x.vers.c W (fun W' r hx hW'=>by simpa using vsnF_c x r g w.heap.size W' (hb0.below (hW.trans (hW'.mono hW.size)) hb0.lt) (hg0.below (hW.trans (hW'.mono hW.size))) (hr0.below (hW.trans (hW'.mono hW.size))) hml) (hr0.vers.below hW) (Nat.le_trans hr.vers1 (Nat.le_trans hr.vers2 (by decide)))
 have hf:∀W,Below y0.heap.size y0 W→W.cell? ⟨w.heap.size,0,none⟩=some (.pointer (some ⟨g,0,none⟩))∧W.cell? ⟨g,7,none⟩=some (.slice x.vers.a x.vers.l.length x.vers.c):=fun W hW=>⟨(hb0.below hW hb0.lt).cell 0,(hg0.below hW).cell 7⟩
 have HP:=lz (show rowsP x=(x.hea.l.all (rowB x)&&x.vers.l.all (vsnB x))from rfl);obtain⟨q1,hq1⟩:∃q,q=x.hea.l.all (rowB x):=⟨_,rfl⟩;obtain⟨q2,hq2⟩:∃q,q=x.vers.l.all (vsnB x):=⟨_,rfl⟩;rw[←hq1]at hc1 HP;rw[←hq2]at HP;simp only[←hq2]at hc2;have Hc1:=lz hc1;have Hc2:=lz hc2;have Hf:=lz hf;have HB0:=lz hB0;have Hy0:=lz hy0;have hgl:=Blk.lt h;clear hc1 hc2 hq1 hq2 hB0 hy0 hb0 hb1 hg0 hr0 hr h hf hd;go_enter Tryz.func31,Tryz.ntmps31;go_wp2_with fail;rw[←Hy0.out];refine Hc1.out.mono ?_;rintro e y1 ⟨rfl,hb1⟩;have HY1:=lz hb1;have hff:=Hf.out _ hb1;have c0:y1.cell? ⟨w.heap.size,0,none⟩=some (.pointer (some ⟨g,0,none⟩)):=hff.1;have k7:y1.cell? ⟨g,7,none⟩=some (.slice x.vers.a x.vers.l.length x.vers.c):=hff.2;have Hc3:=lz (Hc2.out _ hb1);clear hb1 Hc1 k5 hff Hc2 Hf
 cases q1 with
 | false=>
  go_wp2_with fail;go_ret;exact⟨by rw[HP.out]<;>rfl,HB0.out.trans (HY1.out.mono HB0.out.size)⟩
 | true=>
  go_wp2_with fail;refine Hc3.out.mono ?_;rintro e y2 ⟨rfl,hb2⟩;have HY2:=lz (HY1.out.trans (hb2.mono HY1.out.size));clear hb2 Hc3 c0 k7;go_wp2_with fail;go_ret;exact⟨by rw[HP.out]<;>rfl,HB0.out.trans (HY2.out.mono HB0.out.size)⟩
end Go.Proofs.YtchfcgilpjkmhaaGreatDoor
