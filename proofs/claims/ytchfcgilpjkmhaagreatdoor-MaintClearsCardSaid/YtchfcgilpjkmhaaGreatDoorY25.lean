import Derived.StillTailTactics
import Derived.DeepKeys4
import Derived.WideKeyEntry
import Derived.RegionTactic
import Derived.ChangeAlike
import Derived.Test.YtchfcgilpjkmhaaGreatDoorY24
import Derived.Test.YtchfcgilpjkmhaaGreatDoorY16
import Derived.Test.YtchfcgilpjkmhaaGreatDoorY18
import Derived.Test.YtchfcgilpjkmhaaGreatDoorY3
import Derived.Test.YtchfcgilpjkmhaaGreatDoorY0
set_option maxRecDepth 100000
set_option linter.unusedSimpArgs false
set_option linter.unusedVariables false
set_option linter.unusedSectionVars false
namespace Go.Proofs.YtchfcgilpjkmhaaGreatDoor
open Go.ChangeShapes Go.WideShapes Go.ChangeAt Go.RowKit
attribute [local go_sem] Oper.semAt_some
theorem callN_Report(n:Nat)(l:List Rep)(hn:n=l.length)(A:Option Addr)(c:Nat)(w:World)(h:RdRep w w.heap.size A l)(hl:l.length≤9223372036854775807):
 CU 59 #[.slice A n c,.func (.func 57) #[] #[]] w (.bool (l.all repLimP)):=by
 subst hn;exact all_90 57 #[] repLimP (enters_of Tryz.func57 kz rfl) l A c w (fun W r hx hW=>by simpa using limRep_c r W) h hl
def causeLimP(x:CsV):Bool:=([(x.n.n:Int),(x.x.n:Int)].all (witP 0 8))&&(x.c.needs.all repLimP)
set_option maxHeartbeats 2000000 in
theorem limCause_c(x:CsV)(Br:Nat)(w:World)(hr:x.rd w w.heap.size)(hBr:Blk w Br 138 #[.func (.func 57) #[] #[]]):CU 58 #[x.val,.pointer (some ⟨Br,0,none⟩)] w (.bool (causeLimP x)):=by
 obtain⟨y0,Hy0,HB0,Hf,HY0,HZ0,kk⟩:=box_hd w 48 #[.string x.c.unit,.slice x.n.a x.n.n x.n.c,.slice x.x.a x.x.n x.x.c];obtain⟨k0,k1,k2⟩:=CsV.kl kk;have HgBr:=box_far Hy0 HB0 hBr;have kbBr0:=(hBr.alloc (.cells #[.string x.c.unit,.slice x.n.a x.n.n x.n.c,.slice x.x.a x.x.n x.x.c] 48)).cell 0;have hlBr:=hBr.lt;have HF:=lz (show causeLimP x=(([(x.n.n:Int),(x.x.n:Int)].all (witP 0 8))&&(x.c.needs.all repLimP))from rfl);have HR:=lz hr;clear kk hr hBr;go_enter Tryz.func58,Tryz.ntmps58;go_wp2_with fail;rw[←Hy0.out];have hc:=lz (within_row2 0 8 (x.n.n:Int) (x.x.n:Int) y0);generalize ([(x.n.n:Int),(x.x.n:Int)].all (witP 0 8))=q1 at hc HF;rw[←HZ0.out];refine callB hc HY0 fun y1 HY1=> ?_
 clear hc;clear k0 k1 k2 kbBr0;obtain⟨k0,k1,k2⟩:=CsV.kl (Hf.out _ HY1.out);have kbBr0:=(HgBr.out _ HY1.out).cell 0
 cases q1 with
 | false=>exact e1
 | true=>
  go_wp2_with fail;have hc:=lz (callN_Report x.n.n x.c.needs HR.out.nl x.n.a x.n.c y1 (HR.out.below (bt HB0 HY1)).n (by have h1:=HR.out.nl;have h2:=HR.out.nc;have h3:=HR.out.nm;unfold maxLen at h3;omega));generalize (x.c.needs.all repLimP)=q2 at hc HF;refine callB hc HY1 fun y2 HY2=> ?_
  clear hc;clear k0 k1 k2 kbBr0;obtain⟨k0,k1,k2⟩:=CsV.kl (Hf.out _ HY2.out);have kbBr0:=(HgBr.out _ HY2.out).cell 0;exact e2
def connLimP(y:ConV):Bool:= !decide ((y.dst.l.length:Int)>8)
def countsP(x:CfgV):Bool:=(decide ((x.mods.l.length:Int)≤4))&&(decide ((x.chans.l.length:Int)≤16))&&(decide ((x.vls.l.length:Int)≤16))&&(decide ((x.sws.l.length:Int)≤8))&&(decide ((x.links.l.length:Int)≤32))&&([(x.hea.l.length:Int),(x.causes.l.length:Int),(x.vers.l.length:Int)].all (witP 0 32))
def limitsP(x:CfgV):Bool:=(connsV x).all connLimP&&(countsP x&&x.mods.l.all modLimP&&x.sws.l.all swLimP&&x.links.l.all linkLimP&&x.causes.l.all causeLimP)
set_option maxHeartbeats 4000000 in
theorem limits_g(x:CfgV)(g:Nat)(w:World)(h:CkG w g x)(hr:x.rd w w.heap.size):CU 24 #[.pointer (some ⟨g,0,none⟩)] w (.bool (limitsP x)):=by
 obtain⟨w1,hw1⟩:∃w1,w1=((((((w.alloc (.cells #[.bool false] 4)).alloc (.cells #[.func (.func 47) #[] #[]] 129)).alloc (.cells #[.func (.func 49) #[] #[]] 130)).alloc (.cells #[.func (.func 50) #[] #[.pointer (some ⟨w.heap.size+1,0,none⟩),.pointer (some ⟨w.heap.size+1+1,0,none⟩)]] 133)).alloc (.cells #[.func (.func 57) #[] #[]] 138)).alloc (.cells #[.pointer (some ⟨g,0,none⟩)] 104)):=⟨_,rfl⟩;have hb1:Below w.heap.size w w1:=by rw[hw1];exact(((((((Below.refl _ w).alloc (Nat.le_refl _) _).alloc (by simp) _).alloc (by simp;omega) _).alloc (by simp;omega) _).alloc (by simp;omega) _).alloc (by simp;omega) _)
 have hr0:Blk w1 (w.heap.size) 4 #[.bool false]:=by
  rw[hw1];have:=Blk.new w 4 #[.bool false];try simp only[World.size_alloc]at this
  exact(((((this).alloc _).alloc _).alloc _).alloc _).alloc _
 have hp1:Blk w1 (w.heap.size+1) 129 #[.func (.func 47) #[] #[]]:=by
  rw[hw1];have:=Blk.new (w.alloc (.cells #[.bool false] 4)) 129 #[.func (.func 47) #[] #[]];try simp only[World.size_alloc]at this
  exact((((this).alloc _).alloc _).alloc _).alloc _
 have hp2:Blk w1 (w.heap.size+1+1) 130 #[.func (.func 49) #[] #[]]:=by
  rw[hw1];have:=Blk.new ((w.alloc (.cells #[.bool false] 4)).alloc (.cells #[.func (.func 47) #[] #[]] 129)) 130 #[.func (.func 49) #[] #[]];try simp only[World.size_alloc]at this
  exact(((this).alloc _).alloc _).alloc _
 have hp3:Blk w1 (w.heap.size+1+1+1) 133 #[.func (.func 50) #[] #[.pointer (some ⟨w.heap.size+1,0,none⟩),.pointer (some ⟨w.heap.size+1+1,0,none⟩)]]:=by
  rw[hw1];have:=Blk.new (((w.alloc (.cells #[.bool false] 4)).alloc (.cells #[.func (.func 47) #[] #[]] 129)).alloc (.cells #[.func (.func 49) #[] #[]] 130)) 133 #[.func (.func 50) #[] #[.pointer (some ⟨w.heap.size+1,0,none⟩),.pointer (some ⟨w.heap.size+1+1,0,none⟩)]];try simp only[World.size_alloc]at this
  exact((this).alloc _).alloc _
 have hp4:Blk w1 (w.heap.size+1+1+1+1) 138 #[.func (.func 57) #[] #[]]:=by
  rw[hw1];have:=Blk.new ((((w.alloc (.cells #[.bool false] 4)).alloc (.cells #[.func (.func 47) #[] #[]] 129)).alloc (.cells #[.func (.func 49) #[] #[]] 130)).alloc (.cells #[.func (.func 50) #[] #[.pointer (some ⟨w.heap.size+1,0,none⟩),.pointer (some ⟨w.heap.size+1+1,0,none⟩)]] 133)) 138 #[.func (.func 57) #[] #[]];try simp only[World.size_alloc]at this
  exact(this).alloc _
 have hbx:Blk w1 (w.heap.size+1+1+1+1+1) 104 #[.pointer (some ⟨g,0,none⟩)]:=by
  rw[hw1];have:=Blk.new (((((w.alloc (.cells #[.bool false] 4)).alloc (.cells #[.func (.func 47) #[] #[]] 129)).alloc (.cells #[.func (.func 49) #[] #[]] 130)).alloc (.cells #[.func (.func 50) #[] #[.pointer (some ⟨w.heap.size+1,0,none⟩),.pointer (some ⟨w.heap.size+1+1,0,none⟩)]] 133)).alloc (.cells #[.func (.func 57) #[] #[]] 138)) 104 #[.pointer (some ⟨g,0,none⟩)];try simp only[World.size_alloc]at this
  exact this
 have hz:w1.heap.size=w.heap.size+6:=by rw[hw1];simp
 have hck:CkRd w1 g (w.heap.size+1+1+1+1+1) w.heap.size x:=⟨hbx,h.below hb1,hr.to_ (Nat.le_refl _) (bcell hb1),by omega⟩;have Hseq:=lz (conn_g x g (w.heap.size+1+1+1+1+1) w.heap.size (fun _=>False) w1 (fun _ h=>h.elim) hck (Nat.le_trans hr.chans1 (Nat.le_trans hr.chans2 (by decide))) (Nat.le_trans hr.vls1 (Nat.le_trans hr.vls2 (by decide))));have hgl:=Blk.lt h;have Hck:=lz hck;have Hw1:=lz hw1;have Hb1:=lz hb1;have Hr0:=lz hr0;have Hp1:=lz hp1;have Hp2:=lz hp2;have Hp3:=lz hp3;have Hp4:=lz hp4;have Hz:=lz hz;clear h hr hw1 hb1 hr0 hbx hz hck hp1 hp2 hp3 hp4;refine(callsIn_wide (n:=9)).1 ?_;refine callsIn_of_wp_marks Tryz.func24 rfl trivial ?_ rfl;simp only[Tryz.ntmps24,List.size_toArray,List.length_cons,List.length_nil,Nat.reduceAdd,Nat.reduceSub,Array.replicate_succ,Array.replicate_zero,List.push_toArray,List.append_toArray,List.nil_append,List.cons_append];refine wpIn_wide.2 ?_;go_wp2_with (go_at_call 60;refine(conns91 _ _).mono ?_;rintro e w' ⟨rfl,hw'⟩);rw[←Hw1.out];clear hw';refine(wpIn_wide (n:=9)).1 ?_;have hz1:w.heap.size+6≤w1.heap.size:=Nat.le_of_eq Hz.out.symm;have hz1b:w1.heap.size≤w.heap.size+6:=Nat.le_of_eq Hz.out;refine range_s (gf:=144) (lb:= #[.pointer (some ⟨w.heap.size+1+1+1+1+1,0,none⟩)]) (encs:=ConV.enc) (xs:=connsV x) (X:=fun _=>False) (XE:=fun k=>k=w.heap.size) rfl (enters_of Tryz.func144 kz rfl) (fun _=>rfl) (fun _ h=>h.elim) (fun k e=>by omega) Hseq.out
  (fun T W=>Below w1.heap.size w1 W∧AllB connLimP T true)
  (fun T W=>Blk W w.heap.size 4 #[.bool false]∧Below w.heap.size w W∧AllB connLimP T false) ?hI ?hIE ?hI0
  (fun y a' W=>∃Bc,w1.heap.size≤Bc∧Blk W Bc 144 #[.string y.src.m,.string y.src.p,.string y.src.o,.slice y.dst.a y.dst.l.length y.dst.c,.bool y.vl]∧a'={tmps:= #[.pointer (some ⟨g,0,none⟩),undef,.pointer (some ⟨w.heap.size,0,none⟩),.pointer (some ⟨w.heap.size+1,0,none⟩),.pointer (some ⟨w.heap.size+1+1,0,none⟩),.pointer (some ⟨w.heap.size+1+1+1,0,none⟩),.func (.func 53) #[] #[.pointer (some ⟨w.heap.size+1+1+1,0,none⟩)],.func (.func 55) #[] #[],.func (.func 56) #[] #[],.pointer (some ⟨w.heap.size+1+1+1+1,0,none⟩),.func (.func 58) #[] #[.pointer (some ⟨w.heap.size+1+1+1+1,0,none⟩)],.pointer (some ⟨Bc,0,none⟩),undef,.func (.func 50) #[] #[.pointer (some ⟨w.heap.size+1,0,none⟩),.pointer (some ⟨w.heap.size+1+1,0,none⟩)],.func (.func 53) #[] #[.pointer (some ⟨w.heap.size+1+1+1,0,none⟩)],.func (.func 58) #[] #[.pointer (some ⟨w.heap.size+1+1+1+1,0,none⟩)],.pointer (some ⟨g,0,none⟩),.func (.func 144) #[] #[.pointer (some ⟨w.heap.size+1+1+1+1+1,0,none⟩)],y.val,undef,undef,undef,undef,undef,undef,undef,undef,undef,undef,undef,undef,undef,undef,undef,undef,undef,undef,undef,undef,undef,undef,undef,undef,undef,undef,undef,undef,undef,undef,undef,undef,undef,undef,undef,undef,undef,undef,undef,undef,undef,undef,undef,undef,undef,undef,undef,undef,undef,undef,undef,undef,undef,undef,undef,undef,undef,undef,undef,undef,undef,undef,undef,undef,undef,undef,undef,undef,undef,undef,undef,undef,undef,undef,undef,undef,undef,undef,undef,undef,undef,undef,undef,undef,undef,undef,undef,undef,undef,undef,undef,undef,undef,undef,undef,undef,undef,undef,undef,undef,undef,undef,undef,undef,undef,undef],defers:= []}) ?hAx ?assign ?body ?done ?ret
 case hI=>exact fun T W W' h hb=>⟨h.1.trans hb,h.2⟩
 case hIE=>exact fun T W W' h hb=>⟨Blk.below h.1 hb (by omega),h.2.1.trans (hb.mono (by omega)),h.2.2⟩
 case hI0=>exact⟨Below.refl _ _,rfl⟩
 case hAx=>
  rintro y l a' W o o' hl ho hc ⟨Bc,h1,h3,h5⟩;exact⟨Bc,h1,blk_put h3 ho hc,h5⟩
 case assign=>
  intro l T y W K hT hsz hK;gi_wp2;refine hK _ _ ((Below.refl _ W).alloc (Nat.le_refl _) _) ⟨W.heap.size,by omega,Blk.new W _ _,rfl⟩
 case body=>
  rintro l T y a' W hT hsz hG ⟨hbw,hall⟩ ⟨Bc,h1,hbc,rfl⟩;have p3:=hbc.cell 3;have hlc:=hbc.lt;have hr0W:=Hr0.out.below hbw (by omega);have r0:=hr0W.cell 0;have f0:=hr0W.frozen 0;have hT1:∀b,connLimP y=b→AllB connLimP (T++ [y]) b:=fun b hb=>by unfold AllB at *;rw[all_snoc,hall,hb];rfl
  have hbad:connLimP y=false→Gr (fun k=>k=w.heap.size) W (W.setCell ⟨w.heap.size,0,none⟩ (.bool false))∧Blk (W.setCell ⟨w.heap.size,0,none⟩ (.bool false)) w.heap.size 4 #[.bool false]∧Below w.heap.size w (W.setCell ⟨w.heap.size,0,none⟩ (.bool false))∧AllB connLimP (T++ [y]) false:=fun hb=>
   ⟨Gr.setCell W ⟨w.heap.size,0,none⟩ _ rfl,by simpa using hr0W.set_ 0 (.bool false),(Hb1.out.trans (hbw.mono Hb1.out.size)).setCell (p:=⟨w.heap.size,0,none⟩) (Nat.le_refl _) _,hT1 _ hb⟩
  have Hbad:=lz hbad;have HT1:=lz hT1;have Hbw:=lz hbw;clear hT1 hbad hbw hr0W hbc hG hall hT;by_cases t1:(y.dst.l.length:Int)>8
  ·have d1:decide ((y.dst.l.length:Int)>8)=true:=decide_eq_true t1
   have d2:decide (8<y.dst.l.length)=true:=decide_eq_true (by omega);have hbb:=lz (Hbad.out (by unfold connLimP;rw[d1];rfl));clear t1;gi_wp2;exact hbb.out
  ·have d1:decide ((y.dst.l.length:Int)>8)=false:=decide_eq_false t1
   have d2:decide (8<y.dst.l.length)=false:=decide_eq_false (by omega);have hbb:=lz (HT1.out _ (show connLimP y=true by unfold connLimP;rw[d1];rfl));clear t1;gi_wp2;exact⟨Gr.refl _ _,Hbw.out,hbb.out⟩
 case done=>
  rintro D W hD hs ⟨hW,hall⟩ hk;have HF:=lz (show limitsP x=(countsP x&&x.mods.l.all modLimP&&x.sws.l.all swLimP&&x.links.l.all linkLimP&&x.causes.l.all causeLimP)by unfold limitsP;rw[show(connsV x).all connLimP=true from hall];rfl);have facts:∀W2,Below w1.heap.size w1 W2→CkG W2 g x∧x.rd W2 W2.heap.size:=fun W2 h2=>⟨Hck.out.g.below h2,(Hck.out.r.more Hck.out.B).below h2⟩
  have HfW:=lz facts;have hkD:∀W2,Below W.heap.size W W2→W2.heap[D]?=some (.deferred (some [])):=fun W2 h2=>(h2.block D (Array.getElem?_eq_some_iff.1 hk).1).trans hk
  have HkD:=lz hkD;have HW:=lz hW;have HR0:=lz (fun W2 (h2:Below w1.heap.size w1 W2)=>Hr0.out.below h2 (by omega));have hgW:=(facts W hW).1;have hglW:g<W.heap.size:=Blk.lt hgW;have k0:=hgW.cell 0;have k1:=hgW.cell 1;have k2:=hgW.cell 2;have k3:=hgW.cell 3;have k4:=hgW.cell 4;have k5:=hgW.cell 5;have k6:=hgW.cell 6;have k7:=hgW.cell 7;clear hall facts hkD hk hW hgW
  cases a0:decide ((x.mods.l.length:Int)≤4)with
  | false=>
   have b0:decide (x.mods.l.length≤4)=false:=by have:=of_decide_eq_false a0;exact decide_eq_false (by omega)
   have HC:=lz (show countsP x=false by unfold countsP;rw[a0];simp);go_wp2_with fail;simp only[List.append_eq,List.cons_append,List.nil_append];have hec:=ext_cell W;refine wp_region_ext kz kz ?_;repeat (go_big_quiet_step (fail))
   refine wpQuiet_nil ?_;intro _ hw';obtain⟨xx,hw''⟩:=hw';subst hw'';have HX2:=lz xx.h;have HW2:=lz (HW.out.trans (xx.h.mono HW.out.size));clear hec k0 k1 k2 k3 k4 k5 k6 k7;generalize xx.w=W2 at *;have r0:W2.cell? ⟨w.heap.size,0,none⟩=some (.bool false):=(HR0.out _ HW2.out).cell 0;have f0:W2.frozen? ⟨w.heap.size,0,none⟩=false:=(HR0.out _ HW2.out).frozen 0;go_wp2_with fail;refine fin1 D w.heap.size w.heap.size false false w W2 ?_ ?_ (by omega) ?_ (Nat.le_refl _) (fun W' z0=>by simp[results,Tryz.f24,go_sem,z0]) (fun W' hB=>⟨by rw[HF.out,HC.out]<;>rfl,hB⟩)
   ·exact HR0.out _ HW2.out
   ·exact HkD.out _ HX2.out
   ·exact Hb1.out.trans ((HW2.out).mono Hb1.out.size)
  | true=>
   have b0:decide (x.mods.l.length≤4)=true:=by have:=of_decide_eq_true a0;exact decide_eq_true (by omega)
   cases a1:decide ((x.chans.l.length:Int)≤16)with
   | false=>
    have b1:decide (x.chans.l.length≤16)=false:=by have:=of_decide_eq_false a1;exact decide_eq_false (by omega)
    have HC:=lz (show countsP x=false by unfold countsP;rw[a1];simp);go_wp2_with fail;simp only[List.append_eq,List.cons_append,List.nil_append];have hec:=ext_cell W;refine wp_region_ext kz kz ?_;repeat (go_big_quiet_step (fail))
    refine wpQuiet_nil ?_;intro _ hw';obtain⟨xx,hw''⟩:=hw';subst hw'';have HX2:=lz xx.h;have HW2:=lz (HW.out.trans (xx.h.mono HW.out.size));clear hec k0 k1 k2 k3 k4 k5 k6 k7;generalize xx.w=W2 at *;have r0:W2.cell? ⟨w.heap.size,0,none⟩=some (.bool false):=(HR0.out _ HW2.out).cell 0;have f0:W2.frozen? ⟨w.heap.size,0,none⟩=false:=(HR0.out _ HW2.out).frozen 0;go_wp2_with fail;refine fin1 D w.heap.size w.heap.size false false w W2 ?_ ?_ (by omega) ?_ (Nat.le_refl _) (fun W' z0=>by simp[results,Tryz.f24,go_sem,z0]) (fun W' hB=>⟨by rw[HF.out,HC.out]<;>rfl,hB⟩)
    ·exact HR0.out _ HW2.out
    ·exact HkD.out _ HX2.out
    ·exact Hb1.out.trans ((HW2.out).mono Hb1.out.size)
   | true=>
    have b1:decide (x.chans.l.length≤16)=true:=by have:=of_decide_eq_true a1;exact decide_eq_true (by omega)
    cases a2:decide ((x.vls.l.length:Int)≤16)with
    | false=>
     have b2:decide (x.vls.l.length≤16)=false:=by have:=of_decide_eq_false a2;exact decide_eq_false (by omega)
     have HC:=lz (show countsP x=false by unfold countsP;rw[a2];simp);go_wp2_with fail;simp only[List.append_eq,List.cons_append,List.nil_append];have hec:=ext_cell W;refine wp_region_ext kz kz ?_;repeat (go_big_quiet_step (fail))
     refine wpQuiet_nil ?_;intro _ hw';obtain⟨xx,hw''⟩:=hw';subst hw'';have HX2:=lz xx.h;have HW2:=lz (HW.out.trans (xx.h.mono HW.out.size));clear hec k0 k1 k2 k3 k4 k5 k6 k7;generalize xx.w=W2 at *;have r0:W2.cell? ⟨w.heap.size,0,none⟩=some (.bool false):=(HR0.out _ HW2.out).cell 0;have f0:W2.frozen? ⟨w.heap.size,0,none⟩=false:=(HR0.out _ HW2.out).frozen 0;go_wp2_with fail;refine fin1 D w.heap.size w.heap.size false false w W2 ?_ ?_ (by omega) ?_ (Nat.le_refl _) (fun W' z0=>by simp[results,Tryz.f24,go_sem,z0]) (fun W' hB=>⟨by rw[HF.out,HC.out]<;>rfl,hB⟩)
     ·exact HR0.out _ HW2.out
     ·exact HkD.out _ HX2.out
     ·exact Hb1.out.trans ((HW2.out).mono Hb1.out.size)
    | true=>
     have b2:decide (x.vls.l.length≤16)=true:=by have:=of_decide_eq_true a2;exact decide_eq_true (by omega)
     cases a3:decide ((x.sws.l.length:Int)≤8)with
     | false=>
      have b3:decide (x.sws.l.length≤8)=false:=by have:=of_decide_eq_false a3;exact decide_eq_false (by omega)
      have HC:=lz (show countsP x=false by unfold countsP;rw[a3];simp);go_wp2_with fail;simp only[List.append_eq,List.cons_append,List.nil_append];have hec:=ext_cell W;refine wp_region_ext kz kz ?_;repeat (go_big_quiet_step (fail))
      refine wpQuiet_nil ?_;intro _ hw';obtain⟨xx,hw''⟩:=hw';subst hw'';have HX2:=lz xx.h;have HW2:=lz (HW.out.trans (xx.h.mono HW.out.size));clear hec k0 k1 k2 k3 k4 k5 k6 k7;generalize xx.w=W2 at *;have r0:W2.cell? ⟨w.heap.size,0,none⟩=some (.bool false):=(HR0.out _ HW2.out).cell 0;have f0:W2.frozen? ⟨w.heap.size,0,none⟩=false:=(HR0.out _ HW2.out).frozen 0;go_wp2_with fail;refine fin1 D w.heap.size w.heap.size false false w W2 ?_ ?_ (by omega) ?_ (Nat.le_refl _) (fun W' z0=>by simp[results,Tryz.f24,go_sem,z0]) (fun W' hB=>⟨by rw[HF.out,HC.out]<;>rfl,hB⟩)
      ·exact HR0.out _ HW2.out
      ·exact HkD.out _ HX2.out
      ·exact Hb1.out.trans ((HW2.out).mono Hb1.out.size)
     | true=>
      have b3:decide (x.sws.l.length≤8)=true:=by have:=of_decide_eq_true a3;exact decide_eq_true (by omega)
      cases a4:decide ((x.links.l.length:Int)≤32)with
      | false=>
       have b4:decide (x.links.l.length≤32)=false:=by have:=of_decide_eq_false a4;exact decide_eq_false (by omega)
       have HC:=lz (show countsP x=false by unfold countsP;rw[a4];simp);go_wp2_with fail;simp only[List.append_eq,List.cons_append,List.nil_append];have hec:=ext_cell W;refine wp_region_ext kz kz ?_;repeat (go_big_quiet_step (fail))
       refine wpQuiet_nil ?_;intro _ hw';obtain⟨xx,hw''⟩:=hw';subst hw'';have HX2:=lz xx.h;have HW2:=lz (HW.out.trans (xx.h.mono HW.out.size));clear hec k0 k1 k2 k3 k4 k5 k6 k7;generalize xx.w=W2 at *;have r0:W2.cell? ⟨w.heap.size,0,none⟩=some (.bool false):=(HR0.out _ HW2.out).cell 0;have f0:W2.frozen? ⟨w.heap.size,0,none⟩=false:=(HR0.out _ HW2.out).frozen 0;go_wp2_with fail;refine fin1 D w.heap.size w.heap.size false false w W2 ?_ ?_ (by omega) ?_ (Nat.le_refl _) (fun W' z0=>by simp[results,Tryz.f24,go_sem,z0]) (fun W' hB=>⟨by rw[HF.out,HC.out]<;>rfl,hB⟩)
       ·exact HR0.out _ HW2.out
       ·exact HkD.out _ HX2.out
       ·exact Hb1.out.trans ((HW2.out).mono Hb1.out.size)
      | true=>
       have b4:decide (x.links.l.length≤32)=true:=by have:=of_decide_eq_true a4;exact decide_eq_true (by omega)
       go_wp2_with fail;simp only[List.append_eq,List.cons_append,List.nil_append];go_still_tail 62,kz;change wpList _ _ _ _ _ W.drew;have hc:=within_row3 0 32 (x.hea.l.length:Int) (x.causes.l.length:Int) (x.vers.l.length:Int) W.drew;obtain⟨q,hq⟩:∃q,q= [(x.hea.l.length:Int),(x.causes.l.length:Int),(x.vers.l.length:Int)].all (witP 0 32):=⟨_,rfl⟩;rw[←hq]at hc;have HC:=lz (show countsP x=q by unfold countsP;rw[a0,a1,a2,a3,a4,←hq];simp);have Hc:=lz hc;clear hc hq;go_wp2_with fail;refine Hc.out.mono ?_;rintro e W2 ⟨rfl,hb2⟩;have HX2:=lz ((Below.refl W.heap.size W).drew.trans hb2);have HW2:=lz (HW.out.trans (HX2.out.mono HW.out.size));clear k0 k1 k2 k3 k4 k5 k6 k7 hb2 Hc;have hg2:=(HfW.out _ HW2.out).1;have k0:=hg2.cell 0;have k1:=hg2.cell 1;have k2:=hg2.cell 2;have k3:=hg2.cell 3;have k4:=hg2.cell 4;have k5:=hg2.cell 5;have k6:=hg2.cell 6;have k7:=hg2.cell 7;clear hg2
       cases q with
       | false=>
        have r0:W2.cell? ⟨w.heap.size,0,none⟩=some (.bool false):=(HR0.out _ HW2.out).cell 0;have f0:W2.frozen? ⟨w.heap.size,0,none⟩=false:=(HR0.out _ HW2.out).frozen 0;go_wp2_with fail;refine fin1 D w.heap.size w.heap.size false false w W2 ?_ ?_ (by omega) ?_ (Nat.le_refl _) (fun W' z0=>by simp[results,Tryz.f24,go_sem,z0]) (fun W' hB=>⟨by rw[HF.out,HC.out]<;>rfl,hB⟩)
        ·exact HR0.out _ HW2.out
        ·exact HkD.out _ HX2.out
        ·exact Hb1.out.trans ((HW2.out).mono Hb1.out.size)
       | true=>
        have HB1:=lz (fun W' (h:Below W2.heap.size W2 W')=>Hp1.out.below (HW2.out.trans (h.mono HW2.out.size)) Hp1.out.lt);have HB2_:=lz (fun W' (h:Below W2.heap.size W2 W')=>Hp2.out.below (HW2.out.trans (h.mono HW2.out.size)) Hp2.out.lt);have HB3:=lz (fun W' (h:Below W2.heap.size W2 W')=>Hp3.out.below (HW2.out.trans (h.mono HW2.out.size)) Hp3.out.lt);have hrr:=(HfW.out _ HW2.out).2;have hc:=call_Module 53 #[.pointer (some ⟨w.heap.size+1+1+1,0,none⟩)] modLimP (enters_of Tryz.func53 kz rfl) x.mods.l x.mods.a x.mods.c W2 (fun W' r hx hW' hrd=>by simpa using limMod_c r (w.heap.size+1) (w.heap.size+1+1) (w.heap.size+1+1+1) W' hrd (HB3.out W' hW') (fun W'' h''=>HB1.out W'' ((hW'.trans (h''.mono hW'.size)))) (fun W'' h''=>HB2_.out W'' ((hW'.trans (h''.mono hW'.size))))) hrr.mods (Nat.le_trans hrr.mods1 (Nat.le_trans hrr.mods2 (by decide)));obtain⟨p0,hp0⟩:∃q,q=x.mods.l.all modLimP:=⟨_,rfl⟩;rw[←hp0]at hc HF;have Hc:=lz hc;clear hc hp0 hrr;go_wp2_with fail;refine Hc.out.mono ?_;rintro e W3 ⟨rfl,hb⟩;have HX3:=lz (HX2.out.trans (hb.mono HX2.out.size));have HW3:=lz (HW2.out.trans (hb.mono HW2.out.size));clear k0 k1 k2 k3 k4 k5 k6 k7 hb Hc HB1 HB2_ HB3;have hg2:=(HfW.out _ HW3.out).1;have k0:=hg2.cell 0;have k1:=hg2.cell 1;have k2:=hg2.cell 2;have k3:=hg2.cell 3;have k4:=hg2.cell 4;have k5:=hg2.cell 5;have k6:=hg2.cell 6;have k7:=hg2.cell 7;clear hg2
        cases p0 with
        | false=>
         have r0:W3.cell? ⟨w.heap.size,0,none⟩=some (.bool false):=(HR0.out _ HW3.out).cell 0;have f0:W3.frozen? ⟨w.heap.size,0,none⟩=false:=(HR0.out _ HW3.out).frozen 0;go_wp2_with fail;refine fin1 D w.heap.size w.heap.size false false w W3 ?_ ?_ (by omega) ?_ (Nat.le_refl _) (fun W' z0=>by simp[results,Tryz.f24,go_sem,z0]) (fun W' hB=>⟨by rw[HF.out,HC.out]<;>rfl,hB⟩)
         ·exact HR0.out _ HW3.out
         ·exact HkD.out _ HX3.out
         ·exact Hb1.out.trans ((HW3.out).mono Hb1.out.size)
        | true=>
         have hrr:=(HfW.out _ HW3.out).2;have hc:=call_Switch 55 #[] swLimP (enters_of Tryz.func55 kz rfl) x.sws.l x.sws.a x.sws.c W3 (fun W' r hx hW'=>by simpa using limSw_c r W') hrr.sws (Nat.le_trans hrr.sws1 (Nat.le_trans hrr.sws2 (by decide)));obtain⟨p1,hp1⟩:∃q,q=x.sws.l.all swLimP:=⟨_,rfl⟩;rw[←hp1]at hc HF;have Hc:=lz hc;clear hc hp1 hrr;go_wp2_with fail;refine Hc.out.mono ?_;rintro e W4 ⟨rfl,hb⟩;have HX4:=lz (HX3.out.trans (hb.mono HX3.out.size));have HW4:=lz (HW3.out.trans (hb.mono HW3.out.size));clear k0 k1 k2 k3 k4 k5 k6 k7 hb Hc;have hg2:=(HfW.out _ HW4.out).1;have k0:=hg2.cell 0;have k1:=hg2.cell 1;have k2:=hg2.cell 2;have k3:=hg2.cell 3;have k4:=hg2.cell 4;have k5:=hg2.cell 5;have k6:=hg2.cell 6;have k7:=hg2.cell 7;clear hg2
         cases p1 with
         | false=>
          have r0:W4.cell? ⟨w.heap.size,0,none⟩=some (.bool false):=(HR0.out _ HW4.out).cell 0;have f0:W4.frozen? ⟨w.heap.size,0,none⟩=false:=(HR0.out _ HW4.out).frozen 0;go_wp2_with fail;refine fin1 D w.heap.size w.heap.size false false w W4 ?_ ?_ (by omega) ?_ (Nat.le_refl _) (fun W' z0=>by simp[results,Tryz.f24,go_sem,z0]) (fun W' hB=>⟨by rw[HF.out,HC.out]<;>rfl,hB⟩)
          ·exact HR0.out _ HW4.out
          ·exact HkD.out _ HX4.out
          ·exact Hb1.out.trans ((HW4.out).mono Hb1.out.size)
         | true=>
          have hrr:=(HfW.out _ HW4.out).2;have hc:=call_Link 56 #[] linkLimP (enters_of Tryz.func56 kz rfl) x.links.l x.links.a x.links.c W4 (fun W' r hx hW'=>by simpa using limLink_c r W') hrr.links (Nat.le_trans hrr.links1 (Nat.le_trans hrr.links2 (by decide)));obtain⟨p2,hp2⟩:∃q,q=x.links.l.all linkLimP:=⟨_,rfl⟩;rw[←hp2]at hc HF;have Hc:=lz hc;clear hc hp2 hrr;go_wp2_with fail;refine Hc.out.mono ?_;rintro e W5 ⟨rfl,hb⟩;have HX5:=lz (HX4.out.trans (hb.mono HX4.out.size));have HW5:=lz (HW4.out.trans (hb.mono HW4.out.size));clear k0 k1 k2 k3 k4 k5 k6 k7 hb Hc;have hg2:=(HfW.out _ HW5.out).1;have k0:=hg2.cell 0;have k1:=hg2.cell 1;have k2:=hg2.cell 2;have k3:=hg2.cell 3;have k4:=hg2.cell 4;have k5:=hg2.cell 5;have k6:=hg2.cell 6;have k7:=hg2.cell 7;clear hg2
          cases p2 with
          | false=>
           have r0:W5.cell? ⟨w.heap.size,0,none⟩=some (.bool false):=(HR0.out _ HW5.out).cell 0;have f0:W5.frozen? ⟨w.heap.size,0,none⟩=false:=(HR0.out _ HW5.out).frozen 0;go_wp2_with fail;refine fin1 D w.heap.size w.heap.size false false w W5 ?_ ?_ (by omega) ?_ (Nat.le_refl _) (fun W' z0=>by simp[results,Tryz.f24,go_sem,z0]) (fun W' hB=>⟨by rw[HF.out,HC.out]<;>rfl,hB⟩)
           ·exact HR0.out _ HW5.out
           ·exact HkD.out _ HX5.out
           ·exact Hb1.out.trans ((HW5.out).mono Hb1.out.size)
          | true=>
           have HB4:=lz (fun W' (h:Below W5.heap.size W5 W')=>Hp4.out.below (HW5.out.trans (h.mono HW5.out.size)) Hp4.out.lt);have hrr:=(HfW.out _ HW5.out).2;have hc:=all_95 58 #[.pointer (some ⟨w.heap.size+1+1+1+1,0,none⟩)] causeLimP (enters_of Tryz.func58 kz rfl) x.causes.l x.causes.a x.causes.c W5 (fun W' r hx hW' hrd=>by simpa using limCause_c r (w.heap.size+1+1+1+1) W' hrd (HB4.out W' hW')) hrr.causes (Nat.le_trans hrr.causes1 (Nat.le_trans hrr.causes2 (by decide)));obtain⟨p3,hp3⟩:∃q,q=x.causes.l.all causeLimP:=⟨_,rfl⟩;rw[←hp3]at hc HF;have Hc:=lz hc;clear hc hp3 hrr;go_wp2_with fail;refine Hc.out.mono ?_;rintro e W6 ⟨rfl,hb⟩;have HX6:=lz (HX5.out.trans (hb.mono HX5.out.size));have HW6:=lz (HW5.out.trans (hb.mono HW5.out.size));clear k0 k1 k2 k3 k4 k5 k6 k7 hb Hc HB4;have r0:W6.cell? ⟨w.heap.size,0,none⟩=some (.bool false):=(HR0.out _ HW6.out).cell 0;have f0:W6.frozen? ⟨w.heap.size,0,none⟩=false:=(HR0.out _ HW6.out).frozen 0;go_wp2_with fail;refine fin1 D w.heap.size w.heap.size p3 false w W6 ?_ ?_ (by omega) ?_ (Nat.le_refl _) (fun W' z0=>by simp[results,Tryz.f24,go_sem,z0]) (fun W' hB=>⟨by rw[HF.out,HC.out]<;>rfl,hB⟩)
           ·exact HR0.out _ HW6.out
           ·exact HkD.out _ HX6.out
           ·exact Hb1.out.trans ((HW6.out).mono Hb1.out.size)
 case ret=>
  rintro D T W3 hD hs hT ⟨h1,h2,h3⟩ hk;have HF:=lz (show limitsP x=false by unfold limitsP;rw[not_all_pre hT h3];rfl);have hDlt:D<W3.heap.size:=(Array.getElem?_eq_some_iff.1 hk).1;refine leaves_marks [D] W3 D (by simp) (fun E hE=>by simp at hE;subst hE;exact⟨Nat.le_refl _,hk⟩) fun W' hSh=> ?_
  have z0:=(Blk.below h1 hSh.below (by omega)).cell 0;exact⟨.bool false,by simp[results,Tryz.f24,go_sem,z0],by rw[HF.out],h2.trans (hSh.below.mono (by omega))⟩
end Go.Proofs.YtchfcgilpjkmhaaGreatDoor
namespace Go.Proofs.YtchfcgilpjkmhaaGreatDoor
open Go.ChangeShapes Go.WideShapes Go.ChangeAt Go.RowKit Go.Deep
structure PlV where
 node:Int
 net:Int
 deriving DecidableEq
abbrev PlV.kv(r:PlV):Value:= .agg #[.int .i64 r.node,.int .i64 r.net]
def PlV.ok(r:PlV):Prop:=(Lit.int .i64 r.node).wf=true∧(Lit.int .i64 r.net).wf=true
theorem cellsP:Tryz.prog.cellsOf 173=2:=by kernel_rfl
theorem keyTypeP:Tryz.prog.keyTypeAt (Tryz.prog.types.size+1) 173=true:=by kernel_rfl
theorem rowP:(173:TypeId)<Tryz.prog.types.size:=of_decide_eq_true kz
theorem wideP:(match Tryz.prog.underlying 173 with | some (.array _ _) | some (.struct _)=>true | _=>false)=true:=by kernel_rfl
theorem lawP:WideMaps.KeyLaw Tryz.prog 173:=deep_law_laid laid (m:=2) (by omega) rowP kz wideP
theorem litsP(d:Nat)(r:PlV)(h:r.ok):Tryz.prog.keyLits (d+2) 173 [.int .i64 r.node,.int .i64 r.net]=some [.int .i64 r.node,.int .i64 r.net]:=by
 have h0:=h.1;have h1:=h.2;simp[Program.keyLits,Tryz.underlying173,Tryz.underlying3,cells3,cellsP,h0,h1]
theorem keyP(r:PlV)(h:r.ok):keyOf Tryz.prog 173 r.kv=some (.string (keyBytes [.int .i64 r.node,.int .i64 r.net])):=by
 have hk:Tryz.prog.keyType 173=true:=keyTypeP;unfold keyOf;simp[Tryz.underlying173,hk,Value.formed,cellsP,Value.cells,litsP 408 r h]
theorem litsInvP(e:Nat)(a b:Value)(ls:List Lit)(h:Tryz.prog.keyLits (e+1) 173 [a,b]=some ls):∃x:PlV,a= .int .i64 x.node∧b= .int .i64 x.net:=by
 unfold Program.keyLits at h;simp only[Tryz.underlying173]at h
 cases hx0:Tryz.prog.keyLits e 3 [a]with
 | none=>simp[Tryz.underlying3,cells3,cellsP,hx0]at h
 | some z0=>
  cases hx1:Tryz.prog.keyLits e 3 [b]with
  | none=>simp[Tryz.underlying3,cells3,cellsP,hx1,hx0]at h
  | some z1=>
   obtain⟨s0,hs0,e0⟩:=keyLits_int' Tryz.underlying3 hx0;obtain⟨s1,hs1,e1⟩:=keyLits_int' Tryz.underlying3 hx1;simp at hs0;simp at hs1;exact⟨⟨s0,s1⟩,hs0,hs1⟩
theorem okInvP(d:Nat)(x:PlV)(ls:List Lit)(h:Tryz.prog.keyLits (d+2) 173 [.int .i64 x.node,.int .i64 x.net]=some ls):x.ok:=by
 by_cases h0:(Lit.int .i64 x.node).wf=true;rotate_left
 ·exact absurd h (by simp[Program.keyLits,Tryz.underlying173,Tryz.underlying3,cells3,cellsP,h0])
 by_cases h1:(Lit.int .i64 x.net).wf=true;rotate_left
 ·exact absurd h (by simp[Program.keyLits,Tryz.underlying173,Tryz.underlying3,cells3,cellsP,h0,h1])
 exact⟨h0,h1⟩
theorem litsExP{v:Value}{l:Lit}(h:keyOf Tryz.prog 173 v=some l):∃a b e ls,v= .agg #[a,b]∧Tryz.prog.keyLits (e+2) 173 [a,b]=some ls:=by
 unfold keyOf at h;simp only[Tryz.underlying173]at h;split at h
 ·rename_i hc
  rw[Bool.and_eq_true]at hc;rw[Option.map_eq_some_iff]at h;obtain⟨ls,hl,_⟩:=h;obtain⟨cs,rfl,hcs⟩:∃cs:Array Value,v= .agg cs∧cs.size=2:=by
   have:=hc.2
   cases v<;>simp[Value.formed,Tryz.underlying173,cellsP]at this
   exact⟨_,rfl,this⟩
  obtain⟨a,b,rfl⟩:=two_of hcs;obtain⟨n,hn⟩:=sizeR;rw[hn]at hl;exact⟨a,b,n,ls,rfl,hl⟩
 ·cases h
theorem invP{v:Value}{l:Lit}(h:keyOf Tryz.prog 173 v=some l):∃x:PlV,x.ok∧v=x.kv:=by
 obtain⟨a,b,e,ls,rfl,hl⟩:=litsExP h;obtain⟨x,rfl,rfl⟩:=litsInvP (e+1) a b ls hl;exact⟨x,okInvP e x ls hl,rfl⟩
noncomputable def KP:MKind PlV where
 t:=170
 k:=173
 vl:=PlV.kv
 lit:=fun r=> .string (keyBytes [.int .i64 r.node,.int .i64 r.net])
 good:=PlV.ok
 law:=Maps.Keyed.of_law lawP
 und:=Tryz.underlying170
 key:=keyP
 inj:=fun x y h=>by
  obtain⟨x0,x1⟩:=x;obtain⟨y0,y1⟩:=y;simp[PlV.kv]at h;simp[h]
 inv:=fun v l h=>invP h
deriving instance DecidableEq for RefV
abbrev RefV.kv(r:RefV):Value:= .agg #[.string r.m,.string r.p,.string r.o]
def RefV.ok(r:RefV):Prop:=r.m.size≤maxLen∧r.p.size≤maxLen∧r.o.size≤maxLen
theorem cellsF:Tryz.prog.cellsOf 82=3:=by kernel_rfl
theorem keyTypeF:Tryz.prog.keyTypeAt (Tryz.prog.types.size+1) 82=true:=by kernel_rfl
theorem rowF:(82:TypeId)<Tryz.prog.types.size:=of_decide_eq_true kz
theorem wideF:(match Tryz.prog.underlying 82 with | some (.array _ _) | some (.struct _)=>true | _=>false)=true:=by kernel_rfl
theorem lawF:WideMaps.KeyLaw Tryz.prog 82:=deep_law_laid laid (m:=2) (by omega) rowF kz wideF
theorem litsF(d:Nat)(r:RefV)(h:r.ok):Tryz.prog.keyLits (d+2) 82 [.string r.m,.string r.p,.string r.o]=some [.string r.m.data.toList,.string r.p.data.toList,.string r.o.data.toList]:=by
 have h0:=h.1;have h1:=h.2.1;have h2:=h.2.2;simp[Program.keyLits,Tryz.underlying82,Tryz.underlying9,cells9,cellsF,h0,h1,h2]
theorem keyF(r:RefV)(h:r.ok):keyOf Tryz.prog 82 r.kv=some (.string (keyBytes [.string r.m.data.toList,.string r.p.data.toList,.string r.o.data.toList])):=by
 have hk:Tryz.prog.keyType 82=true:=keyTypeF;unfold keyOf;simp[Tryz.underlying82,hk,Value.formed,cellsF,Value.cells,litsF 408 r h]
theorem three_of{cs:Array Value}(h:cs.size=3):∃a b d,cs= #[a,b,d]:=by
 obtain⟨l⟩:=cs
 match l,h with
 | [a,b,d],_=>exact⟨a,b,d,rfl⟩
theorem litsInvF(e:Nat)(a b d:Value)(ls:List Lit)(h:Tryz.prog.keyLits (e+1) 82 [a,b,d]=some ls):∃x:RefV,a= .string x.m∧b= .string x.p∧d= .string x.o:=by
 unfold Program.keyLits at h;simp only[Tryz.underlying82]at h
 cases hx0:Tryz.prog.keyLits e 9 [a]with
 | none=>simp[Tryz.underlying9,cells9,cellsF,hx0]at h
 | some z0=>
  cases hx1:Tryz.prog.keyLits e 9 [b]with
  | none=>simp[Tryz.underlying9,cells9,cellsF,hx1,hx0]at h
  | some z1=>
   cases hx2:Tryz.prog.keyLits e 9 [d]with
   | none=>simp[Tryz.underlying9,cells9,cellsF,hx2,hx0,hx1]at h
   | some z2=>
    obtain⟨s0,hs0,e0⟩:=keyLits_string' Tryz.underlying9 hx0;obtain⟨s1,hs1,e1⟩:=keyLits_string' Tryz.underlying9 hx1;obtain⟨s2,hs2,e2⟩:=keyLits_string' Tryz.underlying9 hx2;simp at hs0;simp at hs1;simp at hs2;exact⟨⟨s0,s1,s2⟩,hs0,hs1,hs2⟩
theorem okInvF(d:Nat)(x:RefV)(ls:List Lit)(h:Tryz.prog.keyLits (d+2) 82 [.string x.m,.string x.p,.string x.o]=some ls):x.ok:=by
 by_cases h0:x.m.size≤maxLen;rotate_left
 ·exact absurd h (by simp[Program.keyLits,Tryz.underlying82,Tryz.underlying9,cells9,cellsF,h0])
 by_cases h1:x.p.size≤maxLen;rotate_left
 ·exact absurd h (by simp[Program.keyLits,Tryz.underlying82,Tryz.underlying9,cells9,cellsF,h0,h1])
 by_cases h2:x.o.size≤maxLen;rotate_left
 ·exact absurd h (by simp[Program.keyLits,Tryz.underlying82,Tryz.underlying9,cells9,cellsF,h0,h1,h2])
 exact⟨h0,h1,h2⟩
theorem litsExF{v:Value}{l:Lit}(h:keyOf Tryz.prog 82 v=some l):∃a b d e ls,v= .agg #[a,b,d]∧Tryz.prog.keyLits (e+2) 82 [a,b,d]=some ls:=by
 unfold keyOf at h;simp only[Tryz.underlying82]at h;split at h
 ·rename_i hc
  rw[Bool.and_eq_true]at hc;rw[Option.map_eq_some_iff]at h;obtain⟨ls,hl,_⟩:=h;obtain⟨cs,rfl,hcs⟩:∃cs:Array Value,v= .agg cs∧cs.size=3:=by
   have:=hc.2
   cases v<;>simp[Value.formed,Tryz.underlying82,cellsF]at this
   exact⟨_,rfl,this⟩
  obtain⟨a,b,d,rfl⟩:=three_of hcs;obtain⟨n,hn⟩:=sizeR;rw[hn]at hl;exact⟨a,b,d,n,ls,rfl,hl⟩
 ·cases h
theorem invF{v:Value}{l:Lit}(h:keyOf Tryz.prog 82 v=some l):∃x:RefV,x.ok∧v=x.kv:=by
 obtain⟨a,b,d,e,ls,rfl,hl⟩:=litsExF h;obtain⟨x,rfl,rfl,rfl⟩:=litsInvF (e+1) a b d ls hl;exact⟨x,okInvF e x ls hl,rfl⟩
noncomputable def KF:MKind RefV where
 t:=174
 k:=82
 vl:=RefV.kv
 lit:=fun r=> .string (keyBytes [.string r.m.data.toList,.string r.p.data.toList,.string r.o.data.toList])
 good:=RefV.ok
 law:=Maps.Keyed.of_law lawF
 und:=Tryz.underlying174
 key:=keyF
 inj:=fun x y h=>by
  obtain⟨x0,x1,x2⟩:=x;obtain⟨y0,y1,y2⟩:=y;simp[RefV.kv]at h;simp[h]
 inv:=fun v l h=>invF h
open Go.ChangeMaps (setBlock heap_setBlock_same)
open Go.WideMaps (KeyLaw)
open Go.ChangeMaps Go.WideElems
theorem CntMap.entryK{κ:Type}[DecidableEq κ]{M:MKind κ}(hlaw:WideMaps.KeyLaw Tryz.prog M.k)(hund:Tryz.prog.underlying M.t=some (.map M.k 3)){w:World}{b:Nat}{l:List κ}(h:CntMap M w b l)(hl:l.length<maxLen){y:κ}(hy:M.good y):
 ∃v0 st W1 W2,(Instr.mapEntry M.t (.map (some b)) (M.vl y)).run Tryz.prog w= .ok (.tuple #[v0,.int .i64 ((st:Nat):Int)]) W1∧
  (Instr.lookup M.t (.map (some b)) (M.vl y) false).run Tryz.prog W1= .ok (.int .i64 (cntB y l)) W1∧
  (Instr.entryStore M.t (.map (some b)) (.int .i64 ((st:Nat):Int)) (.int .i64 ((cntB y l:Int)+1))).run Tryz.prog W1= .ok () W2∧
  CntMap M W2 b (l++ [y])∧w.grownBy W2 (some b)∧∀p:Addr,p.block≠b→W1.cell? p=w.cell? p:=by
 obtain⟨n,hn,hO⟩:=h;have hO':=hO;obtain⟨D,⟨es,clock,hb,F,hsz,rfl⟩,hK⟩:=hO';have hkey:keyOf Tryz.prog M.k (M.vl y)=some _:=M.key y hy;obtain⟨v0,st,es1,clock1,hE,hcase,hS⟩:=WideElems.entry_then_store (t:=M.t) (w:=w) hlaw hund zero3 hb F hkey;have hb1:(setBlock w b (.map es1 clock1)).heap[b]?=some (.map es1 clock1):=heap_setBlock_same hb _;obtain⟨es2,clock2,hR,hU⟩:=hS (setBlock w b (.map es1 clock1)) (.int .i64 ((cntB y l:Int)+1)) hb1;rw[setBlock_twice]at hR;have hc:=cnt_le y l;have hm:maxLen=9223372036854775807:=rfl;obtain⟨w',hr,r1,r2⟩:=hO.run_store (by omega) hy ((cntB y l:Int)+1) (WalkArith.wf_i64 (by omega));have e2:setBlock w b (.map es2 clock2)=w':=by
  have:Result.ok () (setBlock w b (.map es2 clock2))=Result.ok () w':=hU.symm.trans hr;exact(ok_inj this).2
 have hlook:(Instr.lookup M.t (.map (some b)) (M.vl y) false).run Tryz.prog (setBlock w b (.map es1 clock1))= .ok (.int .i64 (cntB y l)) (setBlock w b (.map es1 clock1)):=by
  rcases hlaw.find w hkey es.toList F.keys with⟨h1,h2⟩ | ⟨j,e0,h1,h2,h3⟩
  ·have hE2:(Instr.mapEntry M.t (.map (some b)) (M.vl y)).run Tryz.prog w= .ok (.tuple #[.int .i64 0,goInt clock]) (setBlock w b (.map (es.push ⟨M.vl y,.int .i64 0,clock⟩) (clock+1))):=by
    simp[Instr.mapEntry,run_underlying (hund),MapKept.run_getObj_map hb,hlaw.check w false hkey,h1,zero3,MapKept.run_setObj_map _ hb,Result.andThen,setBlock]
   have hU2:(Instr.mapUpdate M.t (.map (some b)) (M.vl y) (.int .i64 0)).run Tryz.prog w= .ok () (setBlock w b (.map (es.push ⟨M.vl y,.int .i64 0,clock⟩) (clock+1))):=by
    simp[Instr.mapUpdate,run_underlying (hund),MapKept.run_getObj_map hb,hlaw.check w false hkey,h1,MapKept.run_setObj_map _ hb,Result.andThen,setBlock]
   have hL2:(Instr.lookup M.t (.map (some b)) (M.vl y) false).run Tryz.prog w= .ok (.int .i64 0) w:=by
    simp[Instr.lookup,run_underlying (hund),MapKept.run_getObj_map hb,hlaw.check w _ hkey,h1,zero3,Result.andThen]
   have h0:(cntB y l:Int)=0:=by
    have:=(ok_inj ((hO.run_look hy).symm.trans hL2)).1;injection this
   have e1:setBlock w b (.map es1 clock1)=setBlock w b (.map (es.push ⟨M.vl y,.int .i64 0,clock⟩) (clock+1)):=by
    exact(ok_inj (hE.symm.trans hE2)).2
   obtain⟨w0,hr0,r10,_⟩:=hO.run_store (by omega) hy 0 (WalkArith.wf_i64 (by omega));have e3:setBlock w b (.map (es.push ⟨M.vl y,.int .i64 0,clock⟩) (clock+1))=w0:=by
    exact(ok_inj (hU2.symm.trans hr0)).2
   rw[e1,e3];have:=r10.run_look hy;simp only[setF,if_pos]at this;rw[h0];exact this
  ·have hj:es[j]?=some e0:=by simpa using h2
   have hL3:=hO.run_look hy;have hsame:es.modify j (fun e=>{e with key:=M.vl y})=es:=by
    apply Array.ext';rw[Array.toList_modify,modify_eq_set _ _ _ _ h2];have:({e0 with key:=M.vl y}:MapEntry)=e0:=by rw[←h3]
    rw[this];exact WideElems.set_self _ _ _ h2
   have hE2:∃v,(Instr.mapEntry M.t (.map (some b)) (M.vl y)).run Tryz.prog w= .ok v (setBlock w b (.map es clock)):=by
    refine⟨.tuple #[e0.val,goInt e0.born],?_⟩;simp[Instr.mapEntry,run_underlying (hund),MapKept.run_getObj_map hb,hlaw.check w false hkey,h1,hj,h3,hlaw.stays w hkey,hsame,MapKept.run_setObj_map _ hb,Result.andThen,setBlock]
   obtain⟨v,hE2⟩:=hE2;have e1:setBlock w b (.map es1 clock1)=setBlock w b (.map es clock):=by
    exact(ok_inj (hE.symm.trans hE2)).2
   rw[e1];exact(hO.same (w':=setBlock w b (.map es clock)) ((heap_setBlock_same hb _).trans hb.symm)).run_look hy
 refine⟨v0,st,_,_,hE,hlook,hR,?_,?_,fun p hp=> ?_⟩
 ·rw[e2];exact CntMap.push_ hn r1
 ·rw[e2];exact r2
 ·simp[World.cell?,setBlock,Ne.symm hp]
end Go.Proofs.YtchfcgilpjkmhaaGreatDoor
