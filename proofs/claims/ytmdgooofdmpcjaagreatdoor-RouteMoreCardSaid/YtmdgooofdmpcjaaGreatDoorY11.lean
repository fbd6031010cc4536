import Derived.Test.YtmdgooofdmpcjaaGreatDoorY10
set_option maxRecDepth 100000
set_option maxHeartbeats 8000000
set_option linter.unusedSimpArgs false
set_option linter.unusedVariables false
set_option linter.unusedSectionVars false
open Go.Proofs.Tryz renaming prog → pG
open Bool renaming and_eq_true->BW,false->Bj,true->BR
open List renaming append_eq->JG,cons_append->GQ,getElem?_eq_getElem->EN,getElem_map->GN,getElem_mem->CS,length_cons->Ia,length_map->FD,length_take_le->Ie,mem_flatMap->E6,mem_map->GR,nil_append->GY,range->EO,take_succ_eq_append_getElem->Dl
open Option renaming none->Ag,some->Ai
open Go.Proofs.Tryz
namespace Go.Proofs.YtmdgooofdmpcjaaGreatDoor
open Go renaming Addr->EK,Calls->ET,Value->Bn,World->Al,maxLen->EW,undef->BA,wpQuiet_nil->E5
open Go.Proofs renaming enters_of->Df
open Instr renaming lookup->E4,mapEntry->Lf
open RowKit renaming Below->BD
open RowKit.Below renaming refl->BK
open World renaming size_alloc->Dj
section
open Go.ChangeShapes Go.WideShapes Go.ChangeAt Go.RowKit
attribute [local go_sem] Oper.semAt_some
theorem KL(n:Nat)(l:List jI)(hn:n=l.length)(A:Option EK)(c:Nat)(w:Al)(h:jE w w.heap.size A l)(hl:l.length<=9223372036854775807):
 CU 64 #[.slice A n c,.func (.func 62) #[] #[]] w (.bool (l.all rC)):=by
 subst hn;exact aE8 62 #[] rC (Df func62 kz rfl) l A c w (λW r hx hW=>by simpa using WQ r W) h hl
def j6(x:fC):Bool:=([(x.n.n:Int),(x.x.n:Int)].all (dJ 0 8))&&(x.c.needs.all rC)
theorem Qn(x:fC)(Br:Nat)(w:Al)(hr:x.rd w w.heap.size)(CP:ah w Br 142 #[.func (.func 62) #[] #[]]):CU 63 #[x.val,.pointer (Ai ⟨Br,0,Ag⟩)] w (.bool (j6 x)):=by
 obtain⟨y0,dV,aV,Hf,jH,qU,kk⟩:=gJ w 83 #[.string x.c.unit,.slice x.n.a x.n.n x.n.c,.slice x.x.a x.x.n x.x.c];obtain⟨k0,k1,k2⟩:=fC.kl kk;have aIw:=xX dV aV CP;have Sq:=(CP.alloc (.cells #[.string x.c.unit,.slice x.n.a x.n.n x.n.c,.slice x.x.a x.x.n x.x.c] 83)).cell 0;have aUl:=CP.lt;have HF:=lz (show j6 x=(([(x.n.n:Int),(x.x.n:Int)].all (dJ 0 8))&&(x.c.needs.all rC))from rfl);have HR:=lz hr;clear kk hr CP;go_enter func63,ntmps63;go_wp2_with fail;rw[<-dV.out];have hc:=lz (AY 0 8 (x.n.n:Int) (x.x.n:Int) y0);generalize ([(x.n.n:Int),(x.x.n:Int)].all (dJ 0 8))=q1 at hc HF;rw[<-qU.out];refine bZ hc jH λy1 fI=> ?_
 clear hc;clear k0 k1 k2 Sq;obtain⟨k0,k1,k2⟩:=fC.kl (Hf.out _ fI.out);have Sq:=(aIw.out _ fI.out).cell 0
 cases q1 with
 | false=>exact e1
 | true=>
  go_wp2_with fail;have hc:=lz (KL x.n.n x.c.needs HR.out.nl x.n.a x.n.c y1 (HR.out.below (bt aV fI)).n (by have h1:=HR.out.nl;have h2:=HR.out.nc;have h3:=HR.out.nm;unfold EW at h3;omega));generalize (x.c.needs.all rC)=q2 at hc HF;refine bZ hc fI λy2 iF=> ?_
  clear hc;clear k0 k1 k2 Sq;obtain⟨k0,k1,k2⟩:=fC.kl (Hf.out _ iF.out);have Sq:=(aIw.out _ iF.out).cell 0;exact e2
def iL(y:dZ):Bool:= !decide ((y.dst.l.length:Int)>8)
def gU(x:ay):Bool:=(decide ((x.mods.l.length:Int)<=4))&&(decide ((x.aj.l.length:Int)<=16))&&(decide ((x.aF.l.length:Int)<=16))&&(decide ((x.aP.l.length:Int)<=8))&&(decide ((x.links.l.length:Int)<=32))&&([(x.bQ.l.length:Int),(x.causes.l.length:Int),(x.aA.l.length:Int)].all (dJ 0 32))
def iV(x:ay):Bool:=(gi x).all iL&&(gU x&&x.mods.l.all mZ&&x.aP.l.all vJ&&x.links.l.all ou&&x.causes.l.all j6)
theorem Xo(x:ay)(g:Nat)(w:Al)(h:tU w g x)(hr:x.rd w w.heap.size):CU 23 #[.pointer (Ai ⟨g,0,Ag⟩)] w (.bool (iV x)):=by
 obtain⟨w1,cN⟩:=ez (((((((w.alloc (.cells #[.bool Bj] 4)).alloc (.cells #[.func (.func 52) #[] #[]] 133)).alloc (.cells #[.func (.func 54) #[] #[]] 134)).alloc (.cells #[.func (.func 55) #[] #[.pointer (Ai ⟨w.heap.size+1,0,Ag⟩),.pointer (Ai ⟨w.heap.size+1+1,0,Ag⟩)]] 137)).alloc (.cells #[.func (.func 62) #[] #[]] 142)).alloc (.cells #[.pointer (Ai ⟨g,0,Ag⟩)] 92)));have aU:BD w.heap.size w w1:=by rw[cN];exact((((((bN).alloc qz _).alloc qo _).alloc qo _).alloc qo _).alloc qo _)
 have jy:ah w1 (w.heap.size) 4 #[.bool Bj]:=by
  rw[cN];have:=ah.new w 4 #[.bool Bj];try simp only[Dj]at this
  exact(((((this).alloc _).alloc _).alloc _).alloc _).alloc _
 have Cr:ah w1 (w.heap.size+1) 133 #[.func (.func 52) #[] #[]]:=by
  rw[cN];have:=ah.new (w.alloc (.cells #[.bool Bj] 4)) 133 #[.func (.func 52) #[] #[]];try simp only[Dj]at this
  exact((((this).alloc _).alloc _).alloc _).alloc _
 have zO:ah w1 (w.heap.size+1+1) 134 #[.func (.func 54) #[] #[]]:=by
  rw[cN];have:=ah.new ((w.alloc (.cells #[.bool Bj] 4)).alloc (.cells #[.func (.func 52) #[] #[]] 133)) 134 #[.func (.func 54) #[] #[]];try simp only[Dj]at this
  exact(((this).alloc _).alloc _).alloc _
 have zo:ah w1 (w.heap.size+1+1+1) 137 #[.func (.func 55) #[] #[.pointer (Ai ⟨w.heap.size+1,0,Ag⟩),.pointer (Ai ⟨w.heap.size+1+1,0,Ag⟩)]]:=by
  rw[cN];have:=ah.new (((w.alloc (.cells #[.bool Bj] 4)).alloc (.cells #[.func (.func 52) #[] #[]] 133)).alloc (.cells #[.func (.func 54) #[] #[]] 134)) 137 #[.func (.func 55) #[] #[.pointer (Ai ⟨w.heap.size+1,0,Ag⟩),.pointer (Ai ⟨w.heap.size+1+1,0,Ag⟩)]];try simp only[Dj]at this
  exact((this).alloc _).alloc _
 have hp4:ah w1 (w.heap.size+1+1+1+1) 142 #[.func (.func 62) #[] #[]]:=by
  rw[cN];have:=ah.new ((((w.alloc (.cells #[.bool Bj] 4)).alloc (.cells #[.func (.func 52) #[] #[]] 133)).alloc (.cells #[.func (.func 54) #[] #[]] 134)).alloc (.cells #[.func (.func 55) #[] #[.pointer (Ai ⟨w.heap.size+1,0,Ag⟩),.pointer (Ai ⟨w.heap.size+1+1,0,Ag⟩)]] 137)) 142 #[.func (.func 62) #[] #[]];try simp only[Dj]at this
  exact(this).alloc _
 have gP:ah w1 (w.heap.size+1+1+1+1+1) 92 #[.pointer (Ai ⟨g,0,Ag⟩)]:=by
  rw[cN];have:=ah.new (((((w.alloc (.cells #[.bool Bj] 4)).alloc (.cells #[.func (.func 52) #[] #[]] 133)).alloc (.cells #[.func (.func 54) #[] #[]] 134)).alloc (.cells #[.func (.func 55) #[] #[.pointer (Ai ⟨w.heap.size+1,0,Ag⟩),.pointer (Ai ⟨w.heap.size+1+1,0,Ag⟩)]] 137)).alloc (.cells #[.func (.func 62) #[] #[]] 142)) 92 #[.pointer (Ai ⟨g,0,Ag⟩)];try simp only[Dj]at this
  exact this
 have hz:w1.heap.size=w.heap.size+6:=by rw[cN];simp
 have gH:D6 w1 g (w.heap.size+1+1+1+1+1) w.heap.size x:=⟨gP,h.below aU,hr.dn nL (cZ aU),oz⟩;have um:=lz (WI x g (w.heap.size+1+1+1+1+1) w.heap.size (λ_=>False) w1 (λ_ h=>h.elim) gH (nT hr.DZ (nT hr.D1 dz)) (nT hr.T9 (nT hr.Ua dz)));have wu:=ah.lt h;have Mk:=lz gH;have lH:=lz cN;have gh:=lz aU;have rT:=lz jy;have Hp1:=lz Cr;have Hp2:=lz zO;have Hp3:=lz zo;have Hp4:=lz hp4;have Hz:=lz hz;clear h hr cN aU jy gP hz gH Cr zO zo hp4;refine(callsIn_wide (n:=9)).1 ?_;refine callsIn_of_wp_marks func23 rfl trivial ?_ rfl;simp only[ntmps23,List.size_toArray,Ia,List.length_nil,Nat.reduceAdd,Nat.reduceSub,Array.replicate_succ,Array.replicate_zero,List.push_toArray,List.append_toArray,GY,GQ];refine wpIn_wide.2 ?_;go_wp2_with (go_at_call 65;refine(Sr _ _).mono ?_;rintro e w' ⟨rfl,hw'⟩);rw[<-lH.out];clear hw';refine(wpIn_wide (n:=9)).1 ?_;have hz1:w.heap.size+6<=w1.heap.size:=Nat.le_of_eq Hz.out.symm;have Xm:w1.heap.size<=w.heap.size+6:=Nat.le_of_eq Hz.out;refine tQ (gf:=143) (lb:= #[.pointer (Ai ⟨w.heap.size+1+1+1+1+1,0,Ag⟩)]) (encs:=dZ.enc) (xs:=gi x) (X:=λ_=>False) (XE:=λk=>k=w.heap.size) rfl (Df func143 kz rfl) (λ_=>rfl) (λ_ h=>h.elim) (λk e=>by omega) um.out
  (λT W=>BD w1.heap.size w1 W/\qG iL T BR)
  (λT W=>ah W w.heap.size 4 #[.bool Bj]/\BD w.heap.size w W/\qG iL T Bj) ?hI ?RU ?TG
  (λy a' W=>∃Bc,w1.heap.size<=Bc/\ah W Bc 149 #[.string y.src.m,.string y.src.p,.string y.src.o,.slice y.dst.a y.dst.l.length y.dst.c,.bool y.vl]/\a'={tmps:= #[.pointer (Ai ⟨g,0,Ag⟩),BA,.pointer (Ai ⟨w.heap.size,0,Ag⟩),.pointer (Ai ⟨w.heap.size+1,0,Ag⟩),.pointer (Ai ⟨w.heap.size+1+1,0,Ag⟩),.pointer (Ai ⟨w.heap.size+1+1+1,0,Ag⟩),.func (.func 58) #[] #[.pointer (Ai ⟨w.heap.size+1+1+1,0,Ag⟩)],.func (.func 60) #[] #[],.func (.func 61) #[] #[],.pointer (Ai ⟨w.heap.size+1+1+1+1,0,Ag⟩),.func (.func 63) #[] #[.pointer (Ai ⟨w.heap.size+1+1+1+1,0,Ag⟩)],.pointer (Ai ⟨Bc,0,Ag⟩),BA,.func (.func 55) #[] #[.pointer (Ai ⟨w.heap.size+1,0,Ag⟩),.pointer (Ai ⟨w.heap.size+1+1,0,Ag⟩)],.func (.func 58) #[] #[.pointer (Ai ⟨w.heap.size+1+1+1,0,Ag⟩)],.func (.func 63) #[] #[.pointer (Ai ⟨w.heap.size+1+1+1+1,0,Ag⟩)],.pointer (Ai ⟨g,0,Ag⟩),.func (.func 143) #[] #[.pointer (Ai ⟨w.heap.size+1+1+1+1+1,0,Ag⟩)],y.val,BA,BA,BA,BA,BA,BA,BA,BA,BA,BA,BA,BA,BA,BA,BA,BA,BA,BA,BA,BA,BA,BA,BA,BA,BA,BA,BA,BA,BA,BA,BA,BA,BA,BA,BA,BA,BA,BA,BA,BA,BA,BA,BA,BA,BA,BA,BA,BA,BA,BA,BA,BA,BA,BA,BA,BA,BA,BA,BA,BA,BA,BA,BA,BA,BA,BA,BA,BA,BA,BA,BA,BA,BA,BA,BA,BA,BA,BA,BA,BA,BA,BA,BA,BA,BA,BA,BA,BA,BA,BA,BA,BA,BA,BA,BA,BA,BA,BA,BA,BA,BA,BA,BA,BA,BA,BA],defers:= []}) ?Kf ?assign ?body ?done ?ret
 case hI=>exact λT W W' h hb=>⟨h.1.trans hb,h.2⟩
 case RU=>exact λT W W' h hb=>⟨ah.below h.1 hb oz,h.2.1.trans (hb.mono oz),h.2.2⟩
 case TG=>exact⟨BK _ _,rfl⟩
 case Kf=>
  rintro y l a' W o o' hl ho hc ⟨Bc,h1,h3,h5⟩;exact⟨Bc,h1,mW h3 ho hc,h5⟩
 case assign=>
  intro l T y W K hT hsz hK;gi_wp2;refine hK _ _ (bN) ⟨W.heap.size,oz,ah.new W _ _,rfl⟩
 case body=>
  rintro l T y a' W hT hsz hG ⟨wV,aJ⟩ ⟨Bc,h1,yh,rfl⟩;have p3:=yh.cell 3;have hlc:=yh.lt;have iY:=rT.out.below wV oz;have r0:=iY.cell 0;have f0:=iY.frozen 0;have Qm:∀b,iL y=b->qG iL (T++ [y]) b:=λb hb=>by unfold qG at *;rw[yd,aJ,hb];rfl
  have yg:iL y=Bj->Gr (λk=>k=w.heap.size) W (W.setCell ⟨w.heap.size,0,Ag⟩ (.bool Bj))/\ah (W.setCell ⟨w.heap.size,0,Ag⟩ (.bool Bj)) w.heap.size 4 #[.bool Bj]/\BD w.heap.size w (W.setCell ⟨w.heap.size,0,Ag⟩ (.bool Bj))/\qG iL (T++ [y]) false:=λhb=>
   ⟨Gr.setCell W ⟨w.heap.size,0,Ag⟩ _ rfl,by simpa using iY.bX 0 (.bool Bj),(gh.out.trans (wV.mono gh.out.size)).setCell (p:=⟨w.heap.size,0,Ag⟩) nL _,Qm _ hb⟩
  have ox:=lz yg;have KI:=lz Qm;have Hbw:=lz wV;clear Qm yg wV iY yh hG aJ hT;by_cases t1:(y.dst.l.length:Int)>8
  .have d1:decide ((y.dst.l.length:Int)>8)=true:=dT t1
   have d2:decide (8<y.dst.l.length)=true:=dT oz;have mz:=lz (ox.out (by unfold iL;rw[d1];rfl));clear t1;gi_wp2;exact mz.out
  .have d1:decide ((y.dst.l.length:Int)>8)=false:=dF t1
   have d2:decide (8<y.dst.l.length)=false:=dF oz;have mz:=lz (KI.out _ (show iL y=BR by unfold iL;rw[d1];rfl));clear t1;gi_wp2;exact⟨Gr.refl _ _,Hbw.out,mz.out⟩
 case done=>
  rintro D W hD hs ⟨hW,aJ⟩ hk;have HF:=lz (show iV x=(gU x&&x.mods.l.all mZ&&x.aP.l.all vJ&&x.links.l.all ou&&x.causes.l.all j6)by unfold iV;rw[show(gi x).all iL=BR from aJ];rfl);have facts:∀W2,BD w1.heap.size w1 W2->tU W2 g x/\x.rd W2 W2.heap.size:=λW2 h2=>⟨Mk.out.g.below h2,(Mk.out.r.more Mk.out.B).below h2⟩
  have I9:=lz facts;have hkD:∀W2,BD W.heap.size W W2->W2.heap[D]?=Ai (.deferred (Ai [])):=λW2 h2=>(h2.block D (gE hk).1).trans hk
  have Qo:=lz hkD;have HW:=lz hW;have pF:=lz (λW2 (h2:BD w1.heap.size w1 W2)=>rT.out.below h2 oz);have Uq:=(facts W hW).1;have aUm:g<W.heap.size:=ah.lt Uq;have k0:=Uq.cell 0;have k1:=Uq.cell 1;have k2:=Uq.cell 2;have k3:=Uq.cell 3;have k4:=Uq.cell 4;have k5:=Uq.cell 5;have k6:=Uq.cell 6;have k7:=Uq.cell 7;clear aJ facts hkD hk hW Uq
  cases a0:decide ((x.mods.l.length:Int)<=4)with
  | false=>
   have b0:decide (x.mods.l.length<=4)=false:=by have:=of_decide_eq_false a0;exact dF oz
   have HC:=lz (show gU x=Bj by unfold gU;rw[a0];simp);go_wp2_with fail;simp only[JG,GQ,GY];have iR:=bn W;refine aB kz kz ?_;repeat (go_big_quiet_step (fail))
   refine E5 ?_;intro _ hw';obtain⟨xx,hw''⟩:=hw';subst hw'';have qB:=lz xx.h;have nO:=lz (HW.out.trans (xx.h.mono HW.out.size));clear iR k0 k1 k2 k3 k4 k5 k6 k7;generalize xx.w=W2 at *;have r0:W2.cell? ⟨w.heap.size,0,Ag⟩=Ai (.bool Bj):=(pF.out _ nO.out).cell 0;have f0:W2.frozen? ⟨w.heap.size,0,Ag⟩=false:=(pF.out _ nO.out).frozen 0;go_wp2_with fail;refine vO D w.heap.size w.heap.size Bj Bj w W2 ?_ ?_ oz ?_ nL (λW' z0=>by simp[results,f23,go_sem,z0]) (λW' hB=>⟨by rw[HF.out,HC.out]<;>rfl,hB⟩)
   .exact pF.out _ nO.out
   .exact Qo.out _ qB.out
   .exact gh.out.trans ((nO.out).mono gh.out.size)
  | true=>
   have b0:decide (x.mods.l.length<=4)=true:=by have:=of_decide_eq_true a0;exact dT oz
   cases a1:decide ((x.aj.l.length:Int)<=16)with
   | false=>
    have b1:decide (x.aj.l.length<=16)=false:=by have:=of_decide_eq_false a1;exact dF oz
    have HC:=lz (show gU x=Bj by unfold gU;rw[a1];simp);go_wp2_with fail;simp only[JG,GQ,GY];have iR:=bn W;refine aB kz kz ?_;repeat (go_big_quiet_step (fail))
    refine E5 ?_;intro _ hw';obtain⟨xx,hw''⟩:=hw';subst hw'';have qB:=lz xx.h;have nO:=lz (HW.out.trans (xx.h.mono HW.out.size));clear iR k0 k1 k2 k3 k4 k5 k6 k7;generalize xx.w=W2 at *;have r0:W2.cell? ⟨w.heap.size,0,Ag⟩=Ai (.bool Bj):=(pF.out _ nO.out).cell 0;have f0:W2.frozen? ⟨w.heap.size,0,Ag⟩=false:=(pF.out _ nO.out).frozen 0;go_wp2_with fail;refine vO D w.heap.size w.heap.size Bj Bj w W2 ?_ ?_ oz ?_ nL (λW' z0=>by simp[results,f23,go_sem,z0]) (λW' hB=>⟨by rw[HF.out,HC.out]<;>rfl,hB⟩)
    .exact pF.out _ nO.out
    .exact Qo.out _ qB.out
    .exact gh.out.trans ((nO.out).mono gh.out.size)
   | true=>
    have b1:decide (x.aj.l.length<=16)=true:=by have:=of_decide_eq_true a1;exact dT oz
    cases a2:decide ((x.aF.l.length:Int)<=16)with
    | false=>
     have b2:decide (x.aF.l.length<=16)=false:=by have:=of_decide_eq_false a2;exact dF oz
     have HC:=lz (show gU x=Bj by unfold gU;rw[a2];simp);go_wp2_with fail;simp only[JG,GQ,GY];have iR:=bn W;refine aB kz kz ?_;repeat (go_big_quiet_step (fail))
     refine E5 ?_;intro _ hw';obtain⟨xx,hw''⟩:=hw';subst hw'';have qB:=lz xx.h;have nO:=lz (HW.out.trans (xx.h.mono HW.out.size));clear iR k0 k1 k2 k3 k4 k5 k6 k7;generalize xx.w=W2 at *;have r0:W2.cell? ⟨w.heap.size,0,Ag⟩=Ai (.bool Bj):=(pF.out _ nO.out).cell 0;have f0:W2.frozen? ⟨w.heap.size,0,Ag⟩=false:=(pF.out _ nO.out).frozen 0;go_wp2_with fail;refine vO D w.heap.size w.heap.size Bj Bj w W2 ?_ ?_ oz ?_ nL (λW' z0=>by simp[results,f23,go_sem,z0]) (λW' hB=>⟨by rw[HF.out,HC.out]<;>rfl,hB⟩)
     .exact pF.out _ nO.out
     .exact Qo.out _ qB.out
     .exact gh.out.trans ((nO.out).mono gh.out.size)
    | true=>
     have b2:decide (x.aF.l.length<=16)=true:=by have:=of_decide_eq_true a2;exact dT oz
     cases a3:decide ((x.aP.l.length:Int)<=8)with
     | false=>
      have b3:decide (x.aP.l.length<=8)=false:=by have:=of_decide_eq_false a3;exact dF oz
      have HC:=lz (show gU x=Bj by unfold gU;rw[a3];simp);go_wp2_with fail;simp only[JG,GQ,GY];have iR:=bn W;refine aB kz kz ?_;repeat (go_big_quiet_step (fail))
      refine E5 ?_;intro _ hw';obtain⟨xx,hw''⟩:=hw';subst hw'';have qB:=lz xx.h;have nO:=lz (HW.out.trans (xx.h.mono HW.out.size));clear iR k0 k1 k2 k3 k4 k5 k6 k7;generalize xx.w=W2 at *;have r0:W2.cell? ⟨w.heap.size,0,Ag⟩=Ai (.bool Bj):=(pF.out _ nO.out).cell 0;have f0:W2.frozen? ⟨w.heap.size,0,Ag⟩=false:=(pF.out _ nO.out).frozen 0;go_wp2_with fail;refine vO D w.heap.size w.heap.size Bj Bj w W2 ?_ ?_ oz ?_ nL (λW' z0=>by simp[results,f23,go_sem,z0]) (λW' hB=>⟨by rw[HF.out,HC.out]<;>rfl,hB⟩)
      .exact pF.out _ nO.out
      .exact Qo.out _ qB.out
      .exact gh.out.trans ((nO.out).mono gh.out.size)
     | true=>
      have b3:decide (x.aP.l.length<=8)=true:=by have:=of_decide_eq_true a3;exact dT oz
      cases a4:decide ((x.links.l.length:Int)<=32)with
      | false=>
       have b4:decide (x.links.l.length<=32)=false:=by have:=of_decide_eq_false a4;exact dF oz
       have HC:=lz (show gU x=Bj by unfold gU;rw[a4];simp);go_wp2_with fail;simp only[JG,GQ,GY];have iR:=bn W;refine aB kz kz ?_;repeat (go_big_quiet_step (fail))
       refine E5 ?_;intro _ hw';obtain⟨xx,hw''⟩:=hw';subst hw'';have qB:=lz xx.h;have nO:=lz (HW.out.trans (xx.h.mono HW.out.size));clear iR k0 k1 k2 k3 k4 k5 k6 k7;generalize xx.w=W2 at *;have r0:W2.cell? ⟨w.heap.size,0,Ag⟩=Ai (.bool Bj):=(pF.out _ nO.out).cell 0;have f0:W2.frozen? ⟨w.heap.size,0,Ag⟩=false:=(pF.out _ nO.out).frozen 0;go_wp2_with fail;refine vO D w.heap.size w.heap.size Bj Bj w W2 ?_ ?_ oz ?_ nL (λW' z0=>by simp[results,f23,go_sem,z0]) (λW' hB=>⟨by rw[HF.out,HC.out]<;>rfl,hB⟩)
       .exact pF.out _ nO.out
       .exact Qo.out _ qB.out
       .exact gh.out.trans ((nO.out).mono gh.out.size)
      | true=>
       have b4:decide (x.links.l.length<=32)=true:=by have:=of_decide_eq_true a4;exact dT oz
       go_wp2_with fail;simp only[JG,GQ,GY];go_still_tail 62,kz;change wpList _ _ _ _ _ W.drew;have hc:=Ns 0 32 (x.bQ.l.length:Int) (x.causes.l.length:Int) (x.aA.l.length:Int) W.drew;obtain⟨q,hq⟩:=ez ( [(x.bQ.l.length:Int),(x.causes.l.length:Int),(x.aA.l.length:Int)].all (dJ 0 32));rw[<-hq]at hc;have HC:=lz (show gU x=q by unfold gU;rw[a0,a1,a2,a3,a4,<-hq];simp);have Hc:=lz hc;clear hc hq;go_wp2_with fail;refine Hc.out.mono ?_;rintro e W2 ⟨rfl,dI⟩;have qB:=lz ((BK W.heap.size W).drew.trans dI);have nO:=lz (HW.out.trans (qB.out.mono HW.out.size));clear k0 k1 k2 k3 k4 k5 k6 k7 dI Hc;have eG:=(I9.out _ nO.out).1;have k0:=eG.cell 0;have k1:=eG.cell 1;have k2:=eG.cell 2;have k3:=eG.cell 3;have k4:=eG.cell 4;have k5:=eG.cell 5;have k6:=eG.cell 6;have k7:=eG.cell 7;clear eG
       cases q with
       | false=>
        have r0:W2.cell? ⟨w.heap.size,0,Ag⟩=Ai (.bool Bj):=(pF.out _ nO.out).cell 0;have f0:W2.frozen? ⟨w.heap.size,0,Ag⟩=false:=(pF.out _ nO.out).frozen 0;go_wp2_with fail;refine vO D w.heap.size w.heap.size Bj Bj w W2 ?_ ?_ oz ?_ nL (λW' z0=>by simp[results,f23,go_sem,z0]) (λW' hB=>⟨by rw[HF.out,HC.out]<;>rfl,hB⟩)
        .exact pF.out _ nO.out
        .exact Qo.out _ qB.out
        .exact gh.out.trans ((nO.out).mono gh.out.size)
       | true=>
        have cU:=lz (λW' (h:BD W2.heap.size W2 W')=>Hp1.out.below (nO.out.trans (h.mono nO.out.size)) Hp1.out.lt);have aIx:=lz (λW' (h:BD W2.heap.size W2 W')=>Hp2.out.below (nO.out.trans (h.mono nO.out.size)) Hp2.out.lt);have mP:=lz (λW' (h:BD W2.heap.size W2 W')=>Hp3.out.below (nO.out.trans (h.mono nO.out.size)) Hp3.out.lt);have Ct:=(I9.out _ nO.out).2;have hc:=AL 58 #[.pointer (Ai ⟨w.heap.size+1+1+1,0,Ag⟩)] mZ (Df func58 kz rfl) x.mods.l x.mods.a x.mods.c W2 (λW' r hx hW' fK=>by simpa using WR r (w.heap.size+1) (w.heap.size+1+1) (w.heap.size+1+1+1) W' fK (mP.out W' hW') (λW'' h''=>cU.out W'' ((hW'.trans (h''.mono hW'.size)))) (λW'' h''=>aIx.out W'' ((hW'.trans (h''.mono hW'.size))))) Ct.mods (nT Ct.AU (nT Ct.AV dz));obtain⟨p0,hp0⟩:∃q,q=x.mods.l.all mZ:=⟨_,rfl⟩;rw[<-hp0]at hc HF;have Hc:=lz hc;clear hc hp0 Ct;go_wp2_with fail;refine Hc.out.mono ?_;rintro e W3 ⟨rfl,hb⟩;have Ja:=lz (qB.out.trans (hb.mono qB.out.size));have yY:=lz (nO.out.trans (hb.mono nO.out.size));clear k0 k1 k2 k3 k4 k5 k6 k7 hb Hc cU aIx mP;have eG:=(I9.out _ yY.out).1;have k0:=eG.cell 0;have k1:=eG.cell 1;have k2:=eG.cell 2;have k3:=eG.cell 3;have k4:=eG.cell 4;have k5:=eG.cell 5;have k6:=eG.cell 6;have k7:=eG.cell 7;clear eG
        cases p0 with
        | false=>
         have r0:W3.cell? ⟨w.heap.size,0,Ag⟩=Ai (.bool Bj):=(pF.out _ yY.out).cell 0;have f0:W3.frozen? ⟨w.heap.size,0,Ag⟩=false:=(pF.out _ yY.out).frozen 0;go_wp2_with fail;refine vO D w.heap.size w.heap.size Bj Bj w W3 ?_ ?_ oz ?_ nL (λW' z0=>by simp[results,f23,go_sem,z0]) (λW' hB=>⟨by rw[HF.out,HC.out]<;>rfl,hB⟩)
         .exact pF.out _ yY.out
         .exact Qo.out _ Ja.out
         .exact gh.out.trans ((yY.out).mono gh.out.size)
        | true=>
         have Ct:=(I9.out _ yY.out).2;have hc:=MR 60 #[] vJ (Df func60 kz rfl) x.aP.l x.aP.a x.aP.c W3 (λW' r hx hW'=>by simpa using aBP r W') Ct.aP (nT Ct.aBH (nT Ct.aBI dz));obtain⟨p1,Cr⟩:∃q,q=x.aP.l.all vJ:=⟨_,rfl⟩;rw[<-Cr]at hc HF;have Hc:=lz hc;clear hc Cr Ct;go_wp2_with fail;refine Hc.out.mono ?_;rintro e W4 ⟨rfl,hb⟩;have HX4:=lz (Ja.out.trans (hb.mono Ja.out.size));have Qp:=lz (yY.out.trans (hb.mono yY.out.size));clear k0 k1 k2 k3 k4 k5 k6 k7 hb Hc;have eG:=(I9.out _ Qp.out).1;have k0:=eG.cell 0;have k1:=eG.cell 1;have k2:=eG.cell 2;have k3:=eG.cell 3;have k4:=eG.cell 4;have k5:=eG.cell 5;have k6:=eG.cell 6;have k7:=eG.cell 7;clear eG
         cases p1 with
         | false=>
          have r0:W4.cell? ⟨w.heap.size,0,Ag⟩=Ai (.bool Bj):=(pF.out _ Qp.out).cell 0;have f0:W4.frozen? ⟨w.heap.size,0,Ag⟩=false:=(pF.out _ Qp.out).frozen 0;go_wp2_with fail;refine vO D w.heap.size w.heap.size Bj Bj w W4 ?_ ?_ oz ?_ nL (λW' z0=>by simp[results,f23,go_sem,z0]) (λW' hB=>⟨by rw[HF.out,HC.out]<;>rfl,hB⟩)
          .exact pF.out _ Qp.out
          .exact Qo.out _ HX4.out
          .exact gh.out.trans ((Qp.out).mono gh.out.size)
         | true=>
          have Ct:=(I9.out _ Qp.out).2;have hc:=TB 61 #[] ou (Df func61 kz rfl) x.links.l x.links.a x.links.c W4 (λW' r hx hW'=>by simpa using Uf r W') Ct.links (nT Ct.D2 (nT Ct.D3 dz));obtain⟨p2,zO⟩:∃q,q=x.links.l.all ou:=⟨_,rfl⟩;rw[<-zO]at hc HF;have Hc:=lz hc;clear hc zO Ct;go_wp2_with fail;refine Hc.out.mono ?_;rintro e W5 ⟨rfl,hb⟩;have Gm:=lz (HX4.out.trans (hb.mono HX4.out.size));have ND:=lz (Qp.out.trans (hb.mono Qp.out.size));clear k0 k1 k2 k3 k4 k5 k6 k7 hb Hc;have eG:=(I9.out _ ND.out).1;have k0:=eG.cell 0;have k1:=eG.cell 1;have k2:=eG.cell 2;have k3:=eG.cell 3;have k4:=eG.cell 4;have k5:=eG.cell 5;have k6:=eG.cell 6;have k7:=eG.cell 7;clear eG
          cases p2 with
          | false=>
           have r0:W5.cell? ⟨w.heap.size,0,Ag⟩=Ai (.bool Bj):=(pF.out _ ND.out).cell 0;have f0:W5.frozen? ⟨w.heap.size,0,Ag⟩=false:=(pF.out _ ND.out).frozen 0;go_wp2_with fail;refine vO D w.heap.size w.heap.size Bj Bj w W5 ?_ ?_ oz ?_ nL (λW' z0=>by simp[results,f23,go_sem,z0]) (λW' hB=>⟨by rw[HF.out,HC.out]<;>rfl,hB⟩)
           .exact pF.out _ ND.out
           .exact Qo.out _ Gm.out
           .exact gh.out.trans ((ND.out).mono gh.out.size)
          | true=>
           have pN:=lz (λW' (h:BD W5.heap.size W5 W')=>Hp4.out.below (ND.out.trans (h.mono ND.out.size)) Hp4.out.lt);have Ct:=(I9.out _ ND.out).2;have hc:=aE9 63 #[.pointer (Ai ⟨w.heap.size+1+1+1+1,0,Ag⟩)] j6 (Df func63 kz rfl) x.causes.l x.causes.a x.causes.c W5 (λW' r hx hW' fK=>by simpa using Qn r (w.heap.size+1+1+1+1) W' fK (pN.out W' hW')) Ct.causes (nT Ct.CN (nT Ct.CO dz));obtain⟨p3,zo⟩:∃q,q=x.causes.l.all j6:=⟨_,rfl⟩;rw[<-zo]at hc HF;have Hc:=lz hc;clear hc zo Ct;go_wp2_with fail;refine Hc.out.mono ?_;rintro e W6 ⟨rfl,hb⟩;have HX6:=lz (Gm.out.trans (hb.mono Gm.out.size));have RR:=lz (ND.out.trans (hb.mono ND.out.size));clear k0 k1 k2 k3 k4 k5 k6 k7 hb Hc pN;have r0:W6.cell? ⟨w.heap.size,0,Ag⟩=Ai (.bool Bj):=(pF.out _ RR.out).cell 0;have f0:W6.frozen? ⟨w.heap.size,0,Ag⟩=false:=(pF.out _ RR.out).frozen 0;go_wp2_with fail;refine vO D w.heap.size w.heap.size p3 Bj w W6 ?_ ?_ oz ?_ nL (λW' z0=>by simp[results,f23,go_sem,z0]) (λW' hB=>⟨by rw[HF.out,HC.out]<;>rfl,hB⟩)
           .exact pF.out _ RR.out
           .exact Qo.out _ HX6.out
           .exact gh.out.trans ((RR.out).mono gh.out.size)
 case ret=>
  rintro D T W3 hD hs hT ⟨h1,h2,h3⟩ hk;have HF:=lz (show iV x=Bj by unfold iV;rw[pW hT h3];rfl);have KJ:D<W3.heap.size:=(gE hk).1;refine bP [D] W3 D qz (λE hE=>by simp at hE;subst hE;exact⟨nL,hk⟩) λW' j5=> ?_
  have z0:=(ah.below h1 j5.below oz).cell 0;exact⟨.bool Bj,by simp[results,f23,go_sem,z0],by rw[HF.out],h2.trans (j5.below.mono oz)⟩
end
section
open Go.ChangeShapes Go.WideShapes Go.ChangeAt Go.RowKit Go.Deep
structure kY where
 node:Int
 net:Int
 deriving DecidableEq
abbrev kY.kv(r:kY):Value:= .agg #[.int .i64 r.node,.int .i64 r.net]
def kY.ok(r:kY):Prop:=(Lit.int .i64 r.node).wf=BR/\(Lit.int .i64 r.net).wf=BR
theorem vP:pG.cellsOf 174=2:=by kernel_rfl
theorem Xp:pG.keyTypeAt (pG.types.size+1) 174=true:=by kernel_rfl
theorem aOG:(174:TypeId)<pG.types.size:=of_decide_eq_true kz
theorem aIy:(match pG.underlying 174 with | some (.array _ _) | some (.struct _)=>BR | _=>Bj)=true:=by kernel_rfl
theorem aIz:WideMaps.KeyLaw pG 174:=deep_law_laid laid (m:=2) oz aOG kz aIy
theorem aI0(d:Nat)(r:kY)(h:r.ok):pG.keyLits (d+2) 174 [.int .i64 r.node,.int .i64 r.net]=Ai [.int .i64 r.node,.int .i64 r.net]:=by
 have h0:=h.1;have h1:=h.2;simp[Program.keyLits,underlying174,underlying3,Dp,vP,h0,h1]
theorem aOH(r:kY)(h:r.ok):keyOf pG 174 r.kv=Ai (.string (keyBytes [.int .i64 r.node,.int .i64 r.net])):=by
 have hk:pG.keyType 174=true:=Xp;unfold keyOf;simp[underlying174,hk,Value.formed,vP,Value.cells,aI0 411 r h]
theorem Xq(e:Nat)(a b:Bn)(ls:List Lit)(h:pG.keyLits (e+1) 174 [a,b]=Ai ls):∃x:kY,a= .int .i64 x.node/\b= .int .i64 x.net:=by
 unfold Program.keyLits at h;simp only[underlying174]at h
 cases hx0:pG.keyLits e 3 [a]with
 | none=>simp[underlying3,Dp,vP,hx0]at h
 | some z0=>
  cases Dg:pG.keyLits e 3 [b]with
  | none=>simp[underlying3,Dp,vP,Dg,hx0]at h
  | some z1=>
   obtain⟨s0,hs0,e0⟩:=keyLits_int' underlying3 hx0;obtain⟨s1,hs1,e1⟩:=keyLits_int' underlying3 Dg;simp at hs0;simp at hs1;exact⟨⟨s0,s1⟩,hs0,hs1⟩
theorem aFA(d:Nat)(x:kY)(ls:List Lit)(h:pG.keyLits (d+2) 174 [.int .i64 x.node,.int .i64 x.net]=Ai ls):x.ok:=by
 by_cases h0:(Lit.int .i64 x.node).wf=BR;rotate_left
 .exact absurd h (by simp[Program.keyLits,underlying174,underlying3,Dp,vP,h0])
 by_cases h1:(Lit.int .i64 x.net).wf=BR;rotate_left
 .exact absurd h (by simp[Program.keyLits,underlying174,underlying3,Dp,vP,h0,h1])
 exact⟨h0,h1⟩
theorem aBh{v:Bn}{l:Lit}(h:keyOf pG 174 v=Ai l):∃a b e ls,v= .agg #[a,b]/\pG.keyLits (e+2) 174 [a,b]=Ai ls:=by
 unfold keyOf at h;simp only[underlying174]at h;split at h
 .rename_i hc
  rw[BW]at hc;rw[Option.map_eq_some_iff]at h;obtain⟨ls,hl,_⟩:=h;obtain⟨cs,rfl,hcs⟩:∃cs:Array Bn,v= .agg cs/\cs.size=2:=by
   have:=hc.2
   cases v<;>simp[Value.formed,underlying174,vP]at this
   exact⟨_,rfl,this⟩
  obtain⟨a,b,rfl⟩:=aET hcs;obtain⟨n,hn⟩:=aDI;rw[hn]at hl;exact⟨a,b,n,ls,rfl,hl⟩
 .cases h
theorem aOI{v:Bn}{l:Lit}(h:keyOf pG 174 v=Ai l):∃x:kY,x.ok/\v=x.kv:=by
 obtain⟨a,b,e,ls,rfl,hl⟩:=aBh h;obtain⟨x,rfl,rfl⟩:=Xq (e+1) a b ls hl;exact⟨x,aFA e x ls hl,rfl⟩
noncomputable def KP:jX kY where
 t:=172
 k:=174
 vl:=kY.kv
 lit:=λr=> .string (keyBytes [.int .i64 r.node,.int .i64 r.net])
 good:=kY.ok
 law:=Maps.Keyed.of_law aIz
 und:=underlying172
 key:=aOH
 inj:=λx y h=>by
  obtain⟨x0,x1⟩:=x;obtain⟨y0,y1⟩:=y;simp[kY.kv]at h;simp[h]
 inv:=λv l h=>aOI h
deriving instance DecidableEq for bw
abbrev bw.kv(r:bw):Value:= .agg #[.string r.m,.string r.p,.string r.o]
def bw.ok(r:bw):Prop:=r.m.size<=EW/\r.p.size<=EW/\r.o.size<=EW
theorem rH:pG.cellsOf 41=3:=by kernel_rfl
theorem Xr:pG.keyTypeAt (pG.types.size+1) 41=true:=by kernel_rfl
theorem aOJ:(41:TypeId)<pG.types.size:=of_decide_eq_true kz
theorem aI1:(match pG.underlying 41 with | some (.array _ _) | some (.struct _)=>BR | _=>Bj)=true:=by kernel_rfl
theorem aFB:WideMaps.KeyLaw pG 41:=deep_law_laid laid (m:=2) oz aOJ kz aI1
theorem aI2(d:Nat)(r:bw)(h:r.ok):pG.keyLits (d+2) 41 [.string r.m,.string r.p,.string r.o]=Ai [.string r.m.data.toList,.string r.p.data.toList,.string r.o.data.toList]:=by
 have h0:=h.1;have h1:=h.2.1;have h2:=h.2.2;simp[Program.keyLits,underlying41,underlying9,vo,rH,h0,h1,h2]
theorem aOK(r:bw)(h:r.ok):keyOf pG 41 r.kv=Ai (.string (keyBytes [.string r.m.data.toList,.string r.p.data.toList,.string r.o.data.toList])):=by
 have hk:pG.keyType 41=true:=Xr;unfold keyOf;simp[underlying41,hk,Value.formed,rH,Value.cells,aI2 411 r h]
theorem Xt{cs:Array Bn}(h:cs.size=3):∃a b d,cs= #[a,b,d]:=by
 obtain⟨l⟩:=cs
 match l,h with
 | [a,b,d],_=>exact⟨a,b,d,rfl⟩
theorem Xu(e:Nat)(a b d:Bn)(ls:List Lit)(h:pG.keyLits (e+1) 41 [a,b,d]=Ai ls):∃x:bw,a= .string x.m/\b= .string x.p/\d= .string x.o:=by
 unfold Program.keyLits at h;simp only[underlying41]at h
 cases hx0:pG.keyLits e 9 [a]with
 | none=>simp[underlying9,vo,rH,hx0]at h
 | some z0=>
  cases Dg:pG.keyLits e 9 [b]with
  | none=>simp[underlying9,vo,rH,Dg,hx0]at h
  | some z1=>
   cases hx2:pG.keyLits e 9 [d]with
   | none=>simp[underlying9,vo,rH,hx2,hx0,Dg]at h
   | some z2=>
    obtain⟨s0,hs0,e0⟩:=keyLits_string' underlying9 hx0;obtain⟨s1,hs1,e1⟩:=keyLits_string' underlying9 Dg;obtain⟨s2,Pb,e2⟩:=keyLits_string' underlying9 hx2;simp at hs0;simp at hs1;simp at Pb;exact⟨⟨s0,s1,s2⟩,hs0,hs1,Pb⟩
theorem aFD(d:Nat)(x:bw)(ls:List Lit)(h:pG.keyLits (d+2) 41 [.string x.m,.string x.p,.string x.o]=Ai ls):x.ok:=by
 by_cases h0:x.m.size<=EW;rotate_left
 .exact absurd h (by simp[Program.keyLits,underlying41,underlying9,vo,rH,h0])
 by_cases h1:x.p.size<=EW;rotate_left
 .exact absurd h (by simp[Program.keyLits,underlying41,underlying9,vo,rH,h0,h1])
 by_cases h2:x.o.size<=EW;rotate_left
 .exact absurd h (by simp[Program.keyLits,underlying41,underlying9,vo,rH,h0,h1,h2])
 exact⟨h0,h1,h2⟩
theorem aBi{v:Bn}{l:Lit}(h:keyOf pG 41 v=Ai l):∃a b d e ls,v= .agg #[a,b,d]/\pG.keyLits (e+2) 41 [a,b,d]=Ai ls:=by
 unfold keyOf at h;simp only[underlying41]at h;split at h
 .rename_i hc
  rw[BW]at hc;rw[Option.map_eq_some_iff]at h;obtain⟨ls,hl,_⟩:=h;obtain⟨cs,rfl,hcs⟩:∃cs:Array Bn,v= .agg cs/\cs.size=3:=by
   have:=hc.2
   cases v<;>simp[Value.formed,underlying41,rH]at this
   exact⟨_,rfl,this⟩
  obtain⟨a,b,d,rfl⟩:=Xt hcs;obtain⟨n,hn⟩:=aDI;rw[hn]at hl;exact⟨a,b,d,n,ls,rfl,hl⟩
 .cases h
theorem aOL{v:Bn}{l:Lit}(h:keyOf pG 41 v=Ai l):∃x:bw,x.ok/\v=x.kv:=by
 obtain⟨a,b,d,e,ls,rfl,hl⟩:=aBi h;obtain⟨x,rfl,rfl,rfl⟩:=Xu (e+1) a b d ls hl;exact⟨x,aFD e x ls hl,rfl⟩
noncomputable def KF:jX bw where
 t:=175
 k:=41
 vl:=bw.kv
 lit:=λr=> .string (keyBytes [.string r.m.data.toList,.string r.p.data.toList,.string r.o.data.toList])
 good:=bw.ok
 law:=Maps.Keyed.of_law aFB
 und:=underlying175
 key:=aOK
 inj:=λx y h=>by
  obtain⟨x0,x1,x2⟩:=x;obtain⟨y0,y1,y2⟩:=y;simp[bw.kv]at h;simp[h]
 inv:=λv l h=>aOL h
open Go.ChangeMaps (setBlock heap_setBlock_same)
open Go.WideMaps (KeyLaw)
open Go.ChangeMaps Go.WideElems
theorem aH.Qq{κ:Type}[DecidableEq κ]{M:jX κ}(Qr:WideMaps.KeyLaw pG M.k)(Xv:pG.underlying M.t=Ai (.map M.k 3)){w:Al}{b:Nat}{l:List κ}(h:aH M w b l)(hl:l.length<EW){y:κ}(hy:M.good y):
 ∃v0 st W1 W2,(Lf M.t (.map (Ai b)) (M.vl y)).run pG w= .ok (.tuple #[v0,.int .i64 ((st:Nat):Int)]) W1/\
  (E4 M.t (.map (Ai b)) (M.vl y) Bj).run pG W1= .ok (.int .i64 (dR y l)) W1/\
  (Instr.entryStore M.t (.map (Ai b)) (.int .i64 ((st:Nat):Int)) (.int .i64 ((dR y l:Int)+1))).run pG W1= .ok () W2/\
  aH M W2 b (l++ [y])/\w.grownBy W2 (Ai b)/\∀p:EK,p.block≠b->W1.cell? p=w.cell? p:=by
 obtain⟨n,hn,hO⟩:=h;have hO':=hO;obtain⟨D,⟨es,clock,hb,F,hsz,rfl⟩,hK⟩:=hO';have hkey:keyOf pG M.k (M.vl y)=Ai _:=M.key y hy;obtain⟨v0,st,es1,clock1,hE,Ss,hS⟩:=WideElems.entry_then_store (t:=M.t) (w:=w) Qr Xv RJ hb F hkey;have aU:(setBlock w b (.map es1 clock1)).heap[b]?=Ai (.map es1 clock1):=heap_setBlock_same hb _;obtain⟨es2,Xw,hR,hU⟩:=hS (setBlock w b (.map es1 clock1)) (.int .i64 ((dR y l:Int)+1)) aU;rw[Du]at hR;have hc:=vA y l;have hm:EW=9223372036854775807:=rfl;obtain⟨w',hr,r1,r2⟩:=hO.run_store oz hy ((dR y l:Int)+1) (WalkArith.wf_i64 oz);have e2:setBlock w b (.map es2 Xw)=w':=by
  have:Result.ok () (setBlock w b (.map es2 Xw))=Result.ok () w':=hU.symm.trans hr;exact(Dv this).2
 have uT:(E4 M.t (.map (Ai b)) (M.vl y) Bj).run pG (setBlock w b (.map es1 clock1))= .ok (.int .i64 (dR y l)) (setBlock w b (.map es1 clock1)):=by
  rcases Qr.find w hkey es.toList F.keys with⟨h1,h2⟩ | ⟨j,e0,h1,h2,h3⟩
  .have hE2:(Lf M.t (.map (Ai b)) (M.vl y)).run pG w= .ok (.tuple #[.int .i64 0,goInt clock]) (setBlock w b (.map (es.push ⟨M.vl y,.int .i64 0,clock⟩) (clock+1))):=by
    simp[Lf,run_underlying (Xv),MapKept.run_getObj_map hb,Qr.check w Bj hkey,h1,RJ,MapKept.run_setObj_map _ hb,Result.andThen,setBlock]
   have hU2:(Instr.mapUpdate M.t (.map (Ai b)) (M.vl y) (.int .i64 0)).run pG w= .ok () (setBlock w b (.map (es.push ⟨M.vl y,.int .i64 0,clock⟩) (clock+1))):=by
    simp[Instr.mapUpdate,run_underlying (Xv),MapKept.run_getObj_map hb,Qr.check w Bj hkey,h1,MapKept.run_setObj_map _ hb,Result.andThen,setBlock]
   have hL2:(E4 M.t (.map (Ai b)) (M.vl y) Bj).run pG w= .ok (.int .i64 0) w:=by
    simp[E4,run_underlying (Xv),MapKept.run_getObj_map hb,Qr.check w _ hkey,h1,RJ,Result.andThen]
   have h0:(dR y l:Int)=0:=by
    have:=(Dv ((hO.iH hy).symm.trans hL2)).1;injection this
   have e1:setBlock w b (.map es1 clock1)=setBlock w b (.map (es.push ⟨M.vl y,.int .i64 0,clock⟩) (clock+1)):=by
    exact(Dv (hE.symm.trans hE2)).2
   obtain⟨w0,jy,r10,_⟩:=hO.run_store oz hy 0 (WalkArith.wf_i64 oz);have e3:setBlock w b (.map (es.push ⟨M.vl y,.int .i64 0,clock⟩) (clock+1))=w0:=by
    exact(Dv (hU2.symm.trans jy)).2
   rw[e1,e3];have:=r10.iH hy;simp only[Mv,if_pos]at this;rw[h0];exact this
  .have hj:es[j]?=Ai e0:=by simpa using h2
   have hL3:=hO.iH hy;have Jb:es.modify j (λe=>{e with key:=M.vl y})=es:=by
    apply Array.ext';rw[Array.toList_modify,modify_eq_set _ _ _ _ h2];have:({e0 with key:=M.vl y}:MapEntry)=e0:=by rw[<-h3]
    rw[this];exact WideElems.set_self _ _ _ h2
   have hE2:∃v,(Lf M.t (.map (Ai b)) (M.vl y)).run pG w= .ok v (setBlock w b (.map es clock)):=by
    refine⟨.tuple #[e0.val,goInt e0.born],?_⟩;simp[Lf,run_underlying (Xv),MapKept.run_getObj_map hb,Qr.check w Bj hkey,h1,hj,h3,Qr.stays w hkey,Jb,MapKept.run_setObj_map _ hb,Result.andThen,setBlock]
   obtain⟨v,hE2⟩:=hE2;have e1:setBlock w b (.map es1 clock1)=setBlock w b (.map es clock):=by
    exact(Dv (hE.symm.trans hE2)).2
   rw[e1];exact(hO.same (w':=setBlock w b (.map es clock)) ((heap_setBlock_same hb _).trans hb.symm)).iH hy
 refine⟨v0,st,_,_,hE,uT,hR,?_,?_,λp hp=> ?_⟩
 .rw[e2];exact aH.aDL hn r1
 .rw[e2];exact r2
 .simp[World.cell?,setBlock,Ne.symm hp]
end
section
open Go.ChangeShapes Go.WideShapes Go.ChangeAt Go.RowKit
attribute [local go_sem] Oper.semAt_some
open Go.Act renaming put → zP
open List renaming setIfInBounds_toArray → zA, set_cons_zero → zB, set_cons_succ → zC
theorem nP{α:Type}[DecidableEq α](l:List α)(k:Nat)(hk:k<l.length):decide ((dR l[k] (l.take (k+1)):Int)=1)= !fP l[k] (l.take k):=by
 rw[Dl hk,sP,if_pos rfl];have h:=JU l[k] (l.take k)
 cases hm:fP l[k] (l.take k)with
 | true=>rw[hm]at h;have:=of_decide_eq_true h;exact dF oz
 | false=>rw[hm]at h;have:=of_decide_eq_false h;exact dT oz
def eM(l:List ByteArray):Bool:=(EO l.length).all λk=> !fP ((l[k]?).getD ⟨#[]⟩) (l.take k)
theorem zQ{q:Prop}(z:q:=by
 obtain⟨y0,bR⟩:=ez (w.alloc x.obj);have bW:BD w.heap.size w y0:=by rw[bR];exact bN
 have bS:x.B y0 w.heap.size:=by rw[bR];exact ah.new w _ _
 have IK:=hc.lt;have nb:∀{b:Nat} {tt:TypeId} {cs:Array Bn},ah w b tt cs->¬b=mb:=λh e=>by
  subst e;obtain⟨es,ck,ho⟩:=hc.obj;rw[show w.heap[_]?=_ from h]at ho;cases ho
 have facts:∀W l',Gr (· =mb) y0 W->aH KS W mb l'->x.S Bm Bo w.heap.size mb (dR x.nm l') W:=λW l' hW Pk=>x.Ur (hW.blk (hm.below bW hm.lt) (nb hm)) (hW.blk (ho.below bW ho.lt) (nb ho)) (hW.blk bS oz) (Pk.iH (M:=KS) hx)
 have hc0:aH KS y0 mb l:=hc.next bW
 have hmm:EW=9223372036854775807:=rfl;have cC:=vA x.nm l;have aBj:=vA x.nm (l++ [x.nm]);have Hwr:Hid (IntKind.i64.wrap ((dR x.nm l:Int)+1)=(dR x.nm l:Int)+1):=lz (IntWalk.i64_in _ oz);have Hf:=lz facts;have aV:=lz bW;have dV:=lz bR;have Hc0:=lz hc0;have KM:=lz uU;have aNv:=hm.lt;have aUr:=ho.lt;have aUs:=bS.lt;clear hm ho hc facts bW bR bS cC aBj uU nb hc0;go_wp2_with fail;rw[<-dV.out];have hw:=Hwr.out;have hHeld:=Hf.out y0.drew l (Gr.ak (BK _ y0).drew) (aH.next Hc0.out (BK _ y0).drew);refine aT (x.S Bm Bo w.heap.size mb (dR x.nm l)) 6 kz hHeld (λhHeld=> ?_);refine tkS 0 rfl hHeld (v:= ?_) ⟨by rfl,?_⟩ ?_;rotate_left
 .exact tkY
 simp only[zP,zA,zB,zC];refine tkS 1 rfl hHeld (v:= ?_) ⟨by rfl,?_⟩ ?_;rotate_left
 .exact tkY
 simp only[zP,zA,zB,zC];refine tkS 2 rfl hHeld (v:= ?_) ⟨by rfl,?_⟩ ?_;rotate_left
 .exact tkY
 simp only[zP,zA,zB,zC];refine RQ 3 rfl λK hK=> ?_;have hSw:=hHeld;first | exact tkP | skip
 go_simp;refine(KM.out _).mono ?_;rintro e w1 ⟨rfl,aU⟩;have aU:BD y0.heap.size y0 w1:=(BK _ y0).drew.trans aU;have hc1:=aH.next Hc0.out aU
 have hHeld:=Hf.out w1 l (Gr.ak aU) hc1;obtain⟨w2,hup,qc,eG⟩:=hc1.run_store oz (y:=x.nm) hx;have Hup:=lz (show(Instr.mapUpdate 209 (.map (Ai mb)) (.string x.nm) (.int .i64 ((dR x.nm l:Int)+1))).run pG w1= .ok () w2 from hup);have Hc2:=lz qc;have Hg2:=lz (show Gr (· =mb) y0 w2 from(Gr.ak aU).trans (Gr.eO eG λk e=>(Option.some.inj e).symm));refine hK.out _ _ (λ_=>hHeld) ?_;clear hK aU hc1 hup qc eG hSw;refine tkS 4 rfl hHeld (v:= ?_) ⟨by rfl,?_⟩ ?_;rotate_left
 .exact tkY
 simp only[zP,zA,zB,zC];refine tkS 5 rfl hHeld (v:= ?_) ⟨by rfl,?_⟩ ?_;rotate_left
 .exact tkY
 simp only[zP,zA,zB,zC];refine RQ 6 rfl λK hK=> ?_;have hup:=Hup.out;go_simp;refine hK.out _ _ (λh=>absurd h dz) ?_;clear hK hup hHeld;refine aL kz ?_ _;have hHeld:=Hf.out w2.drew (l++ [x.nm]) (Hg2.out.trans (Gr.ak (BK _ w2).drew)) (aH.next Hc2.out (BK _ w2).drew);go_wp2_with fail;refine aT (x.S Bm Bo w.heap.size mb (dR x.nm (l++ [x.nm]))) 6 kz hHeld (λhHeld=> ?_);refine tkS 0 rfl hHeld (v:= ?_) ⟨by rfl,?_⟩ ?_;rotate_left
 .exact tkY
 simp only[zP,zA,zB,zC];refine tkS 1 rfl hHeld (v:= ?_) ⟨by rfl,?_⟩ ?_;rotate_left
 .exact tkY
 simp only[zP,zA,zB,zC];refine tkS 2 rfl hHeld (v:= ?_) ⟨by rfl,?_⟩ ?_;rotate_left
 .exact tkY
 simp only[zP,zA,zB,zC];refine RQ 3 rfl λK hK=> ?_;go_simp;refine(KM.out _).mono ?_;rintro e w3 ⟨rfl,kq⟩;have kq:BD w2.heap.size w2 w3:=(BK _ w2).drew.trans kq;have hHeld:=Hf.out w3 (l++ [x.nm]) (Hg2.out.trans (Gr.ak kq)) (aH.next Hc2.out kq);have Vs:=lz kq;refine hK.out _ _ (λ_=>hHeld) ?_;clear hK kq;refine tkS 4 rfl hHeld (v:= ?_) ⟨by rfl,?_⟩ ?_;rotate_left
 .exact tkY
 simp only[zP,zA,zB,zC];refine tkS 5 rfl hHeld (v:= ?_) ⟨by rfl,?_⟩ ?_;rotate_left
 .exact tkY
 simp only[zP,zA,zB,zC];refine RQ 6 rfl λK hK=> ?_;go_simp;refine hK.out _ _ (λh=>absurd h dz) ?_;clear hK hHeld;refine aL kz ?_ _;go_wp2;go_ret;exact⟨rfl,Hc2.out.next Vs.out,(Gr.ak aV.out).trans (Hg2.out.trans (Gr.ak Vs.out))⟩):q:=z
abbrev bT.B(x:bT)(W:Al)(g:Nat):Prop:=ah W g 67 #[.string x.nm,.int .i64 x.mem,.int .i64 x.fr,.slice x.parts.a x.parts.l.length x.parts.c]
def bT.S(x:bT)(Bm Bo g mb:Nat)(k:Nat)(W:Al):Prop:=W.cell? ⟨Bm,0,Ag⟩=Ai (.map (Ai mb))/\W.cell? ⟨Bo,0,Ag⟩=Ai (.func (.func 35) #[] #[])/\W.cell? ⟨g,0,Ag⟩=Ai (.string x.nm)/\W.cell? ⟨g,1,Ag⟩=Ai (.int .i64 x.mem)/\W.cell? ⟨g,2,Ag⟩=Ai (.int .i64 x.fr)/\W.cell? ⟨g,3,Ag⟩=Ai (.slice x.parts.a x.parts.l.length x.parts.c)/\(E4 209 (.map (Ai mb)) (.string x.nm) Bj).run pG W= .ok (.int .i64 k) W
theorem bT.Ur(x:bT){Bm Bo g mb k:Nat}{W:Al}(h1:ah W Bm 209 #[.map (Ai mb)])(h2:ah W Bo 112 #[.func (.func 35) #[] #[]])(h3:x.B W g)(h4:(E4 209 (.map (Ai mb)) (.string x.nm) Bj).run pG W= .ok (.int .i64 k) W):x.S Bm Bo g mb k W:=⟨h1.cell 0,h2.cell 0,h3.cell 0,h3.cell 1,h3.cell 2,h3.cell 3,h4⟩
theorem KN(x:bT)(Bm Bo mb:Nat)(l:List ByteArray)(w:Al)(hm:ah w Bm 209 #[.map (Ai mb)])(ho:ah w Bo 112 #[.func (.func 35) #[] #[]])(hc:aH KS w mb l)(hl:l.length<1000000)(hx:x.nm.size<=EW):
 ET pG 155 #[x.val,.pointer (Ai ⟨Bm,0,Ag⟩),.pointer (Ai ⟨Bo,0,Ag⟩)] w λe w'=>e= .returned (.bool (decide ((dR x.nm (l++ [x.nm]):Int)=1)))/\aH KS w' mb (l++ [x.nm])/\Gr (· =mb) w w':=by
 have uU:=λW=>xU x W
 go_enter func155,ntmps155;exact zQ
theorem Cu(l:List bT)(A:Option EK)(c B:Nat)(w:Al)(h:dK w B A l)(hB:B<=w.heap.size)(hl:l.length<=100000)(hn:∀x∈l,x.nm.size<=EW):
 CU 78 #[.slice A l.length c,.func (.func 35) #[] #[]] w (.bool (eM (l.map (·.nm)))):=by
 obtain⟨w1,cN⟩:=ez (((w.alloc (.cells #[.func (.func 35) #[] #[]] 112)).alloc (.map #[] 0)).alloc (.cells #[.map (Ai (w.heap.size+1))] 209));have bY:BD w.heap.size w w1:=by rw[cN];exact((bN).alloc qz _).alloc qo _
 have ho:ah w1 w.heap.size 112 #[.func (.func 35) #[] #[]]:=by rw[cN];exact((ah.new w _ _).alloc _).alloc _
 have hc:aH KS w1 (w.heap.size+1) []:=by rw[cN];have:=aH.made (M:=KS) (w.alloc (.cells #[.func (.func 35) #[] #[]] 112));rw[Dj]at this;exact this.alloc _
 have hm:ah w1 (w.heap.size+1+1) 209 #[.map (Ai (w.heap.size+1))]:=by rw[cN];have:=ah.new ((w.alloc (.cells #[.func (.func 35) #[] #[]] 112)).alloc (.map #[] 0)) 209 #[.map (Ai (w.heap.size+1))];simp only[Dj]at this;exact this
 have hz:w1.heap.size=w.heap.size+3:=by rw[cN];simp
 have tu:∀k (hk:k<l.length),(λk=> !fP (((l.map (·.nm))[k]?).getD ⟨#[]⟩) ((l.map (·.nm)).take k)) k=decide ((dR l[k].nm ((l.map (·.nm)).take (k+1)):Int)=1):=λk hk=>by
  have h1:=nP (l.map (·.nm)) k (by simpa using hk);rw[GN]at h1;rw[h1];simp[EN hk]
 have au:=Kh 155 #[.pointer (Ai ⟨w.heap.size+1+1,0,Ag⟩),.pointer (Ai ⟨w.heap.size,0,Ag⟩)] (λk=> !fP (((l.map (·.nm))[k]?).getD ⟨#[]⟩) ((l.map (·.nm)).take k)) (λk W=>ah W (w.heap.size+1+1) 209 #[.map (Ai (w.heap.size+1))]/\ah W w.heap.size 112 #[.func (.func 35) #[] #[]]/\aH KS W (w.heap.size+1) ((l.map (·.nm)).take k)) (λk=>k=w.heap.size+1) B
  (Df func155 kz rfl) l A c w1 (λk hk W hJ _=>by
   refine(KN l[k] (w.heap.size+1+1) w.heap.size (w.heap.size+1) ((l.map (·.nm)).take k) W hJ.1 hJ.2.1 hJ.2.2 (by have:=Ie k (l.map (·.nm));simp at this ⊢;omega) (hn _ (CS hk))).mono ?_;rintro e W' ⟨rfl,h2,h3⟩;have ht:(l.map (·.nm)).take k++ [l[k].nm]=(l.map (·.nm)).take (k+1):=by
    rw[Dl (by simpa using hk),GN]
   rw[ht]at h2 ⊢;exact⟨by rw[tu k hk],⟨h3.blk hJ.1 oz,h3.blk hJ.2.1 oz,h2⟩,h3⟩)
  (λk W o hJ=>⟨hJ.1.alloc _,hJ.2.1.alloc _,hJ.2.2.alloc _⟩) ⟨hm,ho,hc⟩ (h.keep (bY.mono hB)) oz (λk e=>by subst e;omega) oz
 have hD:eM (l.map (·.nm))=(EO l.length).all (λk=> !fP (((l.map (·.nm))[k]?).getD ⟨#[]⟩) ((l.map (·.nm)).take k)):=by unfold eM;rw[FD]
 rw[<-hD]at au;have HC:=lz au;have lH:=lz cN;have cU:=lz bY;have hmk:= @run_makeMap pG;generalize eM (l.map (·.nm))=q at *;clear au hD cN bY tu hm ho hc hn h hz;go_enter func78,ntmps78;go_wp2_with fail;rw[<-lH.out];refine HC.out.mono ?_;rintro e w2 ⟨rfl,eG,-⟩;have HG:=lz eG;clear HC eG;go_wp2;go_ret;exact⟨rfl,⟨HG.out.os.trans cU.out.os,HG.out.tape.trans cU.out.tape,HG.out.output.trans cU.out.output,nT cU.out.size HG.out.size,λk hk=>(HG.out.block k (by have:=cU.out.size;omega) oz).trans (cU.out.block k hk)⟩⟩
abbrev iI.B(x:iI)(W:Al)(g:Nat):Prop:=ah W g 87 #[.string x.nm,.int .i64 x.net,.int .i64 x.dl,.int .i64 x.st]
def iI.S(x:iI)(Bm Bo g mb:Nat)(k:Nat)(W:Al):Prop:=W.cell? ⟨Bm,0,Ag⟩=Ai (.map (Ai mb))/\W.cell? ⟨Bo,0,Ag⟩=Ai (.func (.func 37) #[] #[])/\W.cell? ⟨g,0,Ag⟩=Ai (.string x.nm)/\W.cell? ⟨g,1,Ag⟩=Ai (.int .i64 x.net)/\W.cell? ⟨g,2,Ag⟩=Ai (.int .i64 x.dl)/\W.cell? ⟨g,3,Ag⟩=Ai (.int .i64 x.st)/\(E4 209 (.map (Ai mb)) (.string x.nm) Bj).run pG W= .ok (.int .i64 k) W
theorem iI.Ur(x:iI){Bm Bo g mb k:Nat}{W:Al}(h1:ah W Bm 209 #[.map (Ai mb)])(h2:ah W Bo 114 #[.func (.func 37) #[] #[]])(h3:x.B W g)(h4:(E4 209 (.map (Ai mb)) (.string x.nm) Bj).run pG W= .ok (.int .i64 k) W):x.S Bm Bo g mb k W:=⟨h1.cell 0,h2.cell 0,h3.cell 0,h3.cell 1,h3.cell 2,h3.cell 3,h4⟩
theorem KO(x:iI)(Bm Bo mb:Nat)(l:List ByteArray)(w:Al)(hm:ah w Bm 209 #[.map (Ai mb)])(ho:ah w Bo 114 #[.func (.func 37) #[] #[]])(hc:aH KS w mb l)(hl:l.length<1000000)(hx:x.nm.size<=EW):
 ET pG 156 #[x.val,.pointer (Ai ⟨Bm,0,Ag⟩),.pointer (Ai ⟨Bo,0,Ag⟩)] w λe w'=>e= .returned (.bool (decide ((dR x.nm (l++ [x.nm]):Int)=1)))/\aH KS w' mb (l++ [x.nm])/\Gr (· =mb) w w':=by
 have uU:=λW=>xV x W
 go_enter func156,ntmps156;exact zQ
theorem Cv(l:List iI)(A:Option EK)(c B:Nat)(w:Al)(h:dL w B A l)(hB:B<=w.heap.size)(hl:l.length<=100000)(hn:∀x∈l,x.nm.size<=EW):
 CU 79 #[.slice A l.length c,.func (.func 37) #[] #[]] w (.bool (eM (l.map (·.nm)))):=by
 obtain⟨w1,cN⟩:=ez (((w.alloc (.cells #[.func (.func 37) #[] #[]] 114)).alloc (.map #[] 0)).alloc (.cells #[.map (Ai (w.heap.size+1))] 209));have bY:BD w.heap.size w w1:=by rw[cN];exact((bN).alloc qz _).alloc qo _
 have ho:ah w1 w.heap.size 114 #[.func (.func 37) #[] #[]]:=by rw[cN];exact((ah.new w _ _).alloc _).alloc _
 have hc:aH KS w1 (w.heap.size+1) []:=by rw[cN];have:=aH.made (M:=KS) (w.alloc (.cells #[.func (.func 37) #[] #[]] 114));rw[Dj]at this;exact this.alloc _
 have hm:ah w1 (w.heap.size+1+1) 209 #[.map (Ai (w.heap.size+1))]:=by rw[cN];have:=ah.new ((w.alloc (.cells #[.func (.func 37) #[] #[]] 114)).alloc (.map #[] 0)) 209 #[.map (Ai (w.heap.size+1))];simp only[Dj]at this;exact this
 have hz:w1.heap.size=w.heap.size+3:=by rw[cN];simp
 have tu:∀k (hk:k<l.length),(λk=> !fP (((l.map (·.nm))[k]?).getD ⟨#[]⟩) ((l.map (·.nm)).take k)) k=decide ((dR l[k].nm ((l.map (·.nm)).take (k+1)):Int)=1):=λk hk=>by
  have h1:=nP (l.map (·.nm)) k (by simpa using hk);rw[GN]at h1;rw[h1];simp[EN hk]
 have au:=Ki 156 #[.pointer (Ai ⟨w.heap.size+1+1,0,Ag⟩),.pointer (Ai ⟨w.heap.size,0,Ag⟩)] (λk=> !fP (((l.map (·.nm))[k]?).getD ⟨#[]⟩) ((l.map (·.nm)).take k)) (λk W=>ah W (w.heap.size+1+1) 209 #[.map (Ai (w.heap.size+1))]/\ah W w.heap.size 114 #[.func (.func 37) #[] #[]]/\aH KS W (w.heap.size+1) ((l.map (·.nm)).take k)) (λk=>k=w.heap.size+1) B
  (Df func156 kz rfl) l A c w1 (λk hk W hJ _=>by
   refine(KO l[k] (w.heap.size+1+1) w.heap.size (w.heap.size+1) ((l.map (·.nm)).take k) W hJ.1 hJ.2.1 hJ.2.2 (by have:=Ie k (l.map (·.nm));simp at this ⊢;omega) (hn _ (CS hk))).mono ?_;rintro e W' ⟨rfl,h2,h3⟩;have ht:(l.map (·.nm)).take k++ [l[k].nm]=(l.map (·.nm)).take (k+1):=by
    rw[Dl (by simpa using hk),GN]
   rw[ht]at h2 ⊢;exact⟨by rw[tu k hk],⟨h3.blk hJ.1 oz,h3.blk hJ.2.1 oz,h2⟩,h3⟩)
  (λk W o hJ=>⟨hJ.1.alloc _,hJ.2.1.alloc _,hJ.2.2.alloc _⟩) ⟨hm,ho,hc⟩ (h.keep (bY.mono hB)) oz (λk e=>by subst e;omega) oz
 have hD:eM (l.map (·.nm))=(EO l.length).all (λk=> !fP (((l.map (·.nm))[k]?).getD ⟨#[]⟩) ((l.map (·.nm)).take k)):=by unfold eM;rw[FD]
 rw[<-hD]at au;have HC:=lz au;have lH:=lz cN;have cU:=lz bY;have hmk:= @run_makeMap pG;generalize eM (l.map (·.nm))=q at *;clear au hD cN bY tu hm ho hc hn h hz;go_enter func79,ntmps79;go_wp2_with fail;rw[<-lH.out];refine HC.out.mono ?_;rintro e w2 ⟨rfl,eG,-⟩;have HG:=lz eG;clear HC eG;go_wp2;go_ret;exact⟨rfl,⟨HG.out.os.trans cU.out.os,HG.out.tape.trans cU.out.tape,HG.out.output.trans cU.out.output,nT cU.out.size HG.out.size,λk hk=>(HG.out.block k (by have:=cU.out.size;omega) oz).trans (cU.out.block k hk)⟩⟩
abbrev aC.B(x:aC)(W:Al)(g:Nat):Prop:=ah W g 71 #[.string x.nm,.int .i64 x.pe,.int .i64 x.le,.int .i64 x.mem,.slice x.aG.a x.aG.l.length x.aG.c,.int .i64 x.ev,.int .i64 x.bo,.slice x.aX.a x.aX.l.length x.aX.c,.slice x.aq.a x.aq.l.length x.aq.c,.slice x.procs.a x.procs.l.length x.procs.c]
def aC.S(x:aC)(Bm Bo g mb:Nat)(k:Nat)(W:Al):Prop:=W.cell? ⟨Bm,0,Ag⟩=Ai (.map (Ai mb))/\W.cell? ⟨Bo,0,Ag⟩=Ai (.func (.func 72) #[] #[])/\W.cell? ⟨g,0,Ag⟩=Ai (.string x.nm)/\W.cell? ⟨g,1,Ag⟩=Ai (.int .i64 x.pe)/\W.cell? ⟨g,2,Ag⟩=Ai (.int .i64 x.le)/\W.cell? ⟨g,3,Ag⟩=Ai (.int .i64 x.mem)/\W.cell? ⟨g,4,Ag⟩=Ai (.slice x.aG.a x.aG.l.length x.aG.c)/\W.cell? ⟨g,5,Ag⟩=Ai (.int .i64 x.ev)/\W.cell? ⟨g,6,Ag⟩=Ai (.int .i64 x.bo)/\W.cell? ⟨g,7,Ag⟩=Ai (.slice x.aX.a x.aX.l.length x.aX.c)/\W.cell? ⟨g,8,Ag⟩=Ai (.slice x.aq.a x.aq.l.length x.aq.c)/\W.cell? ⟨g,9,Ag⟩=Ai (.slice x.procs.a x.procs.l.length x.procs.c)/\(E4 209 (.map (Ai mb)) (.string x.nm) Bj).run pG W= .ok (.int .i64 k) W
theorem aC.Ur(x:aC){Bm Bo g mb k:Nat}{W:Al}(h1:ah W Bm 209 #[.map (Ai mb)])(h2:ah W Bo 158 #[.func (.func 72) #[] #[]])(h3:x.B W g)(h4:(E4 209 (.map (Ai mb)) (.string x.nm) Bj).run pG W= .ok (.int .i64 k) W):x.S Bm Bo g mb k W:=⟨h1.cell 0,h2.cell 0,h3.cell 0,h3.cell 1,h3.cell 2,h3.cell 3,h3.cell 4,h3.cell 5,h3.cell 6,h3.cell 7,h3.cell 8,h3.cell 9,h4⟩
theorem Qs(x:aC)(Bm Bo mb:Nat)(l:List ByteArray)(w:Al)(hm:ah w Bm 209 #[.map (Ai mb)])(ho:ah w Bo 158 #[.func (.func 72) #[] #[]])(hc:aH KS w mb l)(hl:l.length<1000000)(hx:x.nm.size<=EW):
 ET pG 152 #[x.val,.pointer (Ai ⟨Bm,0,Ag⟩),.pointer (Ai ⟨Bo,0,Ag⟩)] w λe w'=>e= .returned (.bool (decide ((dR x.nm (l++ [x.nm]):Int)=1)))/\aH KS w' mb (l++ [x.nm])/\Gr (· =mb) w w':=by
 have uU:=λW=>D4 x W
 go_enter func152,ntmps152;exact zQ
theorem Gn(l:List aC)(A:Option EK)(c B:Nat)(w:Al)(h:fW w B A l)(hB:B<=w.heap.size)(hl:l.length<=100000)(hn:∀x∈l,x.nm.size<=EW):
 CU 71 #[.slice A l.length c,.func (.func 72) #[] #[]] w (.bool (eM (l.map (·.nm)))):=by
 obtain⟨w1,cN⟩:=ez (((w.alloc (.cells #[.func (.func 72) #[] #[]] 158)).alloc (.map #[] 0)).alloc (.cells #[.map (Ai (w.heap.size+1))] 209));have bY:BD w.heap.size w w1:=by rw[cN];exact((bN).alloc qz _).alloc qo _
 have ho:ah w1 w.heap.size 158 #[.func (.func 72) #[] #[]]:=by rw[cN];exact((ah.new w _ _).alloc _).alloc _
 have hc:aH KS w1 (w.heap.size+1) []:=by rw[cN];have:=aH.made (M:=KS) (w.alloc (.cells #[.func (.func 72) #[] #[]] 158));rw[Dj]at this;exact this.alloc _
 have hm:ah w1 (w.heap.size+1+1) 209 #[.map (Ai (w.heap.size+1))]:=by rw[cN];have:=ah.new ((w.alloc (.cells #[.func (.func 72) #[] #[]] 158)).alloc (.map #[] 0)) 209 #[.map (Ai (w.heap.size+1))];simp only[Dj]at this;exact this
 have hz:w1.heap.size=w.heap.size+3:=by rw[cN];simp
 have tu:∀k (hk:k<l.length),(λk=> !fP (((l.map (·.nm))[k]?).getD ⟨#[]⟩) ((l.map (·.nm)).take k)) k=decide ((dR l[k].nm ((l.map (·.nm)).take (k+1)):Int)=1):=λk hk=>by
  have h1:=nP (l.map (·.nm)) k (by simpa using hk);rw[GN]at h1;rw[h1];simp[EN hk]
 have au:=PU 152 #[.pointer (Ai ⟨w.heap.size+1+1,0,Ag⟩),.pointer (Ai ⟨w.heap.size,0,Ag⟩)] (λk=> !fP (((l.map (·.nm))[k]?).getD ⟨#[]⟩) ((l.map (·.nm)).take k)) (λk W=>ah W (w.heap.size+1+1) 209 #[.map (Ai (w.heap.size+1))]/\ah W w.heap.size 158 #[.func (.func 72) #[] #[]]/\aH KS W (w.heap.size+1) ((l.map (·.nm)).take k)) (λk=>k=w.heap.size+1) B
  (Df func152 kz rfl) l A c w1 (λk hk W hJ _=>by
   refine(Qs l[k] (w.heap.size+1+1) w.heap.size (w.heap.size+1) ((l.map (·.nm)).take k) W hJ.1 hJ.2.1 hJ.2.2 (by have:=Ie k (l.map (·.nm));simp at this ⊢;omega) (hn _ (CS hk))).mono ?_;rintro e W' ⟨rfl,h2,h3⟩;have ht:(l.map (·.nm)).take k++ [l[k].nm]=(l.map (·.nm)).take (k+1):=by
    rw[Dl (by simpa using hk),GN]
   rw[ht]at h2 ⊢;exact⟨by rw[tu k hk],⟨h3.blk hJ.1 oz,h3.blk hJ.2.1 oz,h2⟩,h3⟩)
  (λk W o hJ=>⟨hJ.1.alloc _,hJ.2.1.alloc _,hJ.2.2.alloc _⟩) ⟨hm,ho,hc⟩ (h.keep (bY.mono hB)) oz (λk e=>by subst e;omega) oz
 have hD:eM (l.map (·.nm))=(EO l.length).all (λk=> !fP (((l.map (·.nm))[k]?).getD ⟨#[]⟩) ((l.map (·.nm)).take k)):=by unfold eM;rw[FD]
 rw[<-hD]at au;have HC:=lz au;have lH:=lz cN;have cU:=lz bY;have hmk:= @run_makeMap pG;generalize eM (l.map (·.nm))=q at *;clear au hD cN bY tu hm ho hc hn h hz;go_enter func71,ntmps71;go_wp2_with fail;rw[<-lH.out];refine HC.out.mono ?_;rintro e w2 ⟨rfl,eG,-⟩;have HG:=lz eG;clear HC eG;go_wp2;go_ret;exact⟨rfl,⟨HG.out.os.trans cU.out.os,HG.out.tape.trans cU.out.tape,HG.out.output.trans cU.out.output,nT cU.out.size HG.out.size,λk hk=>(HG.out.block k (by have:=cU.out.size;omega) oz).trans (cU.out.block k hk)⟩⟩
abbrev aM.B(x:aM)(W:Al)(g:Nat):Prop:=ah W g 73 #[.string x.nm,.int .u8 x.kd,.bool x.out,.int .i64 x.sz,.int .i64 x.dp,.int .i64 x.rf]
def aM.S(x:aM)(Bm Bo g mb:Nat)(k:Nat)(W:Al):Prop:=W.cell? ⟨Bm,0,Ag⟩=Ai (.map (Ai mb))/\W.cell? ⟨Bo,0,Ag⟩=Ai (.func (.func 74) #[] #[])/\W.cell? ⟨g,0,Ag⟩=Ai (.string x.nm)/\W.cell? ⟨g,1,Ag⟩=Ai (.int .u8 x.kd)/\W.cell? ⟨g,2,Ag⟩=Ai (.bool x.out)/\W.cell? ⟨g,3,Ag⟩=Ai (.int .i64 x.sz)/\W.cell? ⟨g,4,Ag⟩=Ai (.int .i64 x.dp)/\W.cell? ⟨g,5,Ag⟩=Ai (.int .i64 x.rf)/\(E4 209 (.map (Ai mb)) (.string x.nm) Bj).run pG W= .ok (.int .i64 k) W
theorem aM.Ur(x:aM){Bm Bo g mb k:Nat}{W:Al}(h1:ah W Bm 209 #[.map (Ai mb)])(h2:ah W Bo 160 #[.func (.func 74) #[] #[]])(h3:x.B W g)(h4:(E4 209 (.map (Ai mb)) (.string x.nm) Bj).run pG W= .ok (.int .i64 k) W):x.S Bm Bo g mb k W:=⟨h1.cell 0,h2.cell 0,h3.cell 0,h3.cell 1,h3.cell 2,h3.cell 3,h3.cell 4,h3.cell 5,h4⟩
theorem Qt(x:aM)(Bm Bo mb:Nat)(l:List ByteArray)(w:Al)(hm:ah w Bm 209 #[.map (Ai mb)])(ho:ah w Bo 160 #[.func (.func 74) #[] #[]])(hc:aH KS w mb l)(hl:l.length<1000000)(hx:x.nm.size<=EW):
 ET pG 153 #[x.val,.pointer (Ai ⟨Bm,0,Ag⟩),.pointer (Ai ⟨Bo,0,Ag⟩)] w λe w'=>e= .returned (.bool (decide ((dR x.nm (l++ [x.nm]):Int)=1)))/\aH KS w' mb (l++ [x.nm])/\Gr (· =mb) w w':=by
 have uU:=λW=>D5 x W
 go_enter func153,ntmps153;exact zQ
theorem Gp(l:List aM)(A:Option EK)(c B:Nat)(w:Al)(h:fu w B A l)(hB:B<=w.heap.size)(hl:l.length<=100000)(hn:∀x∈l,x.nm.size<=EW):
 CU 73 #[.slice A l.length c,.func (.func 74) #[] #[]] w (.bool (eM (l.map (·.nm)))):=by
 obtain⟨w1,cN⟩:=ez (((w.alloc (.cells #[.func (.func 74) #[] #[]] 160)).alloc (.map #[] 0)).alloc (.cells #[.map (Ai (w.heap.size+1))] 209));have bY:BD w.heap.size w w1:=by rw[cN];exact((bN).alloc qz _).alloc qo _
 have ho:ah w1 w.heap.size 160 #[.func (.func 74) #[] #[]]:=by rw[cN];exact((ah.new w _ _).alloc _).alloc _
 have hc:aH KS w1 (w.heap.size+1) []:=by rw[cN];have:=aH.made (M:=KS) (w.alloc (.cells #[.func (.func 74) #[] #[]] 160));rw[Dj]at this;exact this.alloc _
 have hm:ah w1 (w.heap.size+1+1) 209 #[.map (Ai (w.heap.size+1))]:=by rw[cN];have:=ah.new ((w.alloc (.cells #[.func (.func 74) #[] #[]] 160)).alloc (.map #[] 0)) 209 #[.map (Ai (w.heap.size+1))];simp only[Dj]at this;exact this
 have hz:w1.heap.size=w.heap.size+3:=by rw[cN];simp
 have tu:∀k (hk:k<l.length),(λk=> !fP (((l.map (·.nm))[k]?).getD ⟨#[]⟩) ((l.map (·.nm)).take k)) k=decide ((dR l[k].nm ((l.map (·.nm)).take (k+1)):Int)=1):=λk hk=>by
  have h1:=nP (l.map (·.nm)) k (by simpa using hk);rw[GN]at h1;rw[h1];simp[EN hk]
 have au:=PV 153 #[.pointer (Ai ⟨w.heap.size+1+1,0,Ag⟩),.pointer (Ai ⟨w.heap.size,0,Ag⟩)] (λk=> !fP (((l.map (·.nm))[k]?).getD ⟨#[]⟩) ((l.map (·.nm)).take k)) (λk W=>ah W (w.heap.size+1+1) 209 #[.map (Ai (w.heap.size+1))]/\ah W w.heap.size 160 #[.func (.func 74) #[] #[]]/\aH KS W (w.heap.size+1) ((l.map (·.nm)).take k)) (λk=>k=w.heap.size+1) B
  (Df func153 kz rfl) l A c w1 (λk hk W hJ _=>by
   refine(Qt l[k] (w.heap.size+1+1) w.heap.size (w.heap.size+1) ((l.map (·.nm)).take k) W hJ.1 hJ.2.1 hJ.2.2 (by have:=Ie k (l.map (·.nm));simp at this ⊢;omega) (hn _ (CS hk))).mono ?_;rintro e W' ⟨rfl,h2,h3⟩;have ht:(l.map (·.nm)).take k++ [l[k].nm]=(l.map (·.nm)).take (k+1):=by
    rw[Dl (by simpa using hk),GN]
   rw[ht]at h2 ⊢;exact⟨by rw[tu k hk],⟨h3.blk hJ.1 oz,h3.blk hJ.2.1 oz,h2⟩,h3⟩)
  (λk W o hJ=>⟨hJ.1.alloc _,hJ.2.1.alloc _,hJ.2.2.alloc _⟩) ⟨hm,ho,hc⟩ (h.keep (bY.mono hB)) oz (λk e=>by subst e;omega) oz
 have hD:eM (l.map (·.nm))=(EO l.length).all (λk=> !fP (((l.map (·.nm))[k]?).getD ⟨#[]⟩) ((l.map (·.nm)).take k)):=by unfold eM;rw[FD]
 rw[<-hD]at au;have HC:=lz au;have lH:=lz cN;have cU:=lz bY;have hmk:= @run_makeMap pG;generalize eM (l.map (·.nm))=q at *;clear au hD cN bY tu hm ho hc hn h hz;go_enter func73,ntmps73;go_wp2_with fail;rw[<-lH.out];refine HC.out.mono ?_;rintro e w2 ⟨rfl,eG,-⟩;have HG:=lz eG;clear HC eG;go_wp2;go_ret;exact⟨rfl,⟨HG.out.os.trans cU.out.os,HG.out.tape.trans cU.out.tape,HG.out.output.trans cU.out.output,nT cU.out.size HG.out.size,λk hk=>(HG.out.block k (by have:=cU.out.size;omega) oz).trans (cU.out.block k hk)⟩⟩
abbrev cT.B(x:cT)(W:Al)(g:Nat):Prop:=ah W g 76 #[.string x.nm,.int .i64 x.pr,.int .i64 x.pe,.int .i64 x.li,.slice x.code.a x.code.l.length x.code.c]
def cT.S(x:cT)(Bm Bo g mb:Nat)(k:Nat)(W:Al):Prop:=W.cell? ⟨Bm,0,Ag⟩=Ai (.map (Ai mb))/\W.cell? ⟨Bo,0,Ag⟩=Ai (.func (.func 76) #[] #[])/\W.cell? ⟨g,0,Ag⟩=Ai (.string x.nm)/\W.cell? ⟨g,1,Ag⟩=Ai (.int .i64 x.pr)/\W.cell? ⟨g,2,Ag⟩=Ai (.int .i64 x.pe)/\W.cell? ⟨g,3,Ag⟩=Ai (.int .i64 x.li)/\W.cell? ⟨g,4,Ag⟩=Ai (.slice x.code.a x.code.l.length x.code.c)/\(E4 209 (.map (Ai mb)) (.string x.nm) Bj).run pG W= .ok (.int .i64 k) W
theorem cT.Ur(x:cT){Bm Bo g mb k:Nat}{W:Al}(h1:ah W Bm 209 #[.map (Ai mb)])(h2:ah W Bo 162 #[.func (.func 76) #[] #[]])(h3:x.B W g)(h4:(E4 209 (.map (Ai mb)) (.string x.nm) Bj).run pG W= .ok (.int .i64 k) W):x.S Bm Bo g mb k W:=⟨h1.cell 0,h2.cell 0,h3.cell 0,h3.cell 1,h3.cell 2,h3.cell 3,h3.cell 4,h4⟩
theorem Qu(x:cT)(Bm Bo mb:Nat)(l:List ByteArray)(w:Al)(hm:ah w Bm 209 #[.map (Ai mb)])(ho:ah w Bo 162 #[.func (.func 76) #[] #[]])(hc:aH KS w mb l)(hl:l.length<1000000)(hx:x.nm.size<=EW):
 ET pG 154 #[x.val,.pointer (Ai ⟨Bm,0,Ag⟩),.pointer (Ai ⟨Bo,0,Ag⟩)] w λe w'=>e= .returned (.bool (decide ((dR x.nm (l++ [x.nm]):Int)=1)))/\aH KS w' mb (l++ [x.nm])/\Gr (· =mb) w w':=by
 have uU:=λW=>P9 x W
 go_enter func154,ntmps154;exact zQ
theorem Gq(l:List cT)(A:Option EK)(c B:Nat)(w:Al)(h:gI w B A l)(hB:B<=w.heap.size)(hl:l.length<=100000)(hn:∀x∈l,x.nm.size<=EW):
 CU 75 #[.slice A l.length c,.func (.func 76) #[] #[]] w (.bool (eM (l.map (·.nm)))):=by
 obtain⟨w1,cN⟩:=ez (((w.alloc (.cells #[.func (.func 76) #[] #[]] 162)).alloc (.map #[] 0)).alloc (.cells #[.map (Ai (w.heap.size+1))] 209));have bY:BD w.heap.size w w1:=by rw[cN];exact((bN).alloc qz _).alloc qo _
 have ho:ah w1 w.heap.size 162 #[.func (.func 76) #[] #[]]:=by rw[cN];exact((ah.new w _ _).alloc _).alloc _
 have hc:aH KS w1 (w.heap.size+1) []:=by rw[cN];have:=aH.made (M:=KS) (w.alloc (.cells #[.func (.func 76) #[] #[]] 162));rw[Dj]at this;exact this.alloc _
 have hm:ah w1 (w.heap.size+1+1) 209 #[.map (Ai (w.heap.size+1))]:=by rw[cN];have:=ah.new ((w.alloc (.cells #[.func (.func 76) #[] #[]] 162)).alloc (.map #[] 0)) 209 #[.map (Ai (w.heap.size+1))];simp only[Dj]at this;exact this
 have hz:w1.heap.size=w.heap.size+3:=by rw[cN];simp
 have tu:∀k (hk:k<l.length),(λk=> !fP (((l.map (·.nm))[k]?).getD ⟨#[]⟩) ((l.map (·.nm)).take k)) k=decide ((dR l[k].nm ((l.map (·.nm)).take (k+1)):Int)=1):=λk hk=>by
  have h1:=nP (l.map (·.nm)) k (by simpa using hk);rw[GN]at h1;rw[h1];simp[EN hk]
 have au:=PW 154 #[.pointer (Ai ⟨w.heap.size+1+1,0,Ag⟩),.pointer (Ai ⟨w.heap.size,0,Ag⟩)] (λk=> !fP (((l.map (·.nm))[k]?).getD ⟨#[]⟩) ((l.map (·.nm)).take k)) (λk W=>ah W (w.heap.size+1+1) 209 #[.map (Ai (w.heap.size+1))]/\ah W w.heap.size 162 #[.func (.func 76) #[] #[]]/\aH KS W (w.heap.size+1) ((l.map (·.nm)).take k)) (λk=>k=w.heap.size+1) B
  (Df func154 kz rfl) l A c w1 (λk hk W hJ _=>by
   refine(Qu l[k] (w.heap.size+1+1) w.heap.size (w.heap.size+1) ((l.map (·.nm)).take k) W hJ.1 hJ.2.1 hJ.2.2 (by have:=Ie k (l.map (·.nm));simp at this ⊢;omega) (hn _ (CS hk))).mono ?_;rintro e W' ⟨rfl,h2,h3⟩;have ht:(l.map (·.nm)).take k++ [l[k].nm]=(l.map (·.nm)).take (k+1):=by
    rw[Dl (by simpa using hk),GN]
   rw[ht]at h2 ⊢;exact⟨by rw[tu k hk],⟨h3.blk hJ.1 oz,h3.blk hJ.2.1 oz,h2⟩,h3⟩)
  (λk W o hJ=>⟨hJ.1.alloc _,hJ.2.1.alloc _,hJ.2.2.alloc _⟩) ⟨hm,ho,hc⟩ (h.keep (bY.mono hB)) oz (λk e=>by subst e;omega) oz
 have hD:eM (l.map (·.nm))=(EO l.length).all (λk=> !fP (((l.map (·.nm))[k]?).getD ⟨#[]⟩) ((l.map (·.nm)).take k)):=by unfold eM;rw[FD]
 rw[<-hD]at au;have HC:=lz au;have lH:=lz cN;have cU:=lz bY;have hmk:= @run_makeMap pG;generalize eM (l.map (·.nm))=q at *;clear au hD cN bY tu hm ho hc hn h hz;go_enter func75,ntmps75;go_wp2_with fail;rw[<-lH.out];refine HC.out.mono ?_;rintro e w2 ⟨rfl,eG,-⟩;have HG:=lz eG;clear HC eG;go_wp2;go_ret;exact⟨rfl,⟨HG.out.os.trans cU.out.os,HG.out.tape.trans cU.out.tape,HG.out.output.trans cU.out.output,nT cU.out.size HG.out.size,λk hk=>(HG.out.block k (by have:=cU.out.size;omega) oz).trans (cU.out.block k hk)⟩⟩
abbrev fU.B(x:fU)(W:Al)(g:Nat):Prop:=ah W g 44 #[.string x.nm,.string x.src.m,.string x.src.p,.string x.src.o,.int .i64 x.lQ,.int .i64 x.mx,.slice x.dst.a x.dst.l.length x.dst.c]
def fU.S(x:fU)(Bm Bo g mb:Nat)(k:Nat)(W:Al):Prop:=W.cell? ⟨Bm,0,Ag⟩=Ai (.map (Ai mb))/\W.cell? ⟨Bo,0,Ag⟩=Ai (.func (.func 81) #[] #[])/\W.cell? ⟨g,0,Ag⟩=Ai (.string x.nm)/\W.cell? ⟨g,1,Ag⟩=Ai (.string x.src.m)/\W.cell? ⟨g,2,Ag⟩=Ai (.string x.src.p)/\W.cell? ⟨g,3,Ag⟩=Ai (.string x.src.o)/\W.cell? ⟨g,4,Ag⟩=Ai (.int .i64 x.lQ)/\W.cell? ⟨g,5,Ag⟩=Ai (.int .i64 x.mx)/\W.cell? ⟨g,6,Ag⟩=Ai (.slice x.dst.a x.dst.l.length x.dst.c)/\(E4 209 (.map (Ai mb)) (.string x.nm) Bj).run pG W= .ok (.int .i64 k) W
theorem fU.Ur(x:fU){Bm Bo g mb k:Nat}{W:Al}(h1:ah W Bm 209 #[.map (Ai mb)])(h2:ah W Bo 166 #[.func (.func 81) #[] #[]])(h3:x.B W g)(h4:(E4 209 (.map (Ai mb)) (.string x.nm) Bj).run pG W= .ok (.int .i64 k) W):x.S Bm Bo g mb k W:=⟨h1.cell 0,h2.cell 0,h3.cell 0,h3.cell 1,h3.cell 2,h3.cell 3,h3.cell 4,h3.cell 5,h3.cell 6,h4⟩
theorem Xx(x:fU)(Bm Bo mb:Nat)(l:List ByteArray)(w:Al)(hm:ah w Bm 209 #[.map (Ai mb)])(ho:ah w Bo 166 #[.func (.func 81) #[] #[]])(hc:aH KS w mb l)(hl:l.length<1000000)(hx:x.nm.size<=EW):
 ET pG 157 #[x.val,.pointer (Ai ⟨Bm,0,Ag⟩),.pointer (Ai ⟨Bo,0,Ag⟩)] w λe w'=>e= .returned (.bool (decide ((dR x.nm (l++ [x.nm]):Int)=1)))/\aH KS w' mb (l++ [x.nm])/\Gr (· =mb) w w':=by
 have uU:=λW=>WG x W
 go_enter func157,ntmps157;exact zQ
theorem NG(l:List fU)(A:Option EK)(c B:Nat)(w:Al)(h:mV w B A l)(hB:B<=w.heap.size)(hl:l.length<=100000)(hn:∀x∈l,x.nm.size<=EW):
 CU 80 #[.slice A l.length c,.func (.func 81) #[] #[]] w (.bool (eM (l.map (·.nm)))):=by
 obtain⟨w1,cN⟩:=ez (((w.alloc (.cells #[.func (.func 81) #[] #[]] 166)).alloc (.map #[] 0)).alloc (.cells #[.map (Ai (w.heap.size+1))] 209));have bY:BD w.heap.size w w1:=by rw[cN];exact((bN).alloc qz _).alloc qo _
 have ho:ah w1 w.heap.size 166 #[.func (.func 81) #[] #[]]:=by rw[cN];exact((ah.new w _ _).alloc _).alloc _
 have hc:aH KS w1 (w.heap.size+1) []:=by rw[cN];have:=aH.made (M:=KS) (w.alloc (.cells #[.func (.func 81) #[] #[]] 166));rw[Dj]at this;exact this.alloc _
 have hm:ah w1 (w.heap.size+1+1) 209 #[.map (Ai (w.heap.size+1))]:=by rw[cN];have:=ah.new ((w.alloc (.cells #[.func (.func 81) #[] #[]] 166)).alloc (.map #[] 0)) 209 #[.map (Ai (w.heap.size+1))];simp only[Dj]at this;exact this
 have hz:w1.heap.size=w.heap.size+3:=by rw[cN];simp
 have tu:∀k (hk:k<l.length),(λk=> !fP (((l.map (·.nm))[k]?).getD ⟨#[]⟩) ((l.map (·.nm)).take k)) k=decide ((dR l[k].nm ((l.map (·.nm)).take (k+1)):Int)=1):=λk hk=>by
  have h1:=nP (l.map (·.nm)) k (by simpa using hk);rw[GN]at h1;rw[h1];simp[EN hk]
 have au:=Wo 157 #[.pointer (Ai ⟨w.heap.size+1+1,0,Ag⟩),.pointer (Ai ⟨w.heap.size,0,Ag⟩)] (λk=> !fP (((l.map (·.nm))[k]?).getD ⟨#[]⟩) ((l.map (·.nm)).take k)) (λk W=>ah W (w.heap.size+1+1) 209 #[.map (Ai (w.heap.size+1))]/\ah W w.heap.size 166 #[.func (.func 81) #[] #[]]/\aH KS W (w.heap.size+1) ((l.map (·.nm)).take k)) (λk=>k=w.heap.size+1) B
  (Df func157 kz rfl) l A c w1 (λk hk W hJ _=>by
   refine(Xx l[k] (w.heap.size+1+1) w.heap.size (w.heap.size+1) ((l.map (·.nm)).take k) W hJ.1 hJ.2.1 hJ.2.2 (by have:=Ie k (l.map (·.nm));simp at this ⊢;omega) (hn _ (CS hk))).mono ?_;rintro e W' ⟨rfl,h2,h3⟩;have ht:(l.map (·.nm)).take k++ [l[k].nm]=(l.map (·.nm)).take (k+1):=by
    rw[Dl (by simpa using hk),GN]
   rw[ht]at h2 ⊢;exact⟨by rw[tu k hk],⟨h3.blk hJ.1 oz,h3.blk hJ.2.1 oz,h2⟩,h3⟩)
  (λk W o hJ=>⟨hJ.1.alloc _,hJ.2.1.alloc _,hJ.2.2.alloc _⟩) ⟨hm,ho,hc⟩ (h.keep (bY.mono hB)) oz (λk e=>by subst e;omega) oz
 have hD:eM (l.map (·.nm))=(EO l.length).all (λk=> !fP (((l.map (·.nm))[k]?).getD ⟨#[]⟩) ((l.map (·.nm)).take k)):=by unfold eM;rw[FD]
 rw[<-hD]at au;have HC:=lz au;have lH:=lz cN;have cU:=lz bY;have hmk:= @run_makeMap pG;generalize eM (l.map (·.nm))=q at *;clear au hD cN bY tu hm ho hc hn h hz;go_enter func80,ntmps80;go_wp2_with fail;rw[<-lH.out];refine HC.out.mono ?_;rintro e w2 ⟨rfl,eG,-⟩;have HG:=lz eG;clear HC eG;go_wp2;go_ret;exact⟨rfl,⟨HG.out.os.trans cU.out.os,HG.out.tape.trans cU.out.tape,HG.out.output.trans cU.out.output,nT cU.out.size HG.out.size,λk hk=>(HG.out.block k (by have:=cU.out.size;omega) oz).trans (cU.out.block k hk)⟩⟩
structure aI6(x:ay):Prop where
 m:∀m∈x.mods.l,m.nm.size<=EW/\m.parts.l.length<=100000
 p:∀y∈fE x,y.2.nm.size<=EW/\y.2.aq.l.length<=100000/\y.2.procs.l.length<=100000/\(∀q∈y.2.aq.l,q.nm.size<=EW)/\∀q∈y.2.procs.l,q.nm.size<=EW
 s:∀s∈x.aP.l,s.nm.size<=EW
 v:∀s∈x.aF.l,s.nm.size<=EW
 ml:x.mods.l.length<=100000
 sl:x.aP.l.length<=100000
 vl:x.aF.l.length<=100000
theorem tY{x:ay}{m:bT}{p:aC}(h:(m,p)∈fE x):m∈x.mods.l/\p∈m.parts.l:=by
 unfold fE at h;obtain⟨m',hm,hy⟩:=E6.1 h;obtain⟨p',hp,e⟩:=GR.1 hy;injection e with e1 e2
 subst e1 e2;exact⟨hm,hp⟩
theorem Jc{x:ay}{m:bT}{p:aC}(hm:m∈x.mods.l)(hp:p∈m.parts.l):(m,p)∈fE x:=
 E6.2 ⟨m,hm,GR.2 ⟨p,hp,rfl⟩⟩
def qH(x:ay)(y:bT):Bool:=decide (cV (λs:iI=>seqB s.nm y.nm) x.aP.l<0)
def nmB(y:WM):Bool:=eM (y.1.parts.l.map (·.nm))&&(eM (y.2.aq.l.map (·.nm))&&eM (y.2.procs.l.map (·.nm)))
def zR(x:ay):Bool:=(fE x).all nmB&&(eM (x.mods.l.map (·.nm))&&eM (x.aP.l.map (·.nm))&&x.mods.l.all (qH x)&&eM (x.aF.l.map (·.nm)))
theorem aBl(x:ay)(y:bT)(g Bc:Nat)(w:Al)(hb:ah w Bc 92 #[.pointer (Ai ⟨g,0,Ag⟩)])(h:tU w g x)(hr:x.rd w w.heap.size)(Qc:x.aP.l.length<=100000):
 CU 77 #[y.val,.pointer (Ai ⟨Bc,0,Ag⟩)] w (.bool (qH x y)):=by
 obtain⟨y0,bR⟩:=ez (w.alloc (.cells #[.string y.nm,.int .i64 y.mem,.int .i64 y.fr,.slice y.parts.a y.parts.l.length y.parts.c] 67));have bW:BD w.heap.size w y0:=by rw[bR];exact bN
 have bS:ah y0 w.heap.size 67 #[.string y.nm,.int .i64 y.mem,.int .i64 y.fr,.slice y.parts.a y.parts.l.length y.parts.c]:=by rw[bR];exact ah.new w _ _
 have hg0:=h.below bW;have yh:=hb.below bW hb.lt;have d0:=bS.cell 0;have c0:=yh.cell 0;have k2:=hg0.cell 2;have hl0:=bS.lt;have DL:=yh.lt;have Cb:=ah.lt hg0;have iR:=bn y0;have jy:=hr.below bW;have au:∀z:Ext y0,CU 36 #[.slice x.aP.a x.aP.l.length x.aP.c,.func (.func 37) #[] #[],.string y.nm] z.w (.int .i64 (cV (λs:iI=>seqB s.nm y.nm) x.aP.l)):=λz=>
  xW y.nm x.aP.l x.aP.a x.aP.c z.w (jy.aP.below z.h) oz
 obtain⟨n,hn⟩:=ez (cV (λs:iI=>seqB s.nm y.nm) x.aP.l);rw[<-hn]at au;have HN:=lz (show qH x y=decide (n<0)by rw[hn];rfl);have aN:=lz au;have aV:=lz bW;have dV:=lz bR;clear au bW bR bS yh hg0 jy hr h hb hn;go_enter func77,ntmps77;go_wp2_with fail;rw[<-dV.out];refine aB kz kz ?_;repeat (go_big_quiet_step ((go_at_call 36;with_reducible exact dN (aN.out _))))
 refine E5 ?_;intro _ hw';obtain⟨xx,hw''⟩:=hw';subst hw'';have eF:=lz (aV.out.trans (xx.h.mono aV.out.size));clear iR aN d0 c0 k2;generalize xx.w=w2 at *;go_wp2;go_ret;exact⟨by rw[HN.out]<;>rfl,eF.out⟩
theorem aBm(x:ay)(g:Nat)(w:Al)(h:tU w g x)(hr:x.rd w w.heap.size)(hn:aI6 x):CU 24 #[.pointer (Ai ⟨g,0,Ag⟩)] w (.bool (zR x)):=by
 obtain⟨w1,cN⟩:=ez ((((w.alloc (.cells #[.pointer (Ai ⟨g,0,Ag⟩)] 92)).alloc (.cells #[.bool Bj] 4)).alloc (.cells #[.pointer (Ai ⟨g,0,Ag⟩)] 92)));have aU:BD w.heap.size w w1:=by rw[cN];exact((bN).alloc qz _).alloc qo _
 have yh:ah w1 w.heap.size 92 #[.pointer (Ai ⟨g,0,Ag⟩)]:=by rw[cN];exact((ah.new w _ _).alloc _).alloc _
 have jy:ah w1 (w.heap.size+1) 4 #[.bool Bj]:=by rw[cN];have:=ah.new (w.alloc (.cells #[.pointer (Ai ⟨g,0,Ag⟩)] 92)) 4 #[.bool Bj];rw[Dj]at this;exact this.alloc _
 have gP:ah w1 (w.heap.size+1+1) 92 #[.pointer (Ai ⟨g,0,Ag⟩)]:=by rw[cN];have:=ah.new ((w.alloc (.cells #[.pointer (Ai ⟨g,0,Ag⟩)] 92)).alloc (.cells #[.bool Bj] 4)) 92 #[.pointer (Ai ⟨g,0,Ag⟩)];simp only[Dj]at this;exact this
 have hz:w1.heap.size=w.heap.size+3:=by rw[cN];simp
 have gH:D6 w1 g (w.heap.size+1+1) w.heap.size x:=⟨gP,h.below aU,hr.dn nL (cZ aU),oz⟩;have IK:x.mods.l.length<=9223372036854775807:=nT hr.AU (nT hr.AV dz);have um:=lz (CQ x g (w.heap.size+1+1) w.heap.size (λ_=>False) w1 (λ_ h=>h.elim) (λ_ h=>h.elim) gH IK);have wu:=ah.lt h;have Mk:=lz gH;have lH:=lz cN;have gh:=lz aU;have Hbc:=lz yh;have rT:=lz jy;have Hz:=lz hz;have Hn:=lz hn;have c00:((w.alloc (.cells #[.pointer (Ai ⟨g,0,Ag⟩)] 92)).alloc (.cells #[.bool Bj] 4)).cell? ⟨w.heap.size,0,Ag⟩=Ai (.pointer (Ai ⟨g,0,Ag⟩)):=((ah.new w 92 #[.pointer (Ai ⟨g,0,Ag⟩)]).alloc _).cell 0;clear h hr cN aU jy gP hz gH hn yh;refine(callsIn_wide (n:=9)).1 ?_;refine callsIn_of_wp_marks func24 rfl trivial ?_ rfl;simp only[ntmps24,List.size_toArray,Ia,List.length_nil,Nat.reduceAdd,Nat.reduceSub,Array.replicate_succ,Array.replicate_zero,List.push_toArray,List.append_toArray,GY,GQ];refine wpIn_wide.2 ?_;go_wp2_with (go_at_call 70;refine(CX _ _).mono ?_;rintro e w' ⟨rfl,hw'⟩);rw[<-lH.out];clear hw' c00;refine(wpIn_wide (n:=9)).1 ?_;have hz1:w.heap.size+3<=w1.heap.size:=Nat.le_of_eq Hz.out.symm;have Xm:w1.heap.size<=w.heap.size+3:=Nat.le_of_eq Hz.out;refine tQ (gf:=151) (lb:= #[.pointer (Ai ⟨w.heap.size+1+1,0,Ag⟩)]) (encs:=II) (xs:=fE x) (X:=λ_=>False) (XE:=λk=>k=w.heap.size+1) rfl (Df func151 kz rfl) (λ_=>rfl) (λ_ h=>h.elim) (λk e=>by omega) um.out
  (λT W=>BD w1.heap.size w1 W/\qG nmB T BR)
  (λT W=>ah W (w.heap.size+1) 4 #[.bool Bj]/\BD w.heap.size w W/\qG nmB T Bj) ?hI ?RU ?TG
  (λy a' W=>∃Bm Bp,w1.heap.size<=Bm/\w1.heap.size<=Bp/\ah W Bm 67 #[.string y.1.nm,.int .i64 y.1.mem,.int .i64 y.1.fr,.slice y.1.parts.a y.1.parts.l.length y.1.parts.c]/\ah W Bp 71 #[.string y.2.nm,.int .i64 y.2.pe,.int .i64 y.2.le,.int .i64 y.2.mem,.slice y.2.aG.a y.2.aG.l.length y.2.aG.c,.int .i64 y.2.ev,.int .i64 y.2.bo,.slice y.2.aX.a y.2.aX.l.length y.2.aX.c,.slice y.2.aq.a y.2.aq.l.length y.2.aq.c,.slice y.2.procs.a y.2.procs.l.length y.2.procs.c]/\a'={tmps:= #[.pointer (Ai ⟨g,0,Ag⟩),.pointer (Ai ⟨w.heap.size,0,Ag⟩),.pointer (Ai ⟨w.heap.size+1,0,Ag⟩),.pointer (Ai ⟨Bm,0,Ag⟩),.pointer (Ai ⟨Bp,0,Ag⟩),BA,.pointer (Ai ⟨g,0,Ag⟩),.func (.func 151) #[] #[.pointer (Ai ⟨w.heap.size+1+1,0,Ag⟩)],y.1.val,y.2.val,BA,BA,BA,BA,BA,BA,BA,BA,BA,BA,BA,BA,BA,BA,BA,BA,BA,BA,BA,BA,BA,BA,BA,BA,BA,BA,BA,BA,BA,BA,BA,BA,BA,BA,BA,BA,BA,BA,BA,BA,BA,BA,BA,BA,BA,BA,BA,BA],defers:= []}) ?Kf ?assign ?body ?done ?ret
 case hI=>exact λT W W' h hb=>⟨h.1.trans hb,h.2⟩
 case RU=>exact λT W W' h hb=>⟨ah.below h.1 hb oz,h.2.1.trans (hb.mono oz),h.2.2⟩
 case TG=>exact⟨BK _ _,rfl⟩
 case Kf=>
  rintro y l a' W o o' hl ho hc ⟨Bm,Bp,h1,h2,h3,h4,h5⟩;exact⟨Bm,Bp,h1,h2,mW h3 ho hc,mW h4 ho hc,h5⟩
 case assign=>
  rintro l T ⟨m,p⟩ W K hT hsz hK;gi_wp2;refine hK _ _ ((bN).alloc qz _) ⟨W.heap.size,W.heap.size+1,?_,?_,(ah.new W _ _).alloc _,?_,rfl⟩
  .omega
  .omega
  .have:=ah.new (W.alloc (.cells #[.string m.nm,.int .i64 m.mem,.int .i64 m.fr,.slice m.parts.a m.parts.l.length m.parts.c] 67)) 71 #[.string p.nm,.int .i64 p.pe,.int .i64 p.le,.int .i64 p.mem,.slice p.aG.a p.aG.l.length p.aG.c,.int .i64 p.ev,.int .i64 p.bo,.slice p.aX.a p.aX.l.length p.aX.c,.slice p.aq.a p.aq.l.length p.aq.c,.slice p.procs.a p.procs.l.length p.procs.c]
   rwa[Dj]at this
 case body=>
  rintro l T ⟨m,p⟩ a' W hT hsz hG ⟨wV,aJ⟩ ⟨Bm,Bp,h1,h2,CY,kg,rfl⟩;dsimp only at CY kg;have iU:=CW hT;have Vy:=Hn.out.p _ iU;have uU:=Hn.out.m _ (tY iU).1;have aI8:∀q∈m.parts.l,q.nm.size<=maxLen:=λq hq=>(Hn.out.p _ (Jc (tY iU).1 hq)).1
  have aBn:=Mk.out.gr (X:=λ_=>False) (λ_ h=>h.elim) hG;have fK:=KH aBn.r iU;have hrm:m.rd W W.heap.size:=fK.1.more aBn.B;have hrp:p.rd W W.heap.size:=fK.2.more aBn.B;have iY:=rT.out.below wV oz;have r0:=iY.cell 0;have f0:=iY.frozen 0;have m3:=CY.cell 3;have hlm:=CY.lt;have Vx:=kg.lt;have hc1:=Gn m.parts.l m.parts.a m.parts.c W.heap.size W hrm.parts nL (by have:=uU.2;omega) aI8;have qc:=λW2 (Sn:BD W.heap.size W W2)=>Gp p.aq.l p.aq.a p.aq.c W2.heap.size W2 (hrp.below Sn).aq nL Vy.2.1 Vy.2.2.2.1
  have hc3:=λW2 (Sn:BD W.heap.size W W2)=>Gq p.procs.l p.procs.a p.procs.c W2.heap.size W2 (hrp.below Sn).procs nL Vy.2.2.1 Vy.2.2.2.2
  have KQ:∀W2,BD W.heap.size W W2->W2.cell? ⟨Bp,8,Ag⟩=Ai (.slice p.aq.a p.aq.l.length p.aq.c)/\W2.cell? ⟨Bp,9,Ag⟩=Ai (.slice p.procs.a p.procs.l.length p.procs.c):=λW2 Sn=>⟨(kg.below Sn kg.lt).cell 8,(kg.below Sn kg.lt).cell 9⟩
  have Qm:∀b,nmB (m,p)=b->qG nmB (T++ [(m,p)]) b:=λb hb=>by unfold qG at *;rw[yd,aJ,hb];rfl
  have Pa:nmB (m,p)=(eM (m.parts.l.map (·.nm))&&(eM (p.aq.l.map (·.nm))&&eM (p.procs.l.map (·.nm)))):=rfl;obtain⟨q1,MI⟩:∃q,q=eM (m.parts.l.map (·.nm)):=⟨_,rfl⟩;obtain⟨q2,lS⟩:∃q,q=eM (p.aq.l.map (·.nm)):=⟨_,rfl⟩;obtain⟨q3,Pc⟩:∃q,q=eM (p.procs.l.map (·.nm)):=⟨_,rfl⟩;rw[<-MI]at hc1 Pa;rw[<-lS]at Pa;rw[<-Pc]at Pa;simp only[<-lS]at qc;simp only[<-Pc]at hc3;have yg:∀W2,BD W.heap.size W W2->nmB (m,p)=Bj->(Gr (λk=>k=w.heap.size+1) W (W2.setCell ⟨w.heap.size+1,0,Ag⟩ (.bool Bj))/\ah (W2.setCell ⟨w.heap.size+1,0,Ag⟩ (.bool Bj)) (w.heap.size+1) 4 #[.bool Bj]/\BD w.heap.size w (W2.setCell ⟨w.heap.size+1,0,Ag⟩ (.bool Bj))/\qG nmB (T++ [(m,p)]) Bj)/\W2.cell? ⟨w.heap.size+1,0,Ag⟩=Ai (.bool Bj)/\W2.frozen? ⟨w.heap.size+1,0,Ag⟩=false:=λW2 h2 hb=>
   ⟨⟨(Gr.ak h2).trans (Gr.setCell W2 ⟨w.heap.size+1,0,Ag⟩ _ rfl),by simpa using(iY.below h2 iY.lt).bX 0 (.bool Bj),(gh.out.trans ((wV.trans (h2.mono wV.size)).mono gh.out.size)).setCell (p:=⟨w.heap.size+1,0,Ag⟩) (by show w.heap.size<=w.heap.size+1;omega) _,Qm _ hb⟩,(iY.below h2 iY.lt).cell 0,(iY.below h2 iY.lt).frozen 0⟩
  have H1:=lz hc1;have H2:=lz qc;have H3:=lz hc3;have Xy:=lz KQ;have Xn:=lz Pa;have KI:=lz Qm;have ox:=lz yg;have Hbw:=lz wV;clear hc1 qc hc3 KQ Pa MI lS Pc Qm yg wV iY fK hrm hrp aBn iU CY kg hG aJ hT Vy uU aI8;gi_wp2;refine jS H1.out ?_;rintro e W2 ⟨rfl,dI⟩;have eF:=lz dI;have H2':=lz (H2.out W2 dI);clear r0 f0 m3 dI H1 H2
  cases q1 with
  | false=>
   have mz:=ox.out W2 eF.out (by rw[Xn.out];rfl);have r0:=mz.2.1;have f0:=mz.2.2;have vN:=lz mz.1;clear mz;gi_wp2;refine⟨trivial,?_⟩;gi_wp2;refine⟨trivial,?_⟩;gi_wp2;exact vN.out
  | true=>
   have p8:=(Xy.out W2 eF.out).1;gi_wp2;refine jS H2'.out ?_;rintro e W3 ⟨rfl,kq⟩;have mP:=lz (eF.out.trans (kq.mono eF.out.size));have H3':=lz (H3.out W3 mP.out);clear p8 kq H2' H3
   cases q2 with
   | false=>
    have mz:=ox.out W3 mP.out (by rw[Xn.out];rfl);have r0:=mz.2.1;have f0:=mz.2.2;have vN:=lz mz.1;clear mz;gi_wp2;refine⟨trivial,?_⟩;gi_wp2;exact vN.out
   | true=>
    have p9:=(Xy.out W3 mP.out).2;gi_wp2;refine jS H3'.out ?_;rintro e W4 ⟨rfl,mF⟩;have pN:=lz (mP.out.trans (mF.mono mP.out.size));clear p9 mF H3'
    cases q3 with
    | false=>
     have mz:=ox.out W4 pN.out (by rw[Xn.out];rfl);have r0:=mz.2.1;have f0:=mz.2.2;have vN:=lz mz.1;clear mz;gi_wp2;exact vN.out
    | true=>
     gi_wp2;exact⟨Gr.ak pN.out,Hbw.out.trans (pN.out.mono Hbw.out.size),KI.out _ (by rw[Xn.out];rfl)⟩
 case ret=>
  rintro D T W3 hD hs hT ⟨h1,h2,h3⟩ hk;have HF:=lz (show zR x=Bj by unfold zR;rw[pW hT h3];rfl);have KJ:D<W3.heap.size:=(gE hk).1;refine bP [D] W3 D qz (λE hE=>by simp at hE;subst hE;exact⟨nL,hk⟩) λW' j5=> ?_
  have z0:=(ah.below h1 j5.below oz).cell 0;exact⟨.bool Bj,by simp[results,f24,go_sem,z0],by rw[HF.out],h2.trans (j5.below.mono oz)⟩
 case done=>
  rintro D W hD hs ⟨hW,aJ⟩ hk;have HF:=lz (show zR x=(eM (x.mods.l.map (·.nm))&&eM (x.aP.l.map (·.nm))&&x.mods.l.all (qH x)&&eM (x.aF.l.map (·.nm)))by unfold zR;rw[show(fE x).all nmB=BR from aJ];rfl);have facts:∀W2,BD w1.heap.size w1 W2->tU W2 g x/\x.rd W2 W2.heap.size/\ah W2 w.heap.size 92 #[.pointer (Ai ⟨g,0,Ag⟩)]:=λW2 h2=>⟨Mk.out.g.below h2,(Mk.out.r.more Mk.out.B).below h2,Hbc.out.below h2 Hbc.out.lt⟩
  have I9:=lz facts;have hkD:∀W2,BD W.heap.size W W2->W2.heap[D]?=Ai (.deferred (Ai [])):=λW2 h2=>(h2.block D (gE hk).1).trans hk
  have Qo:=lz hkD;have HW:=lz hW;have HX:=lz (BK W.heap.size W);have pF:=lz (λW2 (h2:BD w1.heap.size w1 W2)=>rT.out.below h2 oz);clear aJ facts hkD hk hW;have Qv:=I9.out _ HW.out;have c0:=Qv.2.2.cell 0;have k0:=Qv.1.cell 0;have hc:=Cu x.mods.l x.mods.a x.mods.c W.heap.size W (I9.out _ HW.out).2.1.mods nL Hn.out.ml (λm hm=>(Hn.out.m m hm).1);obtain⟨q0,hq0⟩:∃q,q=eM (x.mods.l.map (·.nm)):=⟨_,rfl⟩;rw[<-hq0]at hc HF;have Hc:=lz hc;clear hc hq0 Qv;go_wp2_with fail;refine Hc.out.mono ?_;rintro e Y0 ⟨rfl,hb⟩;have NH:=lz (HX.out.trans (hb.mono HX.out.size));have HW0:=lz (HW.out.trans (hb.mono HW.out.size));clear c0 k0 hb Hc
  cases q0 with
  | false=>
   have r0:Y0.cell? ⟨w.heap.size+1,0,Ag⟩=Ai (.bool Bj):=(pF.out _ HW0.out).cell 0;have f0:Y0.frozen? ⟨w.heap.size+1,0,Ag⟩=false:=(pF.out _ HW0.out).frozen 0;go_wp2_with fail;refine vO D (w.heap.size+1) w.heap.size Bj Bj w Y0 ?_ ?_ oz ?_ oz (λW' z0=>by simp[results,f24,go_sem,z0]) (λW' hB=>⟨by rw[HF.out]<;>rfl,hB⟩)
   .exact pF.out _ HW0.out
   .exact Qo.out _ NH.out
   .exact gh.out.trans ((HW0.out).mono gh.out.size)
  | true=>
   have Qv:=I9.out _ HW0.out;have c0:=Qv.2.2.cell 0;have k2:=Qv.1.cell 2;have hc:=Cv x.aP.l x.aP.a x.aP.c Y0.heap.size Y0 (I9.out _ HW0.out).2.1.aP nL Hn.out.sl Hn.out.s;obtain⟨q1,MI⟩:∃q,q=eM (x.aP.l.map (·.nm)):=⟨_,rfl⟩;rw[<-MI]at hc HF;have Hc:=lz hc;clear hc MI Qv;go_wp2_with fail;refine Hc.out.mono ?_;rintro e Y1 ⟨rfl,hb⟩;have CZ:=lz (NH.out.trans (hb.mono NH.out.size));have KE:=lz (HW0.out.trans (hb.mono HW0.out.size));clear c0 k2 hb Hc
   cases q1 with
   | false=>
    have r0:Y1.cell? ⟨w.heap.size+1,0,Ag⟩=Ai (.bool Bj):=(pF.out _ KE.out).cell 0;have f0:Y1.frozen? ⟨w.heap.size+1,0,Ag⟩=false:=(pF.out _ KE.out).frozen 0;go_wp2_with fail;refine vO D (w.heap.size+1) w.heap.size Bj Bj w Y1 ?_ ?_ oz ?_ oz (λW' z0=>by simp[results,f24,go_sem,z0]) (λW' hB=>⟨by rw[HF.out]<;>rfl,hB⟩)
    .exact pF.out _ KE.out
    .exact Qo.out _ CZ.out
    .exact gh.out.trans ((KE.out).mono gh.out.size)
   | true=>
    have Qv:=I9.out _ KE.out;have c0:=Qv.2.2.cell 0;have k0:=Qv.1.cell 0;have hc:=AL 77 #[.pointer (Ai ⟨w.heap.size,0,Ag⟩)] (qH x) (Df func77 kz rfl) x.mods.l x.mods.a x.mods.c Y1 (λW' r hx hW' fK=>by simpa using aBl x r g w.heap.size W' ((I9.out _ (KE.out.trans (hW'.mono KE.out.size))).2.2) ((I9.out _ (KE.out.trans (hW'.mono KE.out.size))).1) ((I9.out _ (KE.out.trans (hW'.mono KE.out.size))).2.1) Hn.out.sl) (I9.out _ KE.out).2.1.mods (by have:=Hn.out.ml;omega);obtain⟨q2,lS⟩:∃q,q=x.mods.l.all (qH x):=⟨_,rfl⟩;rw[<-lS]at hc HF;have Hc:=lz hc;clear hc lS Qv;go_wp2_with fail;refine Hc.out.mono ?_;rintro e Y2 ⟨rfl,hb⟩;have qB:=lz (CZ.out.trans (hb.mono CZ.out.size));have nO:=lz (KE.out.trans (hb.mono KE.out.size));clear c0 k0 hb Hc
    cases q2 with
    | false=>
     have r0:Y2.cell? ⟨w.heap.size+1,0,Ag⟩=Ai (.bool Bj):=(pF.out _ nO.out).cell 0;have f0:Y2.frozen? ⟨w.heap.size+1,0,Ag⟩=false:=(pF.out _ nO.out).frozen 0;go_wp2_with fail;refine vO D (w.heap.size+1) w.heap.size Bj Bj w Y2 ?_ ?_ oz ?_ oz (λW' z0=>by simp[results,f24,go_sem,z0]) (λW' hB=>⟨by rw[HF.out]<;>rfl,hB⟩)
     .exact pF.out _ nO.out
     .exact Qo.out _ qB.out
     .exact gh.out.trans ((nO.out).mono gh.out.size)
    | true=>
     have Qv:=I9.out _ nO.out;have c0:=Qv.2.2.cell 0;have k4:=Qv.1.cell 4;have hc:=NG x.aF.l x.aF.a x.aF.c Y2.heap.size Y2 (I9.out _ nO.out).2.1.aF nL Hn.out.vl Hn.out.v;obtain⟨q3,Pc⟩:∃q,q=eM (x.aF.l.map (·.nm)):=⟨_,rfl⟩;rw[<-Pc]at hc HF;have Hc:=lz hc;clear hc Pc Qv;go_wp2_with fail;refine Hc.out.mono ?_;rintro e Y3 ⟨rfl,hb⟩;have Ja:=lz (qB.out.trans (hb.mono qB.out.size));have yY:=lz (nO.out.trans (hb.mono nO.out.size));clear c0 k4 hb Hc;have r0:Y3.cell? ⟨w.heap.size+1,0,Ag⟩=Ai (.bool Bj):=(pF.out _ yY.out).cell 0;have f0:Y3.frozen? ⟨w.heap.size+1,0,Ag⟩=false:=(pF.out _ yY.out).frozen 0;go_wp2_with fail;refine vO D (w.heap.size+1) w.heap.size q3 Bj w Y3 ?_ ?_ oz ?_ oz (λW' z0=>by simp[results,f24,go_sem,z0]) (λW' hB=>⟨by rw[HF.out]<;>rfl,hB⟩)
     .exact pF.out _ yY.out
     .exact Qo.out _ Ja.out
     .exact gh.out.trans ((yY.out).mono gh.out.size)
