import Derived.Test.YtmdgooofdmpcjaaGreatDoorY20
import Derived.Test.YtmdgooofdmpcjaaGreatDoorY13
import Derived.Test.YtmdgooofdmpcjaaGreatDoorY14
import Derived.Test.YtmdgooofdmpcjaaGreatDoorY0
set_option maxRecDepth 100000
set_option maxHeartbeats 8000000
set_option linter.unusedSimpArgs false
set_option linter.unusedVariables false
set_option linter.unusedSectionVars false
open Go.Proofs.Tryz renaming prog → pG
namespace Go.Proofs.YtmdgooofdmpcjaaGreatDoor
section
open Go.ChangeShapes Go.WideShapes Go.ChangeAt Go.RowKit
attribute [local go_sem] Oper.semAt_some
def aR(x:ay):Nat→Bool
 | 0=>mG x
 | 1=>iV x
 | 2=>zR x
 | 3=>KG x
 | 4=>K0 x
 | 5=>tC x
 | 6=>oO x
 | 7=>aFF x
 | 8=>XF x
 | _=>C9 x
def cW(x:ay):Int:=
 if aR x 0=false then 100 else if aR x 1=false then 101 else if aR x 2=false then 102 else if aR x 3=false then 103 else if aR x 4=false then 104
 else if aR x 5=false then 105 else if aR x 6=false then 106 else if aR x 7=false then 107 else if aR x 8=false then 108 else if aR x 9=false then 109 else 0
def ko(x:ay)(k:Nat):Prop:=∀j,j<k→aR x j=true
theorem ko.next{x:ay}{k:Nat}(h:ko x k)(hk:aR x k=true):ko x (k+1):=fun j hj=>by
 by_cases e:j=k
 ·subst e;exact hk
 ·exact h j oz
theorem aCE{x:ay}:cW x=0↔ko x 10:=by
 unfold cW;refine⟨fun h j hj=> ?_,fun h=> ?_⟩
 ·cases hq:aR x j with
  | true=>rfl
  | false=>
   have h10:j=0∨j=1∨j=2∨j=3∨j=4∨j=5∨j=6∨j=7∨j=8∨j=9:=by omega
   repeat' split at h
   all_goals first | (exact absurd h dz) | (rcases h10 with rfl | rfl | rfl | rfl | rfl | rfl | rfl | rfl | rfl | rfl<;>contradiction)
 ·rw[if_neg (by rw[h 0 oz];decide),if_neg (by rw[h 1 oz];decide),if_neg (by rw[h 2 oz];decide),if_neg (by rw[h 3 oz];decide),if_neg (by rw[h 4 oz];decide),if_neg (by rw[h 5 oz];decide),if_neg (by rw[h 6 oz];decide),if_neg (by rw[h 7 oz];decide),if_neg (by rw[h 8 oz];decide),if_neg (by rw[h 9 oz];decide)]
theorem aFq{x:ay}(h:ko x 0)(hq:aR x 0=false):cW x=100:=by
 unfold cW;rw[if_pos hq]
theorem aFr{x:ay}(h:ko x 1)(hq:aR x 1=false):cW x=101:=by
 unfold cW;rw[if_neg (show¬aR x 0=false by rw[h 0 oz];decide),if_pos hq]
theorem aFs{x:ay}(h:ko x 2)(hq:aR x 2=false):cW x=102:=by
 unfold cW;rw[if_neg (show¬aR x 0=false by rw[h 0 oz];decide),if_neg (show¬aR x 1=false by rw[h 1 oz];decide),if_pos hq]
theorem aFt{x:ay}(h:ko x 3)(hq:aR x 3=false):cW x=103:=by
 unfold cW;rw[if_neg (show¬aR x 0=false by rw[h 0 oz];decide),if_neg (show¬aR x 1=false by rw[h 1 oz];decide),if_neg (show¬aR x 2=false by rw[h 2 oz];decide),if_pos hq]
theorem aFu{x:ay}(h:ko x 4)(hq:aR x 4=false):cW x=104:=by
 unfold cW;rw[if_neg (show¬aR x 0=false by rw[h 0 oz];decide),if_neg (show¬aR x 1=false by rw[h 1 oz];decide),if_neg (show¬aR x 2=false by rw[h 2 oz];decide),if_neg (show¬aR x 3=false by rw[h 3 oz];decide),if_pos hq]
theorem aFv{x:ay}(h:ko x 5)(hq:aR x 5=false):cW x=105:=by
 unfold cW;rw[if_neg (show¬aR x 0=false by rw[h 0 oz];decide),if_neg (show¬aR x 1=false by rw[h 1 oz];decide),if_neg (show¬aR x 2=false by rw[h 2 oz];decide),if_neg (show¬aR x 3=false by rw[h 3 oz];decide),if_neg (show¬aR x 4=false by rw[h 4 oz];decide),if_pos hq]
theorem aFw{x:ay}(h:ko x 6)(hq:aR x 6=false):cW x=106:=by
 unfold cW;rw[if_neg (show¬aR x 0=false by rw[h 0 oz];decide),if_neg (show¬aR x 1=false by rw[h 1 oz];decide),if_neg (show¬aR x 2=false by rw[h 2 oz];decide),if_neg (show¬aR x 3=false by rw[h 3 oz];decide),if_neg (show¬aR x 4=false by rw[h 4 oz];decide),if_neg (show¬aR x 5=false by rw[h 5 oz];decide),if_pos hq]
theorem aFx{x:ay}(h:ko x 7)(hq:aR x 7=false):cW x=107:=by
 unfold cW;rw[if_neg (show¬aR x 0=false by rw[h 0 oz];decide),if_neg (show¬aR x 1=false by rw[h 1 oz];decide),if_neg (show¬aR x 2=false by rw[h 2 oz];decide),if_neg (show¬aR x 3=false by rw[h 3 oz];decide),if_neg (show¬aR x 4=false by rw[h 4 oz];decide),if_neg (show¬aR x 5=false by rw[h 5 oz];decide),if_neg (show¬aR x 6=false by rw[h 6 oz];decide),if_pos hq]
theorem aFy{x:ay}(h:ko x 8)(hq:aR x 8=false):cW x=108:=by
 unfold cW;rw[if_neg (show¬aR x 0=false by rw[h 0 oz];decide),if_neg (show¬aR x 1=false by rw[h 1 oz];decide),if_neg (show¬aR x 2=false by rw[h 2 oz];decide),if_neg (show¬aR x 3=false by rw[h 3 oz];decide),if_neg (show¬aR x 4=false by rw[h 4 oz];decide),if_neg (show¬aR x 5=false by rw[h 5 oz];decide),if_neg (show¬aR x 6=false by rw[h 6 oz];decide),if_neg (show¬aR x 7=false by rw[h 7 oz];decide),if_pos hq]
theorem aFz{x:ay}(h:ko x 9)(hq:aR x 9=false):cW x=109:=by
 unfold cW;rw[if_neg (show¬aR x 0=false by rw[h 0 oz];decide),if_neg (show¬aR x 1=false by rw[h 1 oz];decide),if_neg (show¬aR x 2=false by rw[h 2 oz];decide),if_neg (show¬aR x 3=false by rw[h 3 oz];decide),if_neg (show¬aR x 4=false by rw[h 4 oz];decide),if_neg (show¬aR x 5=false by rw[h 5 oz];decide),if_neg (show¬aR x 6=false by rw[h 6 oz];decide),if_neg (show¬aR x 7=false by rw[h 7 oz];decide),if_neg (show¬aR x 8=false by rw[h 8 oz];decide),if_pos hq]
theorem aF0(x:ay)(g:Nat)(w:World)(h:tU w g x)(hr:x.rd w w.heap.size)(hL:ct w)(hx:∀r∈x.causes.l,r.x.n≤8796093021952):
 CU 22 #[.pointer (some ⟨g,0,none⟩)] w (.bool (mG x)):=by
 have hv:=aBG x w hL hr hx;have k0:=h.cell 0;have k1:=h.cell 1;have k2:=h.cell 2;have k3:=h.cell 3;have k4:=h.cell 4;have k5:=h.cell 5;have k6:=h.cell 6;have k7:=h.cell 7;have Hv:=lz hv;obtain⟨q,hq⟩:=ez (mG x);rw[←hq]at Hv;rw[←hq];clear hv h hr hx hL hq;go_enter Tryz.func22,Tryz.ntmps22;go_wp2_with fail;refine Hv.out.mono ?_;rintro e w1 ⟨rfl,aU⟩;go_wp2;go_ret;exact⟨rfl,aU⟩
structure Yq(x:ay)(g:Nat)(w:World):Prop where
 ck:tU w g x
 rd:x.rd w w.heap.size
 laid:ct w
theorem Yq.below{x:ay}{g:Nat}{w w':World}(h:Yq x g w)(hb:Below w.heap.size w w'):Yq x g w':=⟨h.ck.below hb,h.rd.below hb,h.laid.below hb⟩
theorem Ji{x:ay}{w:World}{B:Nat}(h:x.rd w B):∀y∈x.causes.l,y.rd w B:=fun y hy=>by
 obtain⟨i,hi,rfl⟩:=List.getElem_of_mem hy;obtain⟨b,o,_,_,hc⟩:=h.causes oz;exact(hc i hi).2.2.2
def Rule(x:ay)(k f:Nat):Prop:=ko x k→∀(g:Nat) (w:World),Yq x g w→CU f #[.pointer (some ⟨g,0,none⟩)] w (.bool (aR x k))
theorem aKO(x:ay)(hx:∀r∈x.causes.l,r.x.n≤8796093021952):Rule x 0 22:=fun h g w H=>aF0 x g w H.ck H.rd H.laid hx
theorem aKP(x:ay):Rule x 1 23:=fun h g w H=>Xo x g w H.ck H.rd
theorem ko.form{x:ay}{k:Nat}(h:ko x k)(hk:0<k):rJ x:=aFh (h 0 hk)
theorem ko.lim{x:ay}{k:Nat}(h:ko x k)(hk:1<k):yw x:=aKD (h 1 hk)
theorem aKQ(x:ay):Rule x 2 24:=fun h g w H=>aBm x g w H.ck H.rd (aOz (h.form oz) (h.lim oz))
theorem aKR(x:ay):Rule x 3 25:=fun h g w H=>aBf x g w H.ck H.rd (aKE (h.lim oz))
theorem aKS(x:ay):Rule x 4 26:=fun h g w H=>aCC x g w H.ck H.rd H.laid (aFj (h.form oz))
theorem aKT(x:ay):Rule x 5 27:=fun h g w H=>by
 have hl:=h.lim oz;exact aBx x g w H.ck H.rd (by have:=hl.ml;omega) (by have:=hl.sl;omega) (by have:=hl.ll;omega) (aFi (h.form oz))
theorem aKU(x:ay):Rule x 6 28:=fun h g w H=>aBz x g w H.ck H.rd (aO0 (h.form oz) (h.lim oz))
theorem aKV(x:ay):Rule x 7 29:=fun h g w H=>aJD x g w H.ck H.rd (fun y _=>aKG (h.lim oz) y.src)
theorem aKW(x:ay):Rule x 8 30:=fun h g w H=>by
 have hl:=h.lim oz;exact aFK x g w H.ck H.rd (by have:=hl.ml;omega) (aKF (h.form oz))
theorem aKX(x:ay):Rule x 9 31:=fun h g w H=>by
 have hl:=h.lim oz;exact UH (C9 x) g x.causes.a x.causes.l x.causes.c _ w H.ck.a H.rd.causes (by have:=hl.cl;omega) (fun y hy=>by have:=(aCB hl (Ji H.rd) y hy).1;omega) (Ji H.rd) (NZ x)
theorem yx(x:ay)(w:World)(hr:x.rd w w.heap.size)(hL:ct w)(hx:∀r∈x.causes.l,r.x.n≤8796093021952):
 CU 10 #[x.val] w (.int .i64 (cW x)):=by
 obtain⟨w1,cN⟩:=ez (((w.alloc (.cells #[.slice x.mods.a x.mods.l.length x.mods.c,.slice x.aj.a x.aj.l.length x.aj.c,.slice x.aP.a x.aP.l.length x.aP.c,.slice x.links.a x.links.l.length x.links.c,.slice x.aF.a x.aF.l.length x.aF.c,.slice x.bQ.a x.bQ.l.length x.bQ.c,.slice x.causes.a x.causes.l.length x.causes.c,.slice x.aA.a x.aA.l.length x.aA.c] 31)).alloc (.cells #[.slice x.mods.a x.mods.l.length x.mods.c,.slice x.aj.a x.aj.l.length x.aj.c,.slice x.aP.a x.aP.l.length x.aP.c,.slice x.links.a x.links.l.length x.links.c,.slice x.aF.a x.aF.l.length x.aF.c,.slice x.bQ.a x.bQ.l.length x.bQ.c,.slice x.causes.a x.causes.l.length x.causes.c,.slice x.aA.a x.aA.l.length x.aA.c] 94)).alloc (.cells #[.func (.func 22) #[.pointer (some ⟨w.heap.size+1,0,none⟩)] #[],.int .i64 100,.func (.func 23) #[.pointer (some ⟨w.heap.size+1,0,none⟩)] #[],.int .i64 101,.func (.func 24) #[.pointer (some ⟨w.heap.size+1,0,none⟩)] #[],.int .i64 102,.func (.func 25) #[.pointer (some ⟨w.heap.size+1,0,none⟩)] #[],.int .i64 103,.func (.func 26) #[.pointer (some ⟨w.heap.size+1,0,none⟩)] #[],.int .i64 104,.func (.func 27) #[.pointer (some ⟨w.heap.size+1,0,none⟩)] #[],.int .i64 105,.func (.func 28) #[.pointer (some ⟨w.heap.size+1,0,none⟩)] #[],.int .i64 106,.func (.func 29) #[.pointer (some ⟨w.heap.size+1,0,none⟩)] #[],.int .i64 107,.func (.func 30) #[.pointer (some ⟨w.heap.size+1,0,none⟩)] #[],.int .i64 108,.func (.func 31) #[.pointer (some ⟨w.heap.size+1,0,none⟩)] #[],.int .i64 109] 96));have bY:Below w.heap.size w w1:=by rw[cN];exact((bN).alloc qz _).alloc qo _
 have gH:tU w1 (w.heap.size+1) x:=by
  rw[cN];have:=ah.new (w.alloc (.cells #[.slice x.mods.a x.mods.l.length x.mods.c,.slice x.aj.a x.aj.l.length x.aj.c,.slice x.aP.a x.aP.l.length x.aP.c,.slice x.links.a x.links.l.length x.links.c,.slice x.aF.a x.aF.l.length x.aF.c,.slice x.bQ.a x.bQ.l.length x.bQ.c,.slice x.causes.a x.causes.l.length x.causes.c,.slice x.aA.a x.aA.l.length x.aA.c] 31)) 94 #[.slice x.mods.a x.mods.l.length x.mods.c,.slice x.aj.a x.aj.l.length x.aj.c,.slice x.aP.a x.aP.l.length x.aP.c,.slice x.links.a x.links.l.length x.links.c,.slice x.aF.a x.aF.l.length x.aF.c,.slice x.bQ.a x.bQ.l.length x.bQ.c,.slice x.causes.a x.causes.l.length x.causes.c,.slice x.aA.a x.aA.l.length x.aA.c];rw[World.size_alloc]at this;exact this.alloc _
 have iO:ah w1 (w.heap.size+2) 96 #[.func (.func 22) #[.pointer (some ⟨w.heap.size+1,0,none⟩)] #[],.int .i64 100,.func (.func 23) #[.pointer (some ⟨w.heap.size+1,0,none⟩)] #[],.int .i64 101,.func (.func 24) #[.pointer (some ⟨w.heap.size+1,0,none⟩)] #[],.int .i64 102,.func (.func 25) #[.pointer (some ⟨w.heap.size+1,0,none⟩)] #[],.int .i64 103,.func (.func 26) #[.pointer (some ⟨w.heap.size+1,0,none⟩)] #[],.int .i64 104,.func (.func 27) #[.pointer (some ⟨w.heap.size+1,0,none⟩)] #[],.int .i64 105,.func (.func 28) #[.pointer (some ⟨w.heap.size+1,0,none⟩)] #[],.int .i64 106,.func (.func 29) #[.pointer (some ⟨w.heap.size+1,0,none⟩)] #[],.int .i64 107,.func (.func 30) #[.pointer (some ⟨w.heap.size+1,0,none⟩)] #[],.int .i64 108,.func (.func 31) #[.pointer (some ⟨w.heap.size+1,0,none⟩)] #[],.int .i64 109]:=by
  rw[cN];have:=ah.new ((w.alloc (.cells #[.slice x.mods.a x.mods.l.length x.mods.c,.slice x.aj.a x.aj.l.length x.aj.c,.slice x.aP.a x.aP.l.length x.aP.c,.slice x.links.a x.links.l.length x.links.c,.slice x.aF.a x.aF.l.length x.aF.c,.slice x.bQ.a x.bQ.l.length x.bQ.c,.slice x.causes.a x.causes.l.length x.causes.c,.slice x.aA.a x.aA.l.length x.aA.c] 31)).alloc (.cells #[.slice x.mods.a x.mods.l.length x.mods.c,.slice x.aj.a x.aj.l.length x.aj.c,.slice x.aP.a x.aP.l.length x.aP.c,.slice x.links.a x.links.l.length x.links.c,.slice x.aF.a x.aF.l.length x.aF.c,.slice x.bQ.a x.bQ.l.length x.bQ.c,.slice x.causes.a x.causes.l.length x.causes.c,.slice x.aA.a x.aA.l.length x.aA.c] 94)) 96 #[.func (.func 22) #[.pointer (some ⟨w.heap.size+1,0,none⟩)] #[],.int .i64 100,.func (.func 23) #[.pointer (some ⟨w.heap.size+1,0,none⟩)] #[],.int .i64 101,.func (.func 24) #[.pointer (some ⟨w.heap.size+1,0,none⟩)] #[],.int .i64 102,.func (.func 25) #[.pointer (some ⟨w.heap.size+1,0,none⟩)] #[],.int .i64 103,.func (.func 26) #[.pointer (some ⟨w.heap.size+1,0,none⟩)] #[],.int .i64 104,.func (.func 27) #[.pointer (some ⟨w.heap.size+1,0,none⟩)] #[],.int .i64 105,.func (.func 28) #[.pointer (some ⟨w.heap.size+1,0,none⟩)] #[],.int .i64 106,.func (.func 29) #[.pointer (some ⟨w.heap.size+1,0,none⟩)] #[],.int .i64 107,.func (.func 30) #[.pointer (some ⟨w.heap.size+1,0,none⟩)] #[],.int .i64 108,.func (.func 31) #[.pointer (some ⟨w.heap.size+1,0,none⟩)] #[],.int .i64 109];simpa only[World.size_alloc]using this
 have VT:Hid (Yq x (w.heap.size+1) w1):=lz (⟨gH,hr.below bY,hL.below bY⟩);have rA:=lz iO;have cU:=lz bY;have Hx:=lz hx;have lH:=lz cN;clear gH iO bY hr hL hx cN;have b0:=ah.new w 31 #[.slice x.mods.a x.mods.l.length x.mods.c,.slice x.aj.a x.aj.l.length x.aj.c,.slice x.aP.a x.aP.l.length x.aP.c,.slice x.links.a x.links.l.length x.links.c,.slice x.aF.a x.aF.l.length x.aF.c,.slice x.bQ.a x.bQ.l.length x.bQ.c,.slice x.causes.a x.causes.l.length x.causes.c,.slice x.aA.a x.aA.l.length x.aA.c];have c0:=b0.cell 0;have c1:=b0.cell 1;have c2:=b0.cell 2;have c3:=b0.cell 3;have c4:=b0.cell 4;have c5:=b0.cell 5;have c6:=b0.cell 6;have c7:=b0.cell 7;clear b0;go_enter Tryz.func10,Tryz.ntmps10;go_wp2_with fail;rw[←lH.out];go_loopw [41] (fun t wr=>∃k:Nat,k≤10∧t= .int .i64 k∧Below w1.heap.size w1 wr∧Hid (ko x k)) (fun t wr=>10-(intOf t).toNat)
 case atStart=>exact⟨0,oz,rfl,Below.refl _ _,lz (fun j hj=>absurd hj oz)⟩
 case round=>
  obtain⟨k,hk,rfl,hB,hu⟩:=hrel;clear c0 c1 c2 c3 c4 c5 c6 c7;have iO:=rA.out.below hB rA.out.lt;have Gt:=lz (VT.out.below hB);have hsz:w.heap.size+2<wr.heap.size:=iO.lt;have HB:=lz hB;have j7:=lz iO;clear hB iO;have h10:k=0∨k=1∨k=2∨k=3∨k=4∨k=5∨k=6∨k=7∨k=8∨k=9∨k=10:=by omega
  rcases h10 with rfl | rfl | rfl | rfl | rfl | rfl | rfl | rfl | rfl | rfl | rfl
  ·have d0:=j7.out.cell 0
   have d1:=j7.out.cell 1;have hc:=aKO x Hx.out hu.out (w.heap.size+1) (wr.alloc (.cells #[.func (.func 22) #[.pointer (some ⟨w.heap.size+1,0,none⟩)] #[],.int .i64 100] 96)) (Gt.out.below ((Below.refl wr.heap.size wr).alloc nL (.cells #[.func (.func 22) #[.pointer (some ⟨w.heap.size+1,0,none⟩)] #[],.int .i64 100] 96)));have jT:aR x 0=false→cW x=100:=aFq hu.out;have iw:aR x 0=true→ko x 1:=hu.out.next
   have oQ:=lz jT;have fS:=lz iw;have yA:=lz hc;clear hc hu jT iw;generalize aR x 0=q at *;go_wp2_with fail;refine yA.out.mono ?_;rintro e W2 ⟨rfl,dI⟩;have eF:=lz (HB.out.trans (((Below.refl wr.heap.size wr).alloc nL (.cells #[.func (.func 22) #[.pointer (some ⟨w.heap.size+1,0,none⟩)] #[],.int .i64 100] 96)).trans (dI.mono qz) |>.mono HB.out.size));have k1:=((ah.new wr 96 #[.func (.func 22) #[.pointer (some ⟨w.heap.size+1,0,none⟩)] #[],.int .i64 100]).below dI qz).cell 1;clear dI yA d0 d1
   cases q with
   | true=>
    have HU:=lz (fS.out rfl);clear oQ fS;go_wp2;go_roundw
    case rel=>exact⟨1,oz,by go_num,eF.out,HU⟩
    case measure=>simp[intOf]
   | false=>
    have HV:=lz (oQ.out rfl);clear oQ fS;go_wp2;go_ret;exact⟨by rw[HV.out];rfl,cU.out.trans (eF.out.mono cU.out.size)⟩
  ·have d0:=j7.out.cell 2
   have d1:=j7.out.cell 3;have hc:=aKP x hu.out (w.heap.size+1) (wr.alloc (.cells #[.func (.func 23) #[.pointer (some ⟨w.heap.size+1,0,none⟩)] #[],.int .i64 101] 96)) (Gt.out.below ((Below.refl wr.heap.size wr).alloc nL (.cells #[.func (.func 23) #[.pointer (some ⟨w.heap.size+1,0,none⟩)] #[],.int .i64 101] 96)));have jT:aR x 1=false→cW x=101:=aFr hu.out;have iw:aR x 1=true→ko x 2:=hu.out.next
   have oQ:=lz jT;have fS:=lz iw;have yA:=lz hc;clear hc hu jT iw;generalize aR x 1=q at *;go_wp2_with fail;refine yA.out.mono ?_;rintro e W2 ⟨rfl,dI⟩;have eF:=lz (HB.out.trans (((Below.refl wr.heap.size wr).alloc nL (.cells #[.func (.func 23) #[.pointer (some ⟨w.heap.size+1,0,none⟩)] #[],.int .i64 101] 96)).trans (dI.mono qz) |>.mono HB.out.size));have k1:=((ah.new wr 96 #[.func (.func 23) #[.pointer (some ⟨w.heap.size+1,0,none⟩)] #[],.int .i64 101]).below dI qz).cell 1;clear dI yA d0 d1
   cases q with
   | true=>
    have HU:=lz (fS.out rfl);clear oQ fS;go_wp2;go_roundw
    case rel=>exact⟨2,oz,by go_num,eF.out,HU⟩
    case measure=>simp[intOf]
   | false=>
    have HV:=lz (oQ.out rfl);clear oQ fS;go_wp2;go_ret;exact⟨by rw[HV.out];rfl,cU.out.trans (eF.out.mono cU.out.size)⟩
  ·have d0:=j7.out.cell 4
   have d1:=j7.out.cell 5;have hc:=aKQ x hu.out (w.heap.size+1) (wr.alloc (.cells #[.func (.func 24) #[.pointer (some ⟨w.heap.size+1,0,none⟩)] #[],.int .i64 102] 96)) (Gt.out.below ((Below.refl wr.heap.size wr).alloc nL (.cells #[.func (.func 24) #[.pointer (some ⟨w.heap.size+1,0,none⟩)] #[],.int .i64 102] 96)));have jT:aR x 2=false→cW x=102:=aFs hu.out;have iw:aR x 2=true→ko x 3:=hu.out.next
   have oQ:=lz jT;have fS:=lz iw;have yA:=lz hc;clear hc hu jT iw;generalize aR x 2=q at *;go_wp2_with fail;refine yA.out.mono ?_;rintro e W2 ⟨rfl,dI⟩;have eF:=lz (HB.out.trans (((Below.refl wr.heap.size wr).alloc nL (.cells #[.func (.func 24) #[.pointer (some ⟨w.heap.size+1,0,none⟩)] #[],.int .i64 102] 96)).trans (dI.mono qz) |>.mono HB.out.size));have k1:=((ah.new wr 96 #[.func (.func 24) #[.pointer (some ⟨w.heap.size+1,0,none⟩)] #[],.int .i64 102]).below dI qz).cell 1;clear dI yA d0 d1
   cases q with
   | true=>
    have HU:=lz (fS.out rfl);clear oQ fS;go_wp2;go_roundw
    case rel=>exact⟨3,oz,by go_num,eF.out,HU⟩
    case measure=>simp[intOf]
   | false=>
    have HV:=lz (oQ.out rfl);clear oQ fS;go_wp2;go_ret;exact⟨by rw[HV.out];rfl,cU.out.trans (eF.out.mono cU.out.size)⟩
  ·have d0:=j7.out.cell 6
   have d1:=j7.out.cell 7;have hc:=aKR x hu.out (w.heap.size+1) (wr.alloc (.cells #[.func (.func 25) #[.pointer (some ⟨w.heap.size+1,0,none⟩)] #[],.int .i64 103] 96)) (Gt.out.below ((Below.refl wr.heap.size wr).alloc nL (.cells #[.func (.func 25) #[.pointer (some ⟨w.heap.size+1,0,none⟩)] #[],.int .i64 103] 96)));have jT:aR x 3=false→cW x=103:=aFt hu.out;have iw:aR x 3=true→ko x 4:=hu.out.next
   have oQ:=lz jT;have fS:=lz iw;have yA:=lz hc;clear hc hu jT iw;generalize aR x 3=q at *;go_wp2_with fail;refine yA.out.mono ?_;rintro e W2 ⟨rfl,dI⟩;have eF:=lz (HB.out.trans (((Below.refl wr.heap.size wr).alloc nL (.cells #[.func (.func 25) #[.pointer (some ⟨w.heap.size+1,0,none⟩)] #[],.int .i64 103] 96)).trans (dI.mono qz) |>.mono HB.out.size));have k1:=((ah.new wr 96 #[.func (.func 25) #[.pointer (some ⟨w.heap.size+1,0,none⟩)] #[],.int .i64 103]).below dI qz).cell 1;clear dI yA d0 d1
   cases q with
   | true=>
    have HU:=lz (fS.out rfl);clear oQ fS;go_wp2;go_roundw
    case rel=>exact⟨4,oz,by go_num,eF.out,HU⟩
    case measure=>simp[intOf]
   | false=>
    have HV:=lz (oQ.out rfl);clear oQ fS;go_wp2;go_ret;exact⟨by rw[HV.out];rfl,cU.out.trans (eF.out.mono cU.out.size)⟩
  ·have d0:=j7.out.cell 8
   have d1:=j7.out.cell 9;have hc:=aKS x hu.out (w.heap.size+1) (wr.alloc (.cells #[.func (.func 26) #[.pointer (some ⟨w.heap.size+1,0,none⟩)] #[],.int .i64 104] 96)) (Gt.out.below ((Below.refl wr.heap.size wr).alloc nL (.cells #[.func (.func 26) #[.pointer (some ⟨w.heap.size+1,0,none⟩)] #[],.int .i64 104] 96)));have jT:aR x 4=false→cW x=104:=aFu hu.out;have iw:aR x 4=true→ko x 5:=hu.out.next
   have oQ:=lz jT;have fS:=lz iw;have yA:=lz hc;clear hc hu jT iw;generalize aR x 4=q at *;go_wp2_with fail;refine yA.out.mono ?_;rintro e W2 ⟨rfl,dI⟩;have eF:=lz (HB.out.trans (((Below.refl wr.heap.size wr).alloc nL (.cells #[.func (.func 26) #[.pointer (some ⟨w.heap.size+1,0,none⟩)] #[],.int .i64 104] 96)).trans (dI.mono qz) |>.mono HB.out.size));have k1:=((ah.new wr 96 #[.func (.func 26) #[.pointer (some ⟨w.heap.size+1,0,none⟩)] #[],.int .i64 104]).below dI qz).cell 1;clear dI yA d0 d1
   cases q with
   | true=>
    have HU:=lz (fS.out rfl);clear oQ fS;go_wp2;go_roundw
    case rel=>exact⟨5,oz,by go_num,eF.out,HU⟩
    case measure=>simp[intOf]
   | false=>
    have HV:=lz (oQ.out rfl);clear oQ fS;go_wp2;go_ret;exact⟨by rw[HV.out];rfl,cU.out.trans (eF.out.mono cU.out.size)⟩
  ·have d0:=j7.out.cell 10
   have d1:=j7.out.cell 11;have hc:=aKT x hu.out (w.heap.size+1) (wr.alloc (.cells #[.func (.func 27) #[.pointer (some ⟨w.heap.size+1,0,none⟩)] #[],.int .i64 105] 96)) (Gt.out.below ((Below.refl wr.heap.size wr).alloc nL (.cells #[.func (.func 27) #[.pointer (some ⟨w.heap.size+1,0,none⟩)] #[],.int .i64 105] 96)));have jT:aR x 5=false→cW x=105:=aFv hu.out;have iw:aR x 5=true→ko x 6:=hu.out.next
   have oQ:=lz jT;have fS:=lz iw;have yA:=lz hc;clear hc hu jT iw;generalize aR x 5=q at *;go_wp2_with fail;refine yA.out.mono ?_;rintro e W2 ⟨rfl,dI⟩;have eF:=lz (HB.out.trans (((Below.refl wr.heap.size wr).alloc nL (.cells #[.func (.func 27) #[.pointer (some ⟨w.heap.size+1,0,none⟩)] #[],.int .i64 105] 96)).trans (dI.mono qz) |>.mono HB.out.size));have k1:=((ah.new wr 96 #[.func (.func 27) #[.pointer (some ⟨w.heap.size+1,0,none⟩)] #[],.int .i64 105]).below dI qz).cell 1;clear dI yA d0 d1
   cases q with
   | true=>
    have HU:=lz (fS.out rfl);clear oQ fS;go_wp2;go_roundw
    case rel=>exact⟨6,oz,by go_num,eF.out,HU⟩
    case measure=>simp[intOf]
   | false=>
    have HV:=lz (oQ.out rfl);clear oQ fS;go_wp2;go_ret;exact⟨by rw[HV.out];rfl,cU.out.trans (eF.out.mono cU.out.size)⟩
  ·have d0:=j7.out.cell 12
   have d1:=j7.out.cell 13;have hc:=aKU x hu.out (w.heap.size+1) (wr.alloc (.cells #[.func (.func 28) #[.pointer (some ⟨w.heap.size+1,0,none⟩)] #[],.int .i64 106] 96)) (Gt.out.below ((Below.refl wr.heap.size wr).alloc nL (.cells #[.func (.func 28) #[.pointer (some ⟨w.heap.size+1,0,none⟩)] #[],.int .i64 106] 96)));have jT:aR x 6=false→cW x=106:=aFw hu.out;have iw:aR x 6=true→ko x 7:=hu.out.next
   have oQ:=lz jT;have fS:=lz iw;have yA:=lz hc;clear hc hu jT iw;generalize aR x 6=q at *;go_wp2_with fail;refine yA.out.mono ?_;rintro e W2 ⟨rfl,dI⟩;have eF:=lz (HB.out.trans (((Below.refl wr.heap.size wr).alloc nL (.cells #[.func (.func 28) #[.pointer (some ⟨w.heap.size+1,0,none⟩)] #[],.int .i64 106] 96)).trans (dI.mono qz) |>.mono HB.out.size));have k1:=((ah.new wr 96 #[.func (.func 28) #[.pointer (some ⟨w.heap.size+1,0,none⟩)] #[],.int .i64 106]).below dI qz).cell 1;clear dI yA d0 d1
   cases q with
   | true=>
    have HU:=lz (fS.out rfl);clear oQ fS;go_wp2;go_roundw
    case rel=>exact⟨7,oz,by go_num,eF.out,HU⟩
    case measure=>simp[intOf]
   | false=>
    have HV:=lz (oQ.out rfl);clear oQ fS;go_wp2;go_ret;exact⟨by rw[HV.out];rfl,cU.out.trans (eF.out.mono cU.out.size)⟩
  ·have d0:=j7.out.cell 14
   have d1:=j7.out.cell 15;have hc:=aKV x hu.out (w.heap.size+1) (wr.alloc (.cells #[.func (.func 29) #[.pointer (some ⟨w.heap.size+1,0,none⟩)] #[],.int .i64 107] 96)) (Gt.out.below ((Below.refl wr.heap.size wr).alloc nL (.cells #[.func (.func 29) #[.pointer (some ⟨w.heap.size+1,0,none⟩)] #[],.int .i64 107] 96)));have jT:aR x 7=false→cW x=107:=aFx hu.out;have iw:aR x 7=true→ko x 8:=hu.out.next
   have oQ:=lz jT;have fS:=lz iw;have yA:=lz hc;clear hc hu jT iw;generalize aR x 7=q at *;go_wp2_with fail;refine yA.out.mono ?_;rintro e W2 ⟨rfl,dI⟩;have eF:=lz (HB.out.trans (((Below.refl wr.heap.size wr).alloc nL (.cells #[.func (.func 29) #[.pointer (some ⟨w.heap.size+1,0,none⟩)] #[],.int .i64 107] 96)).trans (dI.mono qz) |>.mono HB.out.size));have k1:=((ah.new wr 96 #[.func (.func 29) #[.pointer (some ⟨w.heap.size+1,0,none⟩)] #[],.int .i64 107]).below dI qz).cell 1;clear dI yA d0 d1
   cases q with
   | true=>
    have HU:=lz (fS.out rfl);clear oQ fS;go_wp2;go_roundw
    case rel=>exact⟨8,oz,by go_num,eF.out,HU⟩
    case measure=>simp[intOf]
   | false=>
    have HV:=lz (oQ.out rfl);clear oQ fS;go_wp2;go_ret;exact⟨by rw[HV.out];rfl,cU.out.trans (eF.out.mono cU.out.size)⟩
  ·have d0:=j7.out.cell 16
   have d1:=j7.out.cell 17;have hc:=aKW x hu.out (w.heap.size+1) (wr.alloc (.cells #[.func (.func 30) #[.pointer (some ⟨w.heap.size+1,0,none⟩)] #[],.int .i64 108] 96)) (Gt.out.below ((Below.refl wr.heap.size wr).alloc nL (.cells #[.func (.func 30) #[.pointer (some ⟨w.heap.size+1,0,none⟩)] #[],.int .i64 108] 96)));have jT:aR x 8=false→cW x=108:=aFy hu.out;have iw:aR x 8=true→ko x 9:=hu.out.next
   have oQ:=lz jT;have fS:=lz iw;have yA:=lz hc;clear hc hu jT iw;generalize aR x 8=q at *;go_wp2_with fail;refine yA.out.mono ?_;rintro e W2 ⟨rfl,dI⟩;have eF:=lz (HB.out.trans (((Below.refl wr.heap.size wr).alloc nL (.cells #[.func (.func 30) #[.pointer (some ⟨w.heap.size+1,0,none⟩)] #[],.int .i64 108] 96)).trans (dI.mono qz) |>.mono HB.out.size));have k1:=((ah.new wr 96 #[.func (.func 30) #[.pointer (some ⟨w.heap.size+1,0,none⟩)] #[],.int .i64 108]).below dI qz).cell 1;clear dI yA d0 d1
   cases q with
   | true=>
    have HU:=lz (fS.out rfl);clear oQ fS;go_wp2;go_roundw
    case rel=>exact⟨9,oz,by go_num,eF.out,HU⟩
    case measure=>simp[intOf]
   | false=>
    have HV:=lz (oQ.out rfl);clear oQ fS;go_wp2;go_ret;exact⟨by rw[HV.out];rfl,cU.out.trans (eF.out.mono cU.out.size)⟩
  ·have d0:=j7.out.cell 18
   have d1:=j7.out.cell 19;have hc:=aKX x hu.out (w.heap.size+1) (wr.alloc (.cells #[.func (.func 31) #[.pointer (some ⟨w.heap.size+1,0,none⟩)] #[],.int .i64 109] 96)) (Gt.out.below ((Below.refl wr.heap.size wr).alloc nL (.cells #[.func (.func 31) #[.pointer (some ⟨w.heap.size+1,0,none⟩)] #[],.int .i64 109] 96)));have jT:aR x 9=false→cW x=109:=aFz hu.out;have iw:aR x 9=true→ko x 10:=hu.out.next
   have oQ:=lz jT;have fS:=lz iw;have yA:=lz hc;clear hc hu jT iw;generalize aR x 9=q at *;go_wp2_with fail;refine yA.out.mono ?_;rintro e W2 ⟨rfl,dI⟩;have eF:=lz (HB.out.trans (((Below.refl wr.heap.size wr).alloc nL (.cells #[.func (.func 31) #[.pointer (some ⟨w.heap.size+1,0,none⟩)] #[],.int .i64 109] 96)).trans (dI.mono qz) |>.mono HB.out.size));have k1:=((ah.new wr 96 #[.func (.func 31) #[.pointer (some ⟨w.heap.size+1,0,none⟩)] #[],.int .i64 109]).below dI qz).cell 1;clear dI yA d0 d1
   cases q with
   | true=>
    have HU:=lz (fS.out rfl);clear oQ fS;go_wp2;go_roundw
    case rel=>exact⟨10,oz,by go_num,eF.out,HU⟩
    case measure=>simp[intOf]
   | false=>
    have HV:=lz (oQ.out rfl);clear oQ fS;go_wp2;go_ret;exact⟨by rw[HV.out];rfl,cU.out.trans (eF.out.mono cU.out.size)⟩
  ·have HV:=lz (aCE.2 hu.out)
   clear hu;go_wp2;go_ret;exact⟨by rw[HV.out];rfl,cU.out.trans (HB.out.mono cU.out.size)⟩
def lK{α:Type}(p:α→Bool):List α→Nat→Nat
 | [],j=>j
 | y :: r,j=>if p y=true then(match j with | 0=>0 | j+1=>lK p r j+1)else lK p r j+1
theorem zV{α:Type}(p:α→Bool):∀(l:List α) (i j:Nat),i<j→lK p l i<lK p l j
 | [],i,j,h=>h
 | y :: r,i,j,h=>by
  unfold lK;split
  ·match i,j with
   | 0,j+1=>simp
   | i+1,j+1=>have:=zV p r i j oz;simp only;omega
  ·have:=zV p r i j h;omega
def lC(x:ay)(net:Int)(src i:Nat)(y:aO):List aI:=
 if y.net=net then([⟨(bg x y.a).toNat,(bg x y.b).toNat,i⟩,⟨(bg x y.b).toNat,(bg x y.a).toNat,i⟩]:List aI).filter fun e=>decide (e.f=src)||decide (x.mods.l.length≤e.f)else[]
def dD(x:ay)(net:Int)(src:Nat):Nat→List aO→List aI
 | _,[]=> []
 | i,y :: r=>lC x net src i y++dD x net src (i+1) r
def gj(x:ay)(net:Int)(src:Nat):List aI:=dD x net src 0 x.links.l
theorem tG(x:ay)(net:Int)(src:Nat):∀(l:List aO) (i:Nat) (y:aO),dD x net src i (l++ [y])=dD x net src i l++lC x net src (i+l.length) y
 | [],i,y=>by simp[dD]
 | z :: l,i,y=>by
  simp only[List.cons_append,dD,List.append_assoc,List.length_cons];rw[tG x net src l (i+1) y,show i+1+l.length=i+(l.length+1)from by omega]
theorem UN(x:ay)(net:Int)(src i k:Nat)(f:Nat→Nat)(y:aO)(h:f i=k):(lC x net src i y).map (aI.ren f)=lC x net src k y:=by
 unfold lC;split
 ·simp only[List.filter_cons,List.filter_nil]
  split<;>split<;>simp[aI.ren,h]
 ·rfl
theorem zW(x:ay){net:Int}(src i:Nat){y:aO}(h:¬y.net=net):lC x net src i y= []:=if_neg h
theorem rK(x:ay)(net:Int)(src:Nat):∀(l:List aO) (i j:Nat) (f:Nat→Nat),(∀t,f (j+t)=i+lK (fun y=>decide (y.net=net)) l t)→
 (dD x net src j (l.filter fun y=>decide (y.net=net))).map (aI.ren f)=dD x net src i l
 | [],i,j,f,h=>rfl
 | y :: r,i,j,f,h=>by
  by_cases c:y.net=net
  ·rw[List.filter_cons_of_pos (by simpa using c)]
   simp only[dD,List.map_append];have h0:=h 0;rw[UN x net src j i f y (by rw[Nat.add_zero]at h0;rw[h0];simp[lK,c])];congr 1;refine rK x net src r (i+1) (j+1) f fun t=> ?_
   have:=h (t+1);rw[show j+1+t=j+(t+1)from by omega,this];simp[lK,c];omega
  ·rw[List.filter_cons_of_neg (by simpa using c)]
   simp only[dD,zW x src i c,List.nil_append];refine rK x net src r (i+1) j f fun t=> ?_
   rw[h t];simp[lK,c];omega
theorem oR{x d:ay}(hm:d.mods.l=x.mods.l)(hs:d.aP.l=x.aP.l)(s:ByteArray):bg d s=bg x s:=by unfold bg;rw[hm,hs]
theorem BA{x d:ay}(hm:d.mods.l=x.mods.l)(hs:d.aP.l=x.aP.l)(net:Int)(src:Nat):∀(l:List aO) (i:Nat),dD d net src i l=dD x net src i l
 | [],_=>rfl
 | y :: r,i=>by
  simp only[dD,BA hm hs net src r (i+1)];unfold lC;rw[oR hm hs,oR hm hs,hm]
theorem nQ{x:ay}(h:cW x=0):∀k,k<10→aR x k=true:=by
 intro k hk;unfold cW at h;repeat' split at h
 all_goals first
 | (exfalso;exact absurd h dz)
 | skip
 rename_i h0 h1 h2 h3 h4 h5 h6 h7 h8 h9
 match k,hk with
 | 0,_=>simpa using h0
 | 1,_=>simpa using h1
 | 2,_=>simpa using h2
 | 3,_=>simpa using h3
 | 4,_=>simpa using h4
 | 5,_=>simpa using h5
 | 6,_=>simpa using h6
 | 7,_=>simpa using h7
 | 8,_=>simpa using h8
 | 9,_=>simpa using h9
theorem aF1{x:ay}(h:∀k,k<10→aR x k=true):cW x=0:=by
 unfold cW;rw[h 0 oz,h 1 oz,h 2 oz,h 3 oz,h 4 oz,h 5 oz,h 6 oz,h 7 oz,h 8 oz,h 9 oz];rfl
theorem jv{x:ay}(h:cW x=0):x.mods.l.length≤4∧x.aP.l.length≤8∧x.links.l.length≤32∧x.aF.l.length≤16:=by
 have h1:iV x=true:=nQ h 1 oz;unfold iV gU at h1;simp only[Bool.and_eq_true,decide_eq_true_eq]at h1;omega
theorem SH{x:ay}{net n:Int}{st s1:List kY×Int}(h:iP x net n st=some s1):0≤n:=by
 unfold iP at h;split at h
 ·cases h
 ·omega
theorem Yr{x:ay}{y:aO}{met m:List kY}(h:gA x y met=some m):0≤bg x y.a∧0≤bg x y.b∧¬bg x y.a=bg x y.b:=by
 unfold gA at h;split at h
 ·cases h
 ·rename_i h1
  split at h
  ·cases h
  ·rename_i h2
   split at h
   ·rename_i h3
    exact⟨SH h1,SH h2,h3.2⟩
   ·cases h
theorem Jj{x:ay}:∀{l:List aO} {met m:List kY},fJ x l met=some m→∀y∈l,0≤bg x y.a∧0≤bg x y.b∧¬bg x y.a=bg x y.b
 | [],_,_,_,y,hy=>by cases hy
 | z :: l,met,m,h,y,hy=>by
  unfold fJ at h;split at h
  ·cases h
  ·rename_i h1
   rcases List.mem_cons.1 hy with rfl | hy
   ·exact Yr h1
   ·exact Jj h y hy
theorem zX{x:ay}(h:cW x=0):∀y∈x.links.l,0≤bg x y.a∧0≤bg x y.b∧¬bg x y.a=bg x y.b:=by
 have h1:tC x=true:=nQ h 5 oz;unfold tC at h1;obtain⟨m,hm⟩:=Option.isSome_iff_exists.1 h1;exact Jj hm
theorem Jk{x:ay}{net n:Int}{met zY m:List kY}{k k2:Int}(h:iP x net n (met,k)=some (m,k2))(hs:zY ⊆ met):∃m',iP x net n (zY,k)=some (m',k2)∧m' ⊆ m:=by
 unfold iP at h ⊢;split at h
 ·cases h
 ·rename_i h1
  rw[if_neg h1];split at h
  ·rename_i h2
   rw[if_pos h2];split at h
   ·rename_i h3
    rw[if_pos h3];cases h;exact⟨zY,rfl,hs⟩
   ·cases h
  ·rename_i h2
   rw[if_neg h2];split at h
   ·cases h
   ·rename_i h3
    cases h
    have:¬fP (⟨n,net⟩:kY) zY=true:=fun c=>h3 (nS.2 (hs (nS.1 c)))
    rw[if_neg this];exact⟨_,rfl,fun z hz=>by
     rcases List.mem_append.1 hz with hz | hz
     ·exact List.mem_append_left _ (hs hz)
     ·exact List.mem_append_right _ hz⟩
theorem Jl{x:ay}{net n:Int}{met m:List kY}{k k2:Int}(h:iP x net n (met,k)=some (m,k2)):met ⊆ m:=by
 unfold iP at h;split at h
 ·cases h
 ·split at h
  ·split at h
   ·cases h;exact fun _ h=>h
   ·cases h
  ·split at h
   ·cases h
   ·cases h;exact fun _ h=>List.mem_append_left _ h
theorem QK{x:ay}{y:aO}{met zY m:List kY}(h:gA x y met=some m)(hs:zY ⊆ met):∃m',gA x y zY=some m'∧m' ⊆ m:=by
 unfold gA at h ⊢;split at h
 ·cases h
 ·rename_i s1 h1
  obtain⟨m1,e1,hs1⟩:=Jk (m:=s1.1) (k2:=s1.2) h1 hs;rw[e1];dsimp only;split at h
  ·cases h
  ·rename_i s2 h2
   obtain⟨m2,e2,Pb⟩:=Jk (m:=s2.1) (k2:=s2.2) (met:=s1.1) (k:=s1.2) h2 hs1;rw[e2];dsimp only;split at h
   ·rename_i h3
    rw[if_pos h3]
    cases h
    exact⟨_,rfl,Pb⟩
   ·cases h
theorem QL{x:ay}{y:aO}{met m:List kY}(h:gA x y met=some m):met ⊆ m:=by
 unfold gA at h;split at h
 ·cases h
 ·rename_i s1 h1
  split at h
  ·cases h
  ·rename_i s2 h2
   split at h
   ·cases h
    exact fun z hz=>Jl (met:=s1.1) (m:=s2.1) (k:=s1.2) (k2:=s2.2) h2 (Jl (m:=s1.1) (k2:=s1.2) h1 hz)
   ·cases h
theorem tH{x:ay}(p:aO→Bool):∀{l:List aO} {met zY m:List kY},fJ x l met=some m→zY ⊆ met→∃m',fJ x (l.filter p) zY=some m'∧m' ⊆ m
 | [],met,zY,m,h,hs=>by cases h;exact⟨zY,rfl,hs⟩
 | y :: l,met,zY,m,h,hs=>by
  unfold fJ at h;split at h
  ·cases h
  ·rename_i m1 h1
   by_cases c:p y=true
   ·rw[List.filter_cons_of_pos c]
    obtain⟨m2,e2,Pb⟩:=QK h1 hs;unfold fJ;rw[e2];exact tH p h Pb
   ·rw[List.filter_cons_of_neg c]
    exact tH p h fun z hz=>QL h1 (hs hz)
abbrev ay.aK(x:ay)(L:Sl aO):ay:={x with links:=L}
theorem BD{x d:ay}(hm:d.mods.l=x.mods.l)(hs:d.aP.l=x.aP.l):∀(l:List aO) (met:List kY),fJ d l met=fJ x l met
 | [],_=>rfl
 | y :: l,met=>by
  have h1:gA d y met=gA x y met:=by unfold gA iP;rw[oR hm hs,oR hm hs,hm,hs]
  unfold fJ;rw[h1];split
  ·rfl
  ·exact BD hm hs l _
theorem N0(x:ay)(L:Sl aO)(q:aM)(m:Int)(vl:Bool):∀(l u:List bw),jl (x.aK L) q m vl l u=jl x q m vl l u
 | [],_=>rfl
 | r :: l,u=>by
  show(oN x q m vl u r).bind (jl (x.aK L) q m vl l)=(oN x q m vl u r).bind (jl x q m vl l);rw[show jl (x.aK L) q m vl l=jl x q m vl l from funext (N0 x L q m vl l)]
theorem aCF(x:ay)(L:Sl aO)(u:List bw)(y:dZ):lu (x.aK L) u y=lu x u y:=by
 unfold lu;rw[N0];rfl
theorem N7(x:ay)(L:Sl aO):∀(l:List dZ) (u:List bw),jq (x.aK L) l u=jq x l u
 | [],_=>rfl
 | y :: l,u=>by
  show(lu (x.aK L) u y).bind (jq (x.aK L) l)=(lu x u y).bind (jq x l);rw[aCF,show jq (x.aK L) l=jq x l from funext (N7 x L l)]
theorem zZ{x:ay}(p:aO→Bool)(L:Sl aO)(hL:L.l=x.links.l.filter p)(h:cW x=0):cW (x.aK L)=0:=by
 have hr:=nQ h;refine aF1 fun k hk=> ?_
 match k,hk with
 | 0,_=>
  have h0:mG x=true:=hr 0 oz;show mG (x.aK L)=true;unfold mG at h0 ⊢;simp only[Bool.and_eq_true]at h0 ⊢;obtain⟨⟨⟨⟨⟨⟨⟨a,b⟩,c⟩,d⟩,e⟩,f⟩,g⟩,i⟩:=h0;refine⟨⟨⟨⟨⟨⟨⟨a,b⟩,c⟩,?_⟩,e⟩,f⟩,g⟩,i⟩;show L.l.all xQ=true;rw[hL];exact List.all_eq_true.2 fun y hy=>List.all_eq_true.1 d y (List.mem_filter.1 hy).1
 | 1,_=>
  have h1:iV x=true:=hr 1 oz;show iV (x.aK L)=true;have hc:gi (x.aK L)=gi x:=rfl;unfold iV at h1 ⊢;rw[hc];simp only[Bool.and_eq_true]at h1 ⊢;obtain⟨a,⟨⟨⟨b,c⟩,d⟩,e⟩,f⟩:=h1;refine⟨a,⟨⟨⟨?_,c⟩,d⟩,?_⟩,f⟩
  ·unfold gU at b⊢
   simp only[Bool.and_eq_true,decide_eq_true_eq]at b ⊢;obtain⟨⟨⟨⟨⟨b1,b2⟩,b3⟩,b4⟩,b5⟩,b6⟩:=b;refine⟨⟨⟨⟨⟨b1,b2⟩,b3⟩,b4⟩,?_⟩,b6⟩;show((L.l.length:Nat):Int)≤32;have:L.l.length≤x.links.l.length:=by rw[hL];exact List.length_filter_le _ _
   omega
  ·show L.l.all ou=true
   rw[hL];exact List.all_eq_true.2 fun y hy=>List.all_eq_true.1 e y (List.mem_filter.1 hy).1
 | 2,_=>exact hr 2 oz
 | 3,_=>exact hr 3 oz
 | 4,_=>exact hr 4 oz
 | 5,_=>
  have h5:tC x=true:=hr 5 oz;show tC (x.aK L)=true;unfold tC at h5 ⊢;obtain⟨m,hm⟩:=Option.isSome_iff_exists.1 h5;obtain⟨m',Kw,_⟩:=tH p hm (fun _ h=>h);rw[show(x.aK L).links.l=x.links.l.filter p from hL,BD (x:=x) (d:=x.aK L) rfl rfl,Kw]
  rfl
 | 6,_=>
  have h6:oO x=true:=hr 6 oz;show oO (x.aK L)=true;unfold oO at h6 ⊢;rw[N7];exact h6
 | 7,_=>exact hr 7 oz
 | 8,_=>exact hr 8 oz
 | 9,_=>exact hr 9 oz
theorem yC(x:ay)(s:ByteArray):bg x s<((x.mods.l.length+x.aP.l.length:Nat):Int):=by
 have h1:=kO (fun y:bT=>seqB y.nm s) x.mods.l;have h2:=kO (fun y:iI=>seqB y.nm s) x.aP.l;unfold bg;split
 ·omega
 ·split
  ·omega
  ·omega
theorem Jm{x:ay}{s:ByteArray}(h:0≤iM x s):bg x s=iM x s:=if_pos h
theorem SI(x:ay)(s:ByteArray):iM x s<x.mods.l.length:=kO _ _
theorem Jo{x:ay}{r:bw}(h:¬(fD x r).2<0):0≤iM x r.m∧(fD x r).2=iM x r.m:=by
 unfold fD at h ⊢;split at h
 ·exact absurd dz h
 ·rename_i h1
  rw[if_neg h1];unfold mQ at h1 ⊢;split at h1
  ·rename_i h2
   rw[if_pos h2];split at h1
   ·rename_i h3
    rw[if_pos h3];split at h1
    ·rename_i h4
     rw[if_pos h4];exact⟨h2,rfl⟩
    ·exact absurd dz h1
   ·exact absurd dz h1
  ·exact absurd dz h1
theorem aCG{x:ay}{q:aM}{m:Int}{vl:Bool}{u v:List bw}{r:bw}(h:oN x q m vl u r=some v):¬(fD x r).2<0∧(!((fD x r).2==m))=vl∧¬r∈u∧v=u++ [r]:=by
 unfold oN at h;split at h
 ·cases h
 ·rename_i h1
  split at h
  ·cases h
  ·split at h
   ·cases h
   ·split at h
    ·cases h
    ·split at h
     ·cases h
     ·rename_i h5
      split at h
      ·cases h
      ·rename_i h6
       cases h
       exact⟨h1,Classical.byContradiction fun c=>h5 c,fun c=>h6 (nS.2 c),rfl⟩
theorem Oa{x:ay}{q:aM}{m:Int}{vl:Bool}:∀{l u v:List bw},jl x q m vl l u=some v→∀r∈l,¬(fD x r).2<0∧(!((fD x r).2==m))=vl
 | [],_,_,_,r,hr=>by cases hr
 | z :: t,u,v,h,r,hr=>by
  have h':(oN x q m vl u z).bind (jl x q m vl t)=some v:=h
  cases hz:oN x q m vl u z with
  | none=>rw[hz]at h';cases h'
  | some u'=>
   rw[hz]at h';rcases List.mem_cons.1 hr with rfl | hr
   ·have:=aCG hz;exact⟨this.1,this.2.1⟩
   ·exact Oa h' r hr
theorem aCH{x:ay}{u v:List bw}{y:dZ}(h:lu x u y=some v):¬(fD x y.src).2<0∧∀r∈y.dst.l,¬(fD x r).2<0∧(!((fD x r).2==(fD x y.src).2))=y.vl:=by
 unfold lu at h;split at h
 ·cases h
 ·rename_i h1
  split at h
  ·cases h
  ·split at h
   ·cases h
   ·exact⟨h1,Oa h⟩
theorem Ob{x:ay}:∀{l:List dZ} {u v:List bw},jq x l u=some v→∀y∈l,∃u' v',lu x u' y=some v'
 | [],_,_,_,y,hy=>by cases hy
 | z :: t,u,v,h,y,hy=>by
  have h':(lu x u z).bind (jq x t)=some v:=h
  cases hz:lu x u z with
  | none=>rw[hz]at h';cases h'
  | some u'=>
   rw[hz]at h';rcases List.mem_cons.1 hy with rfl | hy
   ·exact⟨u,u',hz⟩
   ·exact Ob h' y hy
theorem El{x:ay}(h:cW x=0){y:fU}(hy:y∈x.aF.l):0≤iM x y.src.m∧bg x y.src.m=iM x y.src.m∧∀r∈y.dst.l,0≤iM x r.m∧bg x r.m=iM x r.m∧¬iM x r.m=iM x y.src.m:=by
 have h6:oO x=true:=nQ h 6 oz;unfold oO at h6;obtain⟨v,hv⟩:=Option.isSome_iff_exists.1 h6;have iU:dZ.Pg y∈gi x:=List.mem_append_right _ (List.mem_map.2 ⟨y,hy,rfl⟩);obtain⟨u',v',hc⟩:=Ob hv _ iU;obtain⟨h1,h2⟩:=aCH hc;obtain⟨m1,m2⟩:=Jo (r:=y.src) h1;refine⟨m1,Jm m1,fun r hr=> ?_⟩;obtain⟨d1,d2⟩:=h2 r hr;obtain⟨n1,n2⟩:=Jo d1;refine⟨n1,Jm n1,fun e=> ?_⟩;have d3:(!((fD x r).2==(fD x y.src).2))=true:=d2;rw[n2,m2,e]at d3;simp at d3
theorem Jp{x:ay}(h:cW x=0){y:fU}(hy:y∈x.aF.l):0<y.dst.l.length∧y.dst.l.length≤8:=by
 have h0:mG x=true:=nQ h 0 oz;have h1:iV x=true:=nQ h 1 oz;unfold mG at h0;simp only[Bool.and_eq_true]at h0;have:=List.all_eq_true.1 h0.1.1.1.2 y hy;unfold iV at h1;simp only[Bool.and_eq_true]at h1;have h2:=List.all_eq_true.1 h1.1 (dZ.Pg y) (List.mem_append_right _ (List.mem_map.2 ⟨y,hy,rfl⟩));unfold Z9 sV at this;unfold iL at h2;simp only[Bool.and_eq_true,decide_eq_true_eq]at this h2;refine⟨?_,?_⟩
 ·have:=this.1.2;simp at this;omega
 ·have:((dZ.Pg y).dst.l.length:Int)≤8:=by simpa using h2
  have e:(dZ.Pg y).dst=y.dst:=rfl;rw[e]at this;omega
theorem Jq{x:ay}{net:Int}{src i:Nat}{y:aO}{e:aI}:e∈lC x net src i y↔y.net=net∧e.l=i∧((e.f=(bg x y.a).toNat∧e.t=(bg x y.b).toNat)∨(e.f=(bg x y.b).toNat∧e.t=(bg x y.a).toNat))∧(e.f=src∨x.mods.l.length≤e.f):=by
 obtain⟨f,t,l⟩:=e;unfold lC;split
 ·rename_i c
  simp only[List.mem_filter,List.mem_cons,List.not_mem_nil,or_false,Bool.or_eq_true,decide_eq_true_eq,aI.mk.injEq];constructor
  ·rintro⟨h | h,hs⟩
   ·exact⟨c,h.2.2,.inl ⟨h.1,h.2.1⟩,hs⟩
   ·exact⟨c,h.2.2,.inr ⟨h.1,h.2.1⟩,hs⟩
  ·rintro⟨_,rfl,h | h,hs⟩
   ·exact⟨.inl ⟨h.1,h.2,rfl⟩,hs⟩
   ·exact⟨.inr ⟨h.1,h.2,rfl⟩,hs⟩
 ·rename_i c
  simp[c]
theorem Em{x:ay}{net:Int}{src:Nat}{e:aI}:∀{l:List aO} {i:Nat},e∈dD x net src i l↔∃j,∃hj:j<l.length,e∈lC x net src (i+j) l[j]
 | [],i=>by simp[dD]
 | y :: r,i=>by
  rw[dD,List.mem_append,Em (l:=r) (i:=i+1)];constructor
  ·rintro(h | ⟨j,hj,h⟩)
   ·exact⟨0,qz,by simpa using h⟩
   ·exact⟨j+1,by simpa using hj,by rw[show i+(j+1)=i+1+j from by omega];simpa using h⟩
  ·rintro⟨j,hj,h⟩
   match j,hj,h with
   | 0,_,h=>exact .inl (by simpa using h)
   | j+1,hj,h=>exact .inr ⟨j,by simpa using hj,by rw[show i+1+j=i+(j+1)from by omega];simpa using h⟩
theorem oT{x:ay}{net:Int}{src:Nat}{e:aI}:e∈gj x net src↔∃hj:e.l<x.links.l.length,x.links.l[e.l].net=net∧((e.f=(bg x x.links.l[e.l].a).toNat∧e.t=(bg x x.links.l[e.l].b).toNat)∨(e.f=(bg x x.links.l[e.l].b).toNat∧e.t=(bg x x.links.l[e.l].a).toNat))∧(e.f=src∨x.mods.l.length≤e.f):=by
 unfold gj;rw[Em];constructor
 ·rintro⟨j,hj,h⟩
  rw[Jq]at h;obtain⟨h1,h2,h3,h4⟩:=h;have:e.l=j:=by omega
  subst this;exact⟨hj,h1,h3,h4⟩
 ·rintro⟨hj,h1,h3,h4⟩
  exact⟨e.l,hj,Jq.2 ⟨h1,oz,h3,h4⟩⟩
theorem qI{x:ay}(h:cW x=0)(net:Int)(src:Nat):∀e∈gj x net src,e.t<x.mods.l.length+x.aP.l.length∧e.f<x.mods.l.length+x.aP.l.length:=fun e he=>by
 obtain⟨hj,_,h3,_⟩:=oT.1 he;have hl:=zX h x.links.l[e.l] (List.getElem_mem hj);have ha:=yC x x.links.l[e.l].a;have hb:=yC x x.links.l[e.l].b;rcases h3 with h3 | h3<;>omega
abbrev ay.N(x:ay):Nat:=x.mods.l.length+x.aP.l.length
abbrev dX(x:ay)(y:fU):Nat:=(bg x y.src.m).toNat
def dW(x:ay)(net:Int)(y:fU):aQ:=bfs (gj x net (dX x y)) 12 (dX x y)
theorem En{x:ay}(h:cW x=0){y:fU}(hy:y∈x.aF.l):dX x y<x.mods.l.length∧dX x y<x.N:=by
 obtain⟨h1,h2,_⟩:=El h hy;have:=SI x y.src.m;unfold dX ay.N;rw[h2];omega
theorem Eo{x:ay}(h:cW x=0):x.N≤12:=by
 have:=jv h;unfold ay.N;omega
theorem jw{x:ay}(h:cW x=0)(net:Int){y:fU}(hy:y∈x.aF.l):aQ.Fin (gj x net (dX x y)) 12 (dX x y) (dW x net y):=
 aBZ (fun e he=>Nat.lt_of_lt_of_le (qI h net _ e he).1 (Eo h)) (Nat.lt_of_lt_of_le (En h hy).2 (Eo h))
def bV(x:ay)(y:fU):List Nat:=y.dst.l.map fun r=>(bg x r.m).toNat
theorem Ep{x:ay}(h:cW x=0){y:fU}(hy:y∈x.aF.l):∀m∈bV x y,m<x.mods.l.length∧m≠dX x y:=fun m hm=>by
 obtain⟨r,hr,rfl⟩:=List.mem_map.1 hm;obtain⟨h1,h2,h3⟩:=El h hy;obtain⟨d1,d2,d3⟩:=h3 r hr;have:=SI x r.m;unfold dX;rw[d2,h2];exact⟨oz,oz⟩
theorem Jr{x:ay}(h:cW x=0)(net:Int){y:fU}(hy:y∈x.aF.l)(hd:∀m∈bV x y,0≤(dW x net y).at m):∀m∈bV x y,0<(dW x net y).at m:=fun m hm=>by
 have h1:=hd m hm;have h2:=(Ep h hy m hm).2;have:(dW x net y).at m≠0:=fun c=>h2 (((jw h net hy).inv.zero m).1 c)
 omega
def ay.arr(x:ay):Array Value:= #[.slice x.mods.a x.mods.l.length x.mods.c,.slice x.aj.a x.aj.l.length x.aj.c,.slice x.aP.a x.aP.l.length x.aP.c,.slice x.links.a x.links.l.length x.links.c,.slice x.aF.a x.aF.l.length x.aF.c,.slice x.bQ.a x.bQ.l.length x.bQ.c,.slice x.causes.a x.causes.l.length x.causes.c,.slice x.aA.a x.aA.l.length x.aA.c]
structure Bg(w0 W:World)(x:ay)(base gc b mb nm:Nat)(D:DataW Value)(vf:Nat→Value)(F:Nat→List aI)(src n:Nat)(E:List aI):Prop where
 box:∃cs,sB W b mb (.slice none 0 0) src n (List.replicate 12 0) (List.replicate 12 aI.zero) cs
 cfg:ah W gc 31 x.arr
 e:uj W base mb nm D vf F
 f:∀k,k<12→F k=Ph E k
 lE:Below base w0 W
 sz:base≤W.heap.size
 hb:base≤b
section
variable {w0 W W':World} {x:ay} {base gc b mb nm:Nat} {D:DataW Value} {vf:Nat→Value} {F:Nat→List aI} {src n:Nat} {E:List aI}
theorem Bg.below(h:Bg w0 W x base gc b mb nm D vf F src n E)(hb:Below W.heap.size W W'):Bg w0 W' x base gc b mb nm D vf F src n E:=by
 obtain⟨cs,h1⟩:=h.box;exact⟨⟨cs,h1.move (h1.blk.below hb h1.blk.lt)⟩,h.cfg.below hb h.cfg.lt,h.e.below hb,h.f,h.lE.trans (hb.mono h.sz),nT h.sz hb.size,h.hb⟩
theorem Bg.same{E':List aI}(h:Bg w0 W x base gc b mb nm D vf F src n E)(hE:E'=E):Bg w0 W x base gc b mb nm D vf F src n E':=hE▸h
theorem Bg.search(h:Bg w0 W x base gc b mb nm D vf F src n E):yX w0 W base b mb nm D vf F src n ⟨List.replicate 12 0,List.replicate 12 aI.zero,[]⟩:=by
 obtain⟨cs,h1⟩:=h.box;exact⟨⟨⟨_,cs,h1,.inl ⟨rfl,rfl⟩⟩,h.hb⟩,h.e,h.lE,h.sz⟩
theorem Bg.reads(h:Bg w0 W x base gc b mb nm D vf F src n E):W.cell? ⟨b,1,none⟩=some (.map (some mb))∧W.cell? ⟨b,2,none⟩=some (.int .i64 src):=by
 obtain⟨cs,h1⟩:=h.box;exact⟨h1.k1,h1.k2⟩
theorem Bg.conf(h:Bg w0 W x base gc b mb nm D vf F src n E):W.cell? ⟨gc,0,none⟩=some (.slice x.mods.a x.mods.l.length x.mods.c)∧W.cell? ⟨gc,1,none⟩=some (.slice x.aj.a x.aj.l.length x.aj.c)∧W.cell? ⟨gc,2,none⟩=some (.slice x.aP.a x.aP.l.length x.aP.c)∧W.cell? ⟨gc,3,none⟩=some (.slice x.links.a x.links.l.length x.links.c)∧
 W.cell? ⟨gc,4,none⟩=some (.slice x.aF.a x.aF.l.length x.aF.c)∧W.cell? ⟨gc,5,none⟩=some (.slice x.bQ.a x.bQ.l.length x.bQ.c)∧W.cell? ⟨gc,6,none⟩=some (.slice x.causes.a x.causes.l.length x.causes.c)∧W.cell? ⟨gc,7,none⟩=some (.slice x.aA.a x.aA.l.length x.aA.c):=
 ⟨h.cfg.cell 0,h.cfg.cell 1,h.cfg.cell 2,h.cfg.cell 3,h.cfg.cell 4,h.cfg.cell 5,h.cfg.cell 6,h.cfg.cell 7⟩
theorem Bg.aKY(h:Bg w0 W x base gc b mb nm D vf F src n E){e:aI}(he:e.f<12):W.cell? ⟨b,1,none⟩=some (.map (some mb))∧(Instr.lookup 104 (.map (some mb)) (.int .i64 (e.f:Int)) false).run pG W= .ok (vf e.f) W:=
 ⟨h.reads.1,h.e.map.look (e.f:Int) (x9 e.f oz) (h.e.at_ e.f he)⟩
theorem Bg.looks(h:Bg w0 W x base gc b mb nm D vf F src n E){e:aI}(he:e.f<12):W.cell? ⟨b,1,none⟩=some (.map (some mb))∧(Instr.lookup 104 (.map (some mb)) (.int .i64 (e.f:Int)) false).run pG W= .ok (vf e.f) W:=h.aKY he
theorem Bg.looksAt{W1:World}(h:Bg w0 W x base gc b mb nm D vf F src n E){e:aI}(he:e.f<12)(hG:W.grownBy W1 (vf e.f).ownBlock):
 (W1.cell? ⟨b,1,none⟩=some (.map (some mb))∧(Instr.lookup 104 (.map (some mb)) (.int .i64 (e.f:Int)) false).run pG W1= .ok (vf e.f) W1)∧gT W1 mb nm D:=by
 have hg:Gr (fun k=>(vf e.f).ownBlock=some k) W W1:=Gr.eO hG (fun k e=>e);obtain⟨cs,h1⟩:=h.box;have h2:=h1.move (hg.blk h1.blk (aW (h.e.own e.f he) h1.blk dz));have h3:gT W1 mb nm D:=h.e.map.gr hg (fun hx=>by
  obtain⟨⟨es,clock,hm,_⟩,_⟩:=h.e.map;exact iQ (h.e.own e.f he) hm rfl hx)
 exact⟨⟨h2.k1,h3.look (e.f:Int) (x9 e.f oz) (h.e.at_ e.f he)⟩,h3⟩
theorem Yt(E:List aI)(e:aI)(k:Nat):Ph (E++ [e]) k=if k=e.f then Ph E k++ [e]else Ph E k:=by
 unfold Ph;rw[List.filter_append];by_cases c:k=e.f
 ·rw[if_pos c,List.filter_cons_of_pos (by simp[c])];rfl
 ·rw[if_neg c,List.filter_cons_of_neg (by simpa using fun h=>c h.symm)];simp
theorem Bg.add{W1 W2:World}{e:aI}{v:Value}{o:Obj}(h:Bg w0 W x base gc b mb nm D vf F src n E)(he:e.f<12)
 (hown:W1.ownsRow base 107 3 v ((F e.f).length+1) ((F e.f).flatMap aI.cells++e.cells)) (hG:(W.alloc o).grownBy W1 (vf e.f).ownBlock) (Gl:∀g,v.ownBlock=some g→(vf e.f).ownBlock=some g∨W.heap.size≤g)
 (hm:gT W2 mb (nm+1) (D.put (kE (e.f:Int)) (.held v))) (AX:W1.grownBy W2 (some mb)):Bg w0 W2 x base gc b mb (nm+1) (D.put (kE (e.f:Int)) (.held v)) (fun k=>if k=e.f then v else vf k) (aBW F e) src n (E++ [e]):=by
 have h0:=h.below (W':=W.alloc o) (bN);have hg:Gr (fun k=>(vf e.f).ownBlock=some k∨k=mb) (W.alloc o) W2:=(Gr.eO hG (fun k e=> .inl e)).trans' (Gr.eO (X:=(· =mb)) AX (fun k e=>by cases e;rfl)) (fun j _ e=> .inr e);have hne:∀{g:Nat} {t:TypeId} {cs:Array Value},ah (W.alloc o) g t cs→107≠t→¬((vf e.f).ownBlock=some g∨g=mb):=by
  intro g t cs hb ht hx;rcases hx with hx | hx
  ·exact aW (h0.e.own e.f he) hb ht hx
  ·obtain⟨⟨es,clock,h1,_⟩,_⟩:=h0.e.map
   subst hx;unfold ah at hb;rw[h1]at hb;cases hb
 obtain⟨cs,h1⟩:=h0.box;refine⟨⟨cs,h1.move (hg.blk h1.blk (hne h1.blk dz))⟩,hg.blk h0.cfg (hne h0.cfg dz),h.e.add he hown hG Gl hm AX,fun k hk=> ?_,?_,?_,h.hb⟩
 ·rw[Yt]
  unfold aBW;rw[h.f k hk]
 ·refine Ed h0.lE h0.sz hg fun k hk hx=> ?_
  rcases hx with hx | hx
  ·have:=((h0.e.own e.f he).lt k hx).1;omega
  ·have:=h0.e.hb;omega
 ·exact nT h0.sz hg.size
end
end
end Go.Proofs.YtmdgooofdmpcjaaGreatDoor
