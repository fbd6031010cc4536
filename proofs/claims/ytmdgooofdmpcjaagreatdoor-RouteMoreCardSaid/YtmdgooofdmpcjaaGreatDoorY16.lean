import Derived.Test.YtmdgooofdmpcjaaGreatDoorY15
set_option maxRecDepth 100000
set_option linter.unusedSimpArgs false
set_option linter.unusedVariables false
set_option linter.unusedSectionVars false
open List renaming filterMap_append->EV
namespace Go.Proofs.YtmdgooofdmpcjaaGreatDoor
section
open Go.ChangeShapes Go.WideShapes Go.ChangeAt Go.RowKit
attribute [local go_sem] Oper.semAt_some
def aKj:DA:=⟨⟨#[109,48]⟩,0,10,[⟨⟨#[112]⟩,10,1,0,[⟨⟨#[111]⟩,1,true,1,0,0⟩]⟩]⟩
def aKk:DA:=⟨⟨#[109,49]⟩,0,10,[⟨⟨#[112]⟩,10,1,0,[⟨⟨#[105]⟩,1,false,1,0,9⟩]⟩]⟩
def aKl:DA:=⟨⟨#[109,50]⟩,0,10,[⟨⟨#[112]⟩,10,1,0,[⟨⟨#[105]⟩,1,false,1,0,9⟩]⟩]⟩
def aKm:VlT:=⟨⟨#[118]⟩,⟨⟨#[109,48]⟩,⟨#[112]⟩,⟨#[111]⟩⟩,100,9,[⟨⟨#[109,49]⟩,⟨#[112]⟩,⟨#[105]⟩⟩,⟨⟨#[109,50]⟩,⟨#[112]⟩,⟨#[105]⟩⟩]⟩
def qm:List gF:= [.mo aKj,.mo aKk,.mo aKl,.vl aKm,.sw ⟨⟨#[115]⟩,0,0,9⟩,.sw ⟨⟨#[116]⟩,0,0,9⟩,.sw ⟨⟨#[117]⟩,0,0,9⟩,.sw ⟨⟨#[119]⟩,1,0,9⟩]
def Gu:List aO:= [⟨⟨#[109,48]⟩,⟨#[115]⟩,0,1⟩,⟨⟨#[115]⟩,⟨#[116]⟩,0,1⟩,⟨⟨#[115]⟩,⟨#[117]⟩,0,1⟩,⟨⟨#[116]⟩,⟨#[117]⟩,0,1⟩,⟨⟨#[117]⟩,⟨#[109,49]⟩,0,1⟩,⟨⟨#[116]⟩,⟨#[109,50]⟩,0,1⟩]
def Og:List aO:= [⟨⟨#[109,48]⟩,⟨#[115]⟩,0,1⟩,⟨⟨#[115]⟩,⟨#[116]⟩,0,1⟩,⟨⟨#[116]⟩,⟨#[117]⟩,0,1⟩,⟨⟨#[117]⟩,⟨#[109,49]⟩,0,1⟩,⟨⟨#[116]⟩,⟨#[109,50]⟩,0,1⟩]
def itC:List gF:=qm++Gu.map gF.ln
def itD:List gF:=qm++Og.map gF.ln
def txC:ByteArray:={data:=((((([109,111,100,117,108,101,32,109,48,32,109,101,109,32,48,32,102,114,97,109,101,32,49,48,32,123,32,112,97,114,116,32,112,32,112,101,114,105].append [111,100,32,49,48,32,108,101,110,103,116,104,32,49,32,109,101,109,32,48,32,123,32,111,117,116,32,111,32,115,97,109,112,108,105,110,103,32]).append ([115,105,122,101,32,49,32,114,101,102,114,101,115,104,32,48,59,32,125,32,125,32,109,111,100,117,108,101,32,109,49,32,109,101,109,32,48,32].append [102,114,97,109,101,32,49,48,32,123,32,112,97,114,116,32,112,32,112,101,114,105,111,100,32,49,48,32,108,101,110,103,116,104,32,49,32,109])).append (([101,109,32,48,32,123,32,105,110,32,105,32,115,97,109,112,108,105,110,103,32,115,105,122,101,32,49,32,114,101,102,114,101,115,104,32,57,59].append [32,125,32,125,32,109,111,100,117,108,101,32,109,50,32,109,101,109,32,48,32,102,114,97,109,101,32,49,48,32,123,32,112,97,114,116,32,112]).append ([32,112,101,114,105,111,100,32,49,48,32,108,101,110,103,116,104,32,49,32,109,101,109,32,48,32,123,32,105,110,32,105,32,115,97,109,112,108].append [105,110,103,32,115,105,122,101,32,49,32,114,101,102,114,101,115,104,32,57,59,32,125,32,125,32,118,108,32,118,32,102,114,111,109,32,109,48,46]))).append ((([112,46,111,32,98,97,103,32,49,48,48,32,109,97,120,32,57,32,116,111,32,109,49,46,112,46,105,44,32,109,50,46,112,46,105,59,32,115].append [119,105,116,99,104,32,115,32,110,101,116,32,97,32,100,101,108,97,121,32,48,32,115,116,111,114,101,32,57,59,32,115,119,105,116,99,104,32]).append ([116,32,110,101,116,32,97,32,100,101,108,97,121,32,48,32,115,116,111,114,101,32,57,59,32,115,119,105,116,99,104,32,117,32,110,101,116,32].append [97,32,100,101,108,97,121,32,48,32,115,116,111,114,101,32,57,59,32,115,119,105,116,99,104,32,119,32,110,101,116,32,98,32,100,101,108,97])).append (([121,32,48,32,115,116,111,114,101,32,57,59,32,108,105,110,107,32,109,48,32,115,32,110,101,116,32,97,32,115,108,111,119,32,49,59,32,108].append [105,110,107,32,115,32,116,32,110,101,116,32,97,32,115,108,111,119,32,49,59,32,108,105,110,107,32,115,32,117,32,110,101,116,32,97,32,115]).append ([108,111,119,32,49,59,32,108,105,110,107,32,116,32,117,32,110,101,116,32,97,32,115,108,111,119,32,49,59,32,108,105,110,107,32,117,32,109].append [49,32,110,101,116,32,97,32,115,108,111,119,32,49,59,32,108,105,110,107,32,116,32,109,50,32,110,101,116,32,97,32,115,108,111,119,32,49,59]))))).toArray}
def txD:ByteArray:={data:=((((([109,111,100,117,108,101,32,109,48,32,109,101,109,32,48,32,102,114,97,109,101,32,49,48,32,123,32,112,97,114,116,32,112,32,112,101].append [114,105,111,100,32,49,48,32,108,101,110,103,116,104,32,49,32,109,101,109,32,48,32,123,32,111,117,116,32,111,32,115,97,109,112,108,105]).append ([110,103,32,115,105,122,101,32,49,32,114,101,102,114,101,115,104,32,48,59,32,125,32,125,32,109,111,100,117,108,101,32,109,49,32,109].append [101,109,32,48,32,102,114,97,109,101,32,49,48,32,123,32,112,97,114,116,32,112,32,112,101,114,105,111,100,32,49,48,32,108,101,110,103])).append (([116,104,32,49,32,109,101,109,32,48,32,123,32,105,110,32,105,32,115,97,109,112,108,105,110,103,32,115,105,122,101,32,49,32,114,101].append [102,114,101,115,104,32,57,59,32,125,32,125,32,109,111,100,117,108,101,32,109,50,32,109,101,109,32,48,32,102,114,97,109,101,32,49,48]).append ([32,123,32,112,97,114,116,32,112,32,112,101,114,105,111,100,32,49,48,32,108,101,110,103,116,104,32,49,32,109,101,109,32,48,32,123,32].append [105,110,32,105,32,115,97,109,112,108,105,110,103,32,115,105,122,101,32,49,32,114,101,102,114,101,115,104,32,57,59,32,125,32,125,32,118]))).append ((([108,32,118,32,102,114,111,109,32,109,48,46,112,46,111,32,98,97,103,32,49,48,48,32,109,97,120,32,57,32,116,111,32,109,49,46].append [112,46,105,44,32,109,50,46,112,46,105,59,32,115,119,105,116,99,104,32,115,32,110,101,116,32,97,32,100,101,108,97,121,32,48,32,115]).append ([116,111,114,101,32,57,59,32,115,119,105,116,99,104,32,116,32,110,101,116,32,97,32,100,101,108,97,121,32,48,32,115,116,111,114,101,32].append [57,59,32,115,119,105,116,99,104,32,117,32,110,101,116,32,97,32,100,101,108,97,121,32,48,32,115,116,111,114,101,32,57,59,32,115,119])).append (([105,116,99,104,32,119,32,110,101,116,32,98,32,100,101,108,97,121,32,48,32,115,116,111,114,101,32,57,59,32,108,105,110,107,32,109].append [48,32,115,32,110,101,116,32,97,32,115,108,111,119,32,49,59,32,108,105,110,107,32,115,32,116,32,110,101,116,32,97,32,115,108,111,119]).append ([32,49,59,32,108,105,110,107,32,116,32,117,32,110,101,116,32,97,32,115,108,111,119,32,49,59,32,108,105,110,107,32,117,32,109,49,32].append [110,101,116,32,97,32,115,108,111,119,32,49,59,32,108,105,110,107,32,116,32,109,50,32,110,101,116,32,97,32,115,108,111,119,32,49,59]))))).toArray}
def tkC:List Tok:=(jG txC 1000 0 []).getD []
def tkD:List Tok:=(jG txD 1000 0 []).getD []
set_option maxRecDepth 100000
theorem aPH:jG txC 1000 0 []=some tkC:=by kernel_rfl
theorem aPI:jG txD 1000 0 []=some tkD:=by kernel_rfl
theorem aKp:qA tkC 0 itC=true:=by kernel_rfl
theorem aKq:qA tkD 0 itD=true:=by kernel_rfl
def exP(nm po:ByteArray)(out:Bool)(rf:Int)(A B:Option Addr)(c d:Nat):bT:=⟨nm,0,10,⟨A,c,[⟨⟨#[112]⟩,10,1,0,gN,0,0,gN,⟨B,d,[⟨po,1,out,1,0,rf⟩]⟩,gN⟩]⟩⟩
def exM(f:Nat->Option Addr)(g:Nat->Nat):List bT:= [exP ⟨#[109,48]⟩ ⟨#[111]⟩ true 0 (f 0) (f 1) (g 0) (g 1),exP ⟨#[109,49]⟩ ⟨#[105]⟩ false 9 (f 2) (f 3) (g 2) (g 3),exP ⟨#[109,50]⟩ ⟨#[105]⟩ false 9 (f 4) (f 5) (g 4) (g 5)]
def qp(f:Nat->Option Addr)(g:Nat->Nat):fU:=⟨⟨#[118]⟩,⟨⟨#[109,48]⟩,⟨#[112]⟩,⟨#[111]⟩⟩,100,9,⟨f 6,g 6,[⟨⟨#[109,49]⟩,⟨#[112]⟩,⟨#[105]⟩⟩,⟨⟨#[109,50]⟩,⟨#[112]⟩,⟨#[105]⟩⟩]⟩⟩
def exS:List iI:= [⟨⟨#[115]⟩,0,0,9⟩,⟨⟨#[116]⟩,0,0,9⟩,⟨⟨#[117]⟩,0,0,9⟩,⟨⟨#[119]⟩,1,0,9⟩]
def kT(f:Nat->Option Addr)(g:Nat->Nat)(L:List aO):ay:=⟨⟨f 7,g 7,exM f g⟩,gN,⟨f 8,g 8,exS⟩,⟨f 9,g 9,L⟩,⟨f 10,g 10,[qp f g]⟩,gN,gN,gN⟩
theorem yD{α β:Type}{R:α->β->Prop}{Y:List α}{x:β}{X:List β}(h:iC R Y (x :: X)):∃y Z,Y=y :: Z/\R y x/\iC R Z X:=by
 cases Y with
 | nil=>exact h.elim
 | cons y Z=>exact⟨y,Z,rfl,h.1,h.2⟩
theorem QO{α β:Type}{R:α->β->Prop}{Y:List α}(h:iC R Y []):Y= []:=by
 cases Y with
 | nil=>rfl
 | cons y Z=>exact h.elim
theorem YB{P:List aC}{t:qK}(h:iC aC.is P [t]):∃A c,P= [⟨t.nm,t.pe,t.le,t.mem,gN,0,0,gN,⟨A,c,t.aq⟩,gN⟩]:=by
 obtain⟨p,Z,rfl,⟨A,c,rfl⟩,h2⟩:=yD h;rw[QO h2];exact⟨A,c,rfl⟩
theorem SL{x:ay}(L:List aO)(h:x.IsT (qm++L.map gF.ln)):∃f g,x=kT f g L:=by
 obtain⟨⟨A7,c7,M⟩,ch,⟨A8,c8,S⟩,⟨A9,c9,K⟩,⟨A10,c10,V⟩,he,ca,ve⟩:=x;obtain⟨hm,hs,hl,hv,hch,hh,Sv,hve⟩:=h;simp only at hm hs hl hv hch hh Sv hve;have em:(qm++L.map gF.ln).filterMap gF.PI=qm.filterMap gF.PI:=by
  rw[EV,List.filterMap_map,show(gF.PI∘gF.ln)=λ_=>none from rfl];simp
 have es:(qm++L.map gF.ln).filterMap gF.Z5=qm.filterMap gF.Z5:=by
  rw[EV,List.filterMap_map,show(gF.Z5∘gF.ln)=λ_=>none from rfl];simp
 have ev:(qm++L.map gF.ln).filterMap gF.Z6=qm.filterMap gF.Z6:=by
  rw[EV,List.filterMap_map,show(gF.Z6∘gF.ln)=λ_=>none from rfl];simp
 have el:(qm++L.map gF.ln).filterMap gF.ln?=L:=by
  rw[EV,List.filterMap_map,show(gF.ln?∘gF.ln)=some from rfl,List.filterMap_some];rfl
 rw[em]at hm;rw[es]at hs;rw[ev]at hv;rw[el]at hl;have hs:S=exS:=hs;subst hs hl hch hh Sv hve;have yc:iC bT.is M [aKj,aKk,aKl]:=hm;have hv0:iC fU.is V [aKm]:=hv;clear hm hv;obtain⟨m0,M1,rfl,⟨A0,c0,P0,rfl,h0⟩,hm1⟩:=yD yc;obtain⟨m1,M2,rfl,⟨A2,c2,P2,rfl,h2⟩,Vq⟩:=yD hm1;obtain⟨m2,M3,rfl,⟨A4,c4,P4,rfl,h4⟩,hm3⟩:=yD Vq;obtain⟨A1,c1,rfl⟩:=YB (t:=⟨⟨#[112]⟩,10,1,0,[⟨⟨#[111]⟩,1,true,1,0,0⟩]⟩) h0;obtain⟨A3,c3,rfl⟩:=YB (t:=⟨⟨#[112]⟩,10,1,0,[⟨⟨#[105]⟩,1,false,1,0,9⟩]⟩) h2;obtain⟨A5,c5,rfl⟩:=YB (t:=⟨⟨#[112]⟩,10,1,0,[⟨⟨#[105]⟩,1,false,1,0,9⟩]⟩) h4;obtain⟨y,V1,rfl,⟨A6,c6,rfl⟩,Me⟩:=yD hv0;rw[QO hm3,QO Me];exact⟨λi=> [A0,A1,A2,A3,A4,A5,A6,A7,A8,A9,A10].getD i none,λi=> [c0,c1,c2,c3,c4,c5,c6,c7,c8,c9,c10].getD i 0,rfl⟩
section
variable (f:Nat->Option Addr) (g:Nat->Nat)
theorem K5:cW (kT f g Gu)=0:=by kernel_rfl
theorem SN:cW (kT f g Og)=0:=by kernel_rfl
def rtC:List aI:= [⟨0,3,0⟩,⟨3,4,1⟩,⟨3,5,2⟩,⟨5,1,4⟩,⟨4,2,5⟩]
def rtD:List aI:= [⟨0,3,0⟩,⟨3,4,1⟩,⟨4,2,4⟩,⟨4,5,2⟩,⟨5,1,3⟩]
theorem YC:mh (kT f g Gu) 0 (qp f g)= [0,3,3,1,2,2,-1]:=by kernel_rfl
theorem YD:mh (kT f g Og) 0 (qp f g)= [0,4,3,1,2,3,-1]:=by kernel_rfl
theorem Jt:bV (kT f g Gu) (qp f g)= [1,2]:=by kernel_rfl
theorem UW:bV (kT f g Og) (qp f g)= [1,2]:=by kernel_rfl
theorem aCQ:dX (kT f g Gu) (qp f g)=0:=by kernel_rfl
theorem aCR:dX (kT f g Og) (qp f g)=0:=by kernel_rfl
theorem aD6:(dW (kT f g Gu) 0 (qp f g)).d= [0,3,3,1,2,2,-1,-1,-1,-1,-1,-1]:=by kernel_rfl
theorem aD7:(dW (kT f g Og) 0 (qp f g)).d= [0,4,3,1,2,3,-1,-1,-1,-1,-1,-1]:=by kernel_rfl
theorem aGC:(dW (kT f g Gu) 1 (qp f g)).d= [0,-1,-1,-1,-1,-1,-1,-1,-1,-1,-1,-1]:=by kernel_rfl
theorem YE:jj (dW (kT f g Gu) 0 (qp f g)) 0 [1,2] []= [⟨5,1,4⟩,⟨3,5,2⟩,⟨0,3,0⟩,⟨4,2,5⟩,⟨3,4,1⟩]:=by kernel_rfl
theorem YF:jj (dW (kT f g Og) 0 (qp f g)) 0 [1,2] []= [⟨5,1,3⟩,⟨4,5,2⟩,⟨3,4,1⟩,⟨0,3,0⟩,⟨4,2,4⟩]:=by kernel_rfl
end
instance (s:aQ)(a b:aI):Decidable (aI.before s a b):=inferInstanceAs (Decidable (_\/_))
theorem yE(s:aQ)(a b:aI):aI.before s a b->¬aI.before s b a:=by
 unfold aI.before;omega
theorem Ju{s:aQ}{d:List Int}(hd:s.d=d){R:List aI}(h:R.Pairwise λa b=>d.getD a.t (-1)<d.getD b.t (-1)\/d.getD a.t (-1)=d.getD b.t (-1)/\a.t<b.t):R.Pairwise (aI.before s):=by
 subst hd;exact h
theorem UY(f:Nat->Option Addr)(g:Nat->Nat){R:List aI}(hp:R.Perm (jj (dW (kT f g Gu) 0 (qp f g)) 0 [1,2] []))(ho:R.Pairwise (aI.before (dW (kT f g Gu) 0 (qp f g)))):R=rtC:=by
 rw[YE]at hp;exact pU (yE _) _ _ (hp.trans dz) ho (Ju (aD6 f g) dz)
theorem UZ(f:Nat->Option Addr)(g:Nat->Nat){R:List aI}(hp:R.Perm (jj (dW (kT f g Og) 0 (qp f g)) 0 [1,2] []))(ho:R.Pairwise (aI.before (dW (kT f g Og) 0 (qp f g)))):R=rtD:=by
 rw[YF]at hp;exact pU (yE _) _ _ (hp.trans dz) ho (Ju (aD7 f g) dz)
