import Derived.Test.YtmdgooofdmpcjaaGreatDoorY22
import Derived.Test.YtmdgooofdmpcjaaGreatDoorY0
set_option maxRecDepth 100000
set_option linter.unusedSimpArgs false
set_option linter.unusedVariables false
set_option linter.unusedSectionVars false
namespace Go.Proofs.YtmdgooofdmpcjaaGreatDoor
section
open Go.ChangeShapes Go.WideShapes Go.ChangeAt Go.RowKit
attribute [local go_sem] Oper.semAt_some
structure iN(s:aQ)(cnt:List Int)(n:Nat)(E:List aI)(B:Nat):Prop where
 len:cnt.length=n
 lo:∀t,0≤cnt.getD t 0
 hi:∀t,cnt.getD t 0≤B
 met:∀e∈E,e.t<n→0≤s.at e.f→s.at e.t=s.at e.f+1→0<cnt.getD e.t 0
theorem iN.start(s:aQ)(n:Nat):iN s (List.replicate n 0) n [] 0:=by
 have h:∀t,(List.replicate n (0:Int)).getD t 0=0:=fun t=>by
  rw[List.getD_eq_getElem?_getD,List.getElem?_replicate];split<;>rfl
 exact⟨qz,fun t=>by rw[h];exact Int.le_refl _,fun t=>by rw[h];exact Int.le_refl _,fun e he=>absurd he qz⟩
section
variable {s:aQ} {cnt:List Int} {n B:Nat} {E:List aI}
theorem iN.mono(h:iN s cnt n E B){E':List aI}{B':Nat}(hB:B≤B')(hE:∀e∈E',e∈E∨¬(0≤s.at e.f∧s.at e.t=s.at e.f+1)):iN s cnt n E' B':=
 ⟨h.len,h.lo,fun t=>by have:=h.hi t;omega,fun e he ht h0 h1=>by
  rcases hE e he with k | k
  ·exact h.met e k ht h0 h1
  ·exact absurd ⟨h0,h1⟩ k⟩
theorem iN.mark(h:iN s cnt n E B){t:Nat}(ht:t<n){E':List aI}(hE:∀e∈E',e∈E∨e.t=t∨¬(0≤s.at e.f∧s.at e.t=s.at e.f+1)):iN s (cnt.set t (cnt.getD t 0+1)) n E' (B+1):=by
 have hg:∀j,(cnt.set t (cnt.getD t 0+1)).getD j 0=if j=t then cnt.getD t 0+1 else cnt.getD j 0:=fun j=>gQ _ _ _ _ _ (by rw[h.len];exact ht)
 have h1:=h.lo t;have h2:=h.hi t;refine⟨by simpa using h.len,fun j=> ?_,fun j=> ?_,fun e he hj h0 h1'=> ?_⟩
 ·rw[hg];split
  ·omega
  ·exact h.lo j
 ·rw[hg];split
  ·omega
  ·have:=h.hi j;omega
 ·rw[hg];split
  ·omega
  ·rename_i hne
   rcases hE e he with k | k | k
   ·exact h.met e k hj h0 h1'
   ·exact absurd k hne
   ·exact absurd ⟨h0,h1'⟩ k
end
theorem JF{x:ay}(hc:cW x=0)(net:Int){y:fU}(hy:y∈x.aF.l):(mh x net y).length=x.mods.l.length+x.aP.l.length:=by
 have h1:=(jw hc net hy).inv.len;have h2:=Eo hc;unfold mh;rw[List.length_take,h1];have h2:x.mods.l.length+x.aP.l.length≤12:=h2;omega
theorem Zg{x:ay}(hc:cW x=0)(net:Int){y:fU}(hy:y∈x.aF.l)(k:Nat)(hk:k<(mh x net y).length):(mh x net y)[k]=(dW x net y).at k:=by
 have h0:=JF hc net hy;unfold mh at hk ⊢;rw[List.getElem_take];unfold aQ.at;rw[List.getD_eq_getElem?_getD,List.getElem?_eq_getElem];rfl
theorem Vc{x:ay}(hc:cW x=0)(net:Int){y:fU}(hy:y∈x.aF.l){e:aI}(he:e∈gj x net (dX x y))(h0:0≤(dW x net y).at e.f):0≤(dW x net y).at e.t∧(dW x net y).at e.t≤(dW x net y).at e.f+1:=by
 have hF:=jw hc net hy;exact hF.inv.old e.f h0 (by rw[hF.q];simp) e he rfl
theorem Zh{x:ay}(hc:cW x=0)(net:Int){y:fU}(hy:y∈x.aF.l){cnt:List Int}{n B:Nat}(h:iN (dW x net y) cnt n (gj x net (dX x y)) B){k:Nat}(hk:k<n)(hp:0<(dW x net y).at k):0<cnt.getD k 0:=by
 obtain⟨e,he,ht,h0,h1,-⟩:=(jw hc net hy).inv.pos k hp;subst ht;exact h.met e he hk h0 h1
end
end Go.Proofs.YtmdgooofdmpcjaaGreatDoor
