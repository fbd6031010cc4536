import Derived.Test.YtmdgooofdmpcjaaGreatDoorY22
import Derived.Test.YtmdgooofdmpcjaaGreatDoorY0
set_option maxRecDepth 100000
set_option linter.unusedSimpArgs false
set_option linter.unusedVariables false
set_option linter.unusedSectionVars false
namespace Go.Proofs.YtmdgooofdmpcjaaGreatDoor
section
open Go.ChangeShapes Go.WideShapes Go.ChangeAt Go.RowKit
attribute [local go_sem] Oper.semAt_some
abbrev iE(net:Int):aO→Bool:=fun y=>decide (y.net=net)
theorem Tb{α:Type}(p:α→Bool):∀(l:List α) (i:Nat) (hi:i<l.length),p l[i]=true→lK p l ((l.take i).filter p).length=i
 | [],i,hi,_=>absurd hi qz
 | a :: l,0,hi,h=>by
  have h:p a=true:=h;unfold lK;rw[if_pos h];rfl
 | a :: l,i+1,hi,h=>by
  have h:p (l[i]'(by simpa using hi))=true:=h;have ih:=Tb p l i (by simpa using hi) h;rw[List.take_succ_cons];by_cases ha:p a=true
  ·rw[List.filter_cons_of_pos ha,List.length_cons]
   unfold lK;rw[if_pos ha];show lK p l _+1=i+1;rw[ih]
  ·rw[List.filter_cons_of_neg ha]
   unfold lK;rw[if_neg ha,ih]
section
variable {x:ay} {net:Int} {y:fU}
theorem Fc(L:Sl aO):dX (x.aK L) y=dX x y:=by
 unfold dX;rw[oR (x:=x) (d:=x.aK L) rfl rfl]
theorem Rq(L:Sl aO):bV (x.aK L) y=bV x y:=by
 unfold bV;congr 1
theorem OT(hc:cW x=0)(hy:y∈x.aF.l)(L:Sl aO)(hL:L.l=x.links.l.filter (iE net)):
 aQ.Ren (lK (iE net) x.links.l) (dW (x.aK L) net y) (dW x net y)∧aQ.Inv (gj (x.aK L) net (dX x y)) 12 (dX x y) (dW (x.aK L) net y):=by
 have hcd:cW (x.aK L)=0:=zZ _ L hL hc;have hfd:=jw hcd net (y:=y) hy;rw[Fc]at hfd;have hE:gj x net (dX x y)=(gj (x.aK L) net (dX x y)).map (aI.ren (lK (iE net) x.links.l)):=by
  unfold gj;rw[BA (x:=x) (d:=x.aK L) rfl rfl,show(x.aK L).links.l=x.links.l.filter (iE net)from hL];exact(rK x net (dX x y) x.links.l 0 0 (lK (iE net) x.links.l) (fun t=>by simp)).symm
 have hlt:∀e∈gj (x.aK L) net (dX x y),e.t<12:=fun e he=>by
  have h1:=qI hcd net (dX x y) e he;have h2:x.mods.l.length+x.aP.l.length≤12:=Eo hc;have h3:e.t<x.mods.l.length+x.aP.l.length:=h1.1;omega
 have hs:dX x y<12:=by
  have h1:=(En hc hy).2;have h2:=Eo hc;omega
 have hr:=aBU (f:=lK (iE net) x.links.l) (zV _ _) hlt hs;refine⟨?_,hfd.inv⟩;unfold dW;rw[Fc,hE];exact hr
theorem Rs(hc:cW x=0)(hy:y∈x.aF.l)(L:Sl aO)(hL:L.l=x.links.l.filter (iE net))(aJ:∀m∈bV x y,0≤(dW x net y).at m){R R':List aI}
 (hp:R.Perm (jj (dW x net y) (dX x y) (bV x y) [])) (ho:R.Pairwise (aI.before (dW x net y)))
 (hp':R'.Perm (jj (dW (x.aK L) net y) (dX x y) (bV x y) [])) (ho':R'.Pairwise (aI.before (dW (x.aK L) net y))):R=R'.map (aI.ren (lK (iE net) x.links.l)):=by
 obtain⟨hr,hi⟩:=OT hc hy L hL;have hat:∀m,(dW (x.aK L) net y).at m=(dW x net y).at m:=fun m=>by unfold aQ.at;rw[hr.d]
 have hh:=IV hr hi (bV x y) [] (fun m hm=>by rw[hat];exact aJ m hm);refine pU (r:=aI.before (dW x net y)) (fun a b h1 h2=>by unfold aI.before at h1 h2;omega) _ _ ?_ ho ?_
 ·refine hp.trans ?_
  have h3:jj (dW x net y) (dX x y) (bV x y) []=(jj (dW (x.aK L) net y) (dX x y) (bV x y) []).map (aI.ren (lK (iE net) x.links.l)):=hh;rw[h3];exact(hp'.map _).symm
 ·rw[List.pairwise_map]
  refine ho'.imp ?_;intro a b h;unfold aI.before at h ⊢;rw[hat,hat]at h;exact h
end
end
end Go.Proofs.YtmdgooofdmpcjaaGreatDoor
