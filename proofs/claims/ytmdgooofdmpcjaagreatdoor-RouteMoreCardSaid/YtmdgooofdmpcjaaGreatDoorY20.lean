import Derived.Test.YtmdgooofdmpcjaaGreatDoorY19
set_option maxRecDepth 100000
set_option linter.unusedSimpArgs false
set_option linter.unusedVariables false
set_option linter.unusedSectionVars false
open List renaming length_map->FD,mem_append->E2,mem_map->GR
namespace Go.Proofs.YtmdgooofdmpcjaaGreatDoor
section
open Go.ChangeShapes Go.WideShapes Go.ChangeAt Go.RowKit
attribute [local go_sem] Oper.semAt_some
def ay.nov(x:ay):ay:={x with aF:=⟨none,0,[]⟩}
theorem aLP{x:ay}{w:World}{B:Nat}(h:x.rd w B)(s:Sl fU)(h1:s.l.length<=s.c)(h2:s.c<=maxLen)(h3:mV w B s.a s.l):({x with aF:=s}:ay).rd w B:=
 ⟨h.AU,h.AV,h.mods,h.DZ,h.D1,h.aj,h.aBH,h.aBI,h.aP,h.D2,h.D3,h.links,h1,h2,h3,h.aBJ,h.aBK,h.bQ,h.CN,h.CO,h.causes,h.R9,h.Sb,h.aA⟩
section
variable {x x':ay} {w W V:World} {B b b2 k:Nat}
theorem aMY(ho:dA V b x'.fq){v:Value}{n:Nat}{xs:List Value}(hv:V.ownsRow b 44 7 v n xs)(hb:v.ownBlock=some b2)(hG:Gr (· =b2) V W):dA W b x'.nov.fq:=by
 have key:∀Q:List jK,(∀r∈Q,r∈x'.fq)->(∀r∈Q,r.t≠44)->dA W b Q:=λQ h1 h2 r hr=>
  cO (ho r (h1 r hr)) hG λj hj e=>Db (ho r (h1 r hr)) hv (h2 r hr) j hj (by rw[hb];exact congrArg some e.symm)
 refine(((((((dA.nil.app
  (key (aDT 67 4 bT.cells x'.mods :: x'.mods.l.flatMap bT.fq) (λr hr=> ?_) (λr hr=>aC3 (aD4 aFG r hr) dz))).app
  (key (aDT 78 4 gq.cells x'.aj :: x'.aj.l.flatMap gq.fq) (λr hr=> ?_) (λr hr=>aC3 (aD4 aEw r hr) dz))).app
  (key [aDT 87 4 iI.cells x'.aP] (λr hr=> ?_) (λr hr=>aC3 (aDn 87 rfl r hr) dz))).app
  (key [aDT 46 4 aO.cells x'.links] (λr hr=> ?_) (λr hr=>aC3 (aDn 46 rfl r hr) dz))).app
  (dA.one (World.ownsRow_nil _ _ _ _))).app
  (key [aDT 89 5 iK.cells x'.bQ] (λr hr=> ?_) (λr hr=>aC3 (aDn 89 rfl r hr) dz))).app
  (key (aDT 83 3 fC.cells x'.causes :: x'.causes.l.flatMap fC.fq) (λr hr=> ?_) (λr hr=>aC3 (aD4 aFT r hr) dz))).app
  (key [aDT 91 4 lF.cells x'.aA] (λr hr=> ?_) (λr hr=>aC3 (aDn 91 rfl r hr) dz))
 all_goals
  unfold ay.fq;simp only[E2];simp only[hr,true_or,or_true]
theorem aMt(her:x'.er=x.er)(hr:x.rd w B)(ho:dA W b x'.fq)(hV:Below W.heap.size W V)(hk:k<x'.aF.l.length)(ha:x'.aF.a=some ⟨b2,0,none⟩)(s:Sl bw)(h1:s.l.length<=s.c)(h2:s.c<=maxLen)(h3:jo V V.heap.size s.a s.l)(h4:∀o f,s.a≠some ⟨b2,o,f⟩):
 ({x' with aF:=⟨x'.aF.a,x'.aF.c,x'.aF.l.set k {x'.aF.l[k]with dst:=s}⟩}:ay).rd (V.setCell ⟨b2,k*7+6,none⟩ s.val) (V.setCell ⟨b2,k*7+6,none⟩ s.val).heap.size:=by
 have hoV:=ho.below hV;have hrv:V.ownsRow b 44 7 (.slice (some ⟨b2,0,none⟩) x'.aF.l.length x'.aF.c) x'.aF.l.length (x'.aF.l.flatMap fU.cells):=by
  rw[<-ha];exact hoV (aDT 44 7 fU.cells x'.aF) (by simp[ay.fq])
 obtain⟨V',hV'⟩:=ez (V.setCell ⟨b2,k*7+6,none⟩ s.val);have hG:Gr (· =b2) V V':=by rw[hV'];exact Gr.setCell _ _ _ rfl
 have hz:=aH2 x'.nov x.nov (congrArg ay.nov her) (aLP hr ⟨none,0,[]⟩ nZ (by unfold maxLen;exact Nat.zero_le _) (λhn=>absurd hn qz)) (aMY hoV hrv rfl hG);obtain⟨A,c,hv,k1,k2⟩:=bp hrv;injection hv with _ _ hc
 have hsz:V'.heap.size=V.heap.size:=by rw[hV'];simp[World.setCell]
 have qR:=(hrv.stored (k*7+6) s.val).1;rw[<-hV']at qR ⊢;have hlen:((x'.aF.l.flatMap fU.cells).set (k*7+6) s.val).length=x'.aF.l.length*7:=by rw[List.length_set,aD8 fU.cells 7 (λ_=>rfl)]
 refine aLP hz ⟨x'.aF.a,x'.aF.c,x'.aF.l.set k {x'.aF.l[k]with dst:=s}⟩ (by rw[List.length_set,hc];exact k1) (by rw[hc];exact k2) (aK7 (λhn=>⟨b2,0,ha,qR.lt b2 rfl |>.2,λi hi j u hj=> ?_⟩) λy hy=> ?_)
 .rw[List.length_set]at hi
  have hj7:j<7:=(List.getElem?_eq_some_iff.1 hj).1;rw[Nat.zero_add];refine(qR.cellAt (i*7+j) oz).trans ?_;rw[List.getElem?_set];by_cases hik:i=k
  .subst hik
   rw[List.getElem_set_self]at hj;by_cases h6:j=6
   .subst h6
    rw[if_pos rfl,if_pos (by rw[aD8 fU.cells 7 (λ_=>rfl)];omega)];exact hj
   .rw[if_neg oz,aS fU.cells 7 (λ_=>rfl) _ i j hk hj7]
    match j,h6,hj7 with
    | 0,_,_=>exact hj
    | 1,_,_=>exact hj
    | 2,_,_=>exact hj
    | 3,_,_=>exact hj
    | 4,_,_=>exact hj
    | 5,_,_=>exact hj
    | 6,h,_=>exact absurd rfl h
    | j+7,_,h=>omega
  .rw[List.getElem_set_ne oz]at hj
   rw[if_neg oz,aS fU.cells 7 (λ_=>rfl) _ i j hi hj7];exact hj
 .obtain⟨i,hi,rfl⟩:=List.getElem_of_mem hy
  rw[List.length_set]at hi;have hcell:∀b' o f,b'≠b2->V'.cell? ⟨b',o,f⟩=V.cell? ⟨b',o,f⟩:=λb' o f hne=>by rw[hV'];exact World.cell?_setCell_other _ _ _ _ (λe=>hne (congrArg Addr.block e).symm)
  by_cases hik:i=k
  .subst hik
   rw[List.getElem_set_self];refine⟨h1,h2,λhn=> ?_⟩;obtain⟨b3,o3,kq,qD,hc3⟩:=h3 hn;have hne:b3≠b2:=λe=>h4 o3 none (by rw[<-e];exact kq)
   exact⟨b3,o3,kq,by rw[hsz];exact qD,λj hj=>⟨(hcell _ _ _ hne).trans (hc3 j hj).1,(hcell _ _ _ hne).trans (hc3 j hj).2.1,(hcell _ _ _ hne).trans (hc3 j hj).2.2⟩⟩
  .rw[List.getElem_set_ne oz]
   have hm:x'.aF.l[i]∈x'.aF.l:=List.getElem_mem hi;have ho3:dA V b x'.aF.l[i].fq:=λr hr=>hoV r (by
    unfold ay.fq;simp only[E2,List.mem_cons,List.mem_flatMap];exact .inl (.inl (.inl (.inr (.inr ⟨_,hm,hr⟩)))))
   have ho4:dA V' b x'.aF.l[i].fq:=λr hr=>cO (ho3 r hr) hG λj hj e=>Db (ho3 r hr) hrv (aC3 (aIA _ r hr) dz) j hj (congrArg some e.symm)
   obtain⟨a0,b0,r0⟩:=aDj (e:=41) (E:=bw.cells) (sz:=3) (s:=x'.aF.l[i].dst) (λ_=>rfl) ho4 (List.mem_append_right _ (List.mem_cons_self ..));exact⟨a0,b0,aG0 r0⟩
end
theorem aMu{x x':ay}(her:x'.er=x.er)(hc:cW x=0){k:Nat}(hk:k<x.aF.l.length)(WH:k<x'.aF.l.length)(net:Int)(s:Sl bw)(q:Nat)(hs:s.l=x.aF.l[k].dst.l.eraseIdx q)(h0:0<s.l.length)(A:Option Addr)(c:Nat)(z:ay)
 (hz:z={x' with aF:=⟨A,c,x'.aF.l.set k {x'.aF.l[k]with dst:=s}⟩}):
 cW z=0/\∃hkz:k<z.aF.l.length,dW z net z.aF.l[k]=dW x net x.aF.l[k]/\dX z z.aF.l[k]=dX x x.aF.l[k]/\∀m∈bV z z.aF.l[k],m∈bV x x.aF.l[k]:=by
 have hc':cW x'=0:=by rw[<-aKn,her,aKn];exact hc
 have hye:x'.aF.l[k].er=x.aF.l[k].er:=by
  have e:x'.aF.l.map fU.er=x.aF.l.map fU.er:=by have e:=congrArg (λz:ay=>z.aF.l) her;exact e
  have e2:=congrArg (λz:List fU=>z[k]?) e;simpa [hk,WH]using e2
 have aX4:s.l.Sublist x'.aF.l[k].dst.l:=by
  have e:x'.aF.l[k].dst.l=x.aF.l[k].dst.l:=by have e:=congrArg (λz:fU=>z.dst.l) hye;exact e
  rw[e,hs];exact List.eraseIdx_sublist _ _
 have K2:x'.aF.l[k].src=x.aF.l[k].src:=by have e:=congrArg (λz:fU=>z.src) hye;exact e
 have hkz:k<z.aF.l.length:=by rw[hz];simpa using WH
 have hyz:z.aF.l[k]={x'.aF.l[k]with dst:=s}:=by subst hz;simp
 have hn:∀t,bg z t=bg x t:=λt=>by
  rw[<-aGB x t,<-her,aGB];subst hz;rfl
 have hl:z.links.l=x.links.l:=by
  have e:x'.links.l=x.links.l:=by have e:=congrArg (λz:ay=>z.links.l) her;exact e
  rw[<-e,hz]
 have hm:z.mods.l.length=x.mods.l.length:=by
  have e:(x'.mods.l.map bT.er).length=(x.mods.l.map bT.er).length:=by have e:=congrArg (λz:ay=>z.mods.l.length) her;exact e
  rw[FD,FD]at e;rw[<-e,hz]
 have KA:dX z z.aF.l[k]=dX x x.aF.l[k]:=by unfold dX;rw[hn,hyz,<-K2]
 refine⟨by rw[hz];exact aLF hc' WH s aX4 h0 _ rfl,hkz,?_,KA,λm iU=> ?_⟩
 .unfold dW;rw[KA,aGK hl hn hm]
 .unfold bV at iU⊢
  obtain⟨r,hr,rfl⟩:=GR.1 iU;rw[hyz]at hr;have e:x'.aF.l[k].dst.l=x.aF.l[k].dst.l:=by have e:=congrArg (λz:fU=>z.dst.l) hye;exact e
  exact GR.2 ⟨r,e▸aX4.mem hr,by rw[hn]⟩
theorem aH6{x x':ay}(her:x'.er=x.er)(h:∀r∈x.causes.l,r.x.n<=8796093021952):∀r∈x'.causes.l,r.x.n<=8796093021952:=λr hr=>by
 have e:x'.causes.l.map fC.er=x.causes.l.map fC.er:=by have e:=congrArg (λz:ay=>z.causes.l) her;exact e
 obtain⟨z,hz,_,e⟩:=aE2 e hr;have e2:r.x.n=z.x.n:=by have e:=congrArg (λz:fC=>z.x.n) e;exact e
 rw[e2];exact h z hz
