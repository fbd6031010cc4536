import Derived.Test.YtmdgooofdmpcjaaGreatDoorY13
import Derived.Test.YtmdgooofdmpcjaaGreatDoorY22
import Derived.Test.YtmdgooofdmpcjaaGreatDoorY0
set_option maxRecDepth 100000
set_option linter.unusedSimpArgs false
set_option linter.unusedVariables false
set_option linter.unusedSectionVars false
open Go.Proofs.Tryz renaming prog → pG
namespace Go.Proofs.YtmdgooofdmpcjaaGreatDoor
section
open Go.ChangeShapes Go.WideShapes Go.ChangeAt Go.RowKit
attribute [local go_sem] Oper.semAt_some
theorem aLX:pG.underlying 58=some (.map 3 3):=by kernel_rfl
abbrev aEG:DataW Value:= .held (.int .i64 0)
def Ou(f:Nat→Int)(k:Nat)(v:Int):Nat→Int:=fun j=>if j=k then v else f j
theorem U8(f:Nat→Int)(k:Nat)(v:Int):Ou f k v k=v:=if_pos rfl
theorem Rc{f:Nat→Int}{k j:Nat}{v:Int}(h:j≠k):Ou f k v j=f j:=if_neg h
def lM(w:World)(b n:Nat)(f:Nat→Int):Prop:=∃D,gT w b n D∧∀k:Nat,k<1000→D.atKey (kE (k:Int)) aEG= .held (.int .i64 (f k))
theorem lM.made(w:World):lM (w.alloc (.map #[] 0)) w.heap.size 0 (fun _=>0):=⟨.map [],gT.made w,fun _ _=>rfl⟩
theorem lM.lt{w:World}{b n:Nat}{f:Nat→Int}(h:lM w b n f):b<w.heap.size:=by
 obtain⟨D,h1,_⟩:=h;exact h1.lt
theorem lM.gr{X:Nat→Prop}{w w':World}{b n:Nat}{f:Nat→Int}(h:lM w b n f)(hg:Gr X w w')(hb:¬X b):lM w' b n f:=by
 obtain⟨D,h1,h2⟩:=h;exact⟨D,h1.gr hg hb,h2⟩
theorem lM.below{w w':World}{b n:Nat}{f:Nat→Int}(h:lM w b n f)(hb:Below w.heap.size w w'):lM w' b n f:=h.gr (X:=fun _=>False) (Gr.ak hb) (fun e=>e)
theorem lM.cell{w:World}{b n:Nat}{f:Nat→Int}(h:lM w b n f){p:Addr}(v:Value)(hp:p.block≠b):lM (w.setCell p v) b n f:=h.gr (X:=(· =p.block)) (Gr.setCell _ _ _ rfl) (fun e=>hp e.symm)
theorem lM.grown{w w':World}{row:Option Nat}{b n:Nat}{f:Nat→Int}(h:lM w b n f)(hg:w.grownBy w' row)(hb:row≠some b):lM w' b n f:=h.gr (X:=fun k=>row=some k) (Gr.eO hg (fun _ e=>e)) hb
theorem lM.look{w:World}{b n:Nat}{f:Nat→Int}(h:lM w b n f)(k:Nat)(hk:k<1000):
 (Instr.lookup 58 (.map (some b)) (.int .i64 (k:Int)) false).run pG w= .ok (.int .i64 (f k)) w:=by
 obtain⟨D,h1,h2⟩:=h;obtain⟨v',ps,h3,h4⟩:=h1.1.lookup Uk aLX (z:= .int .i64 0) kz (show AZ (.int .i64 0)=some (aEG,[])from rfl) (zL k (x9 k hk));rw[h2 k hk]at h4
 cases h4
 exact h3
theorem lM.put{w:World}{b n:Nat}{f:Nat→Int}(h:lM w b n f)(hn:n<maxLen)(k:Nat)(hk:k<1000)(v:Int):
 ∃w',(Instr.mapUpdate 58 (.map (some b)) (.int .i64 (k:Int)) (.int .i64 v)).run pG w= .ok () w'∧lM w' b (n+1) (Ou f k v)∧w.grownBy w' (some b):=by
 obtain⟨D,h0,hD⟩:=h;obtain⟨w',h1,h2,h3⟩:=h0.1.update Uk aLX hn (zL k (x9 k hk)) (show AZ (.int .i64 v)=some (.held (.int .i64 v),[])from rfl);refine⟨w',h1,⟨D.put (kE k) (.held (.int .i64 v)),⟨h2,h0.2.put _ _⟩,fun j hj=> ?_⟩,h3⟩;by_cases e:j=k
 ·subst e
  rw[U8];exact Maps.atKey_put_same h0.2 (Uk.key (zL j (x9 j hk))) _ _
 ·rw[Rc e]
  exact(Maps.atKey_put_other (fun q=>e (Int.ofNat.inj (show(j:Int)=(k:Int)from by injection q))) _ _).trans (hD j hj)
theorem lM.own_ne{w:World}{b n:Nat}{f:Nat→Int}{base m e sz:Nat}{v:Value}{xs:List Value}(h:lM w b n f)(hv:w.ownsRow base e sz v m xs):v.ownBlock≠some b:=by
 obtain⟨D,⟨⟨es,clock,h1,_⟩,_⟩,_⟩:=h;exact iQ hv h1 rfl
section
variable {E:List aI} {N src:Nat} {s:aQ} {ms:List Nat} {R:List aI}
theorem Lf(h:aQ.Inv E N src s)(hr:jk E s src ms R)(Pm:∀m∈ms,0≤s.at m)(i:Nat)(hi:i<R.length):R[i]∈E∧0<s.at R[i].t∧0≤s.at R[i].f∧s.at R[i].t=s.at R[i].f+1:=by
 obtain⟨h1,h2⟩:=(qg.of h hr.ok Pm).1 R[i] (List.getElem_mem hi);obtain⟨p1,p2,p3,p4⟩:=aQ.kR h h1;rw[←h2]at p1 p3 p4;exact⟨p1,h1,p3,p4⟩
end
def jW(M src:Nat)(met:List Nat):List Nat:=(List.range M).filter fun m=>decide (m≠src)&&decide (m∈met)
theorem Lg{M src:Nat}{a b:List Nat}(h:∀m,m<M→m≠src→(m∈a↔m∈b)):jW M src a=jW M src b:=by
 unfold jW;apply List.filter_congr;intro m hm;have hm:m<M:=List.mem_range.1 hm;by_cases e:m=src
 ·simp[e]
 ·have:=h m hm e
  simp[e,this]
theorem Ov{M src:Nat}{R:List aI}{k:Nat}(hk:k<R.length){met:List Nat}(h:∀e∈R,e.t∈bU met R):jW M src (bU met (R++ [R[k]]))=jW M src (bU met R):=by
 apply Lg;intro m _ _;rw[lT];constructor
 ·intro hm
  rcases tW _ _ m hm with q | ⟨e,he,ht⟩
  ·exact q
  ·simp at he
   rw[←ht,he];exact h _ (List.getElem_mem hk)
 ·exact rD _ _ m
end
end Go.Proofs.YtmdgooofdmpcjaaGreatDoor
