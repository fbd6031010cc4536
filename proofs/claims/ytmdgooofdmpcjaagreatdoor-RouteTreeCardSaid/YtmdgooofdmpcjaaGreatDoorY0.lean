import Derived.Test.YtmdgooofdmpcjaaGreatDoorProg
import Derived.WalkKit
import Derived.ProofKit
import Derived.OpenShut
import Derived.Deep.QuietTactic
import Derived.BigQuiet
import Derived.Lib.Hide
import Derived.WalkLawsBesides
import Derived.WalkSpells
import Derived.Shelf.Abstract
import Derived.Deep.RegionHeld3
import Derived.Deep.Draws
import Derived.Laws.Rows
import Derived.Deep.AppendLies
import Derived.Maps.AppendAt
import Derived.Laws.MakeOwn
import Derived.Laws.EntriesVeiled
import Derived.Deep.RegionLaw
import Derived.RangeFuncNested
import Derived.RangeFuncLeaves
import Derived.OwnWalkIn
import Derived.TacticsInMore
import Derived.LoopNIn
import Derived.LoopIn
import Derived.IntWalk
import Derived.ArgAppend
import Derived.Maps.OwnSet
import Derived.Maps.OwnIn
import Derived.KernelRfl
import Derived.Deep.Slices
import Derived.Deep.Fields
import Derived.ChangeSame
import Derived.Lib.SmallJoins
import Derived.Maps.RangeWalk
import Derived.DeepKeys4
set_option maxRecDepth 100000
set_option linter.unusedSimpArgs false
set_option linter.unusedVariables false
set_option linter.unusedSectionVars false
open Go.Proofs.Tryz renaming prog → pG
namespace Go.Proofs.YtmdgooofdmpcjaaGreatDoor
section
open Go.ChangeShapes Go.WideShapes Go.ChangeAt Go.RowKit
theorem kz{p:Prop}(h:p:=by kernel_rfl):p:=h
theorem az{p:Prop}(h:p:=by as_aux_lemma=>kernel_rfl):p:=h
theorem gz{p:Prop}(h:p:=by go_simp;first | done | with_reducible rfl):p:=h
theorem ez{α:Sort _}(a:α):∃b,b=a:=⟨a,rfl⟩
theorem oz{p:Prop}(h:p:=by omega):p:=h
theorem dz{p:Prop}(h:p:=by decide):p:=h
theorem qz{p:Prop}(h:p:=by simp):p:=h
theorem qo{p:Prop}(h:p:=by simp;omega):p:=h
theorem nL{n:Nat}:n≤n:=Nat.le_refl n
theorem nZ{n:Nat}:0≤n:=Nat.zero_le n
theorem nT{a b c:Nat}(h:a≤b)(k:b≤c):a≤c:=Nat.le_trans h k
theorem bN{w:World}{o:Obj}:Below w.heap.size w (w.alloc o):=(Below.refl _ _).alloc (Nat.le_refl _) _
theorem gE{α:Type}{a:Array α}{i:Nat}{b:α}(h:a[i]?=some b):∃h:i<a.size,a[i]=b:=Array.getElem?_eq_some_iff.1 h
theorem dT{p:Prop}[Decidable p](h:p):decide p=true:=decide_eq_true h
theorem dF{p:Prop}[Decidable p](h:¬p):decide p=false:=decide_eq_false h
theorem ai{a b:Prop}(h:a)(k:b):a∧b:=⟨h,k⟩
theorem lz{p:Prop}(h:p):RowKit.Hid p:=h
abbrev CU(f:FuncId)(a:Array Value)(w:World)(v:Value):Prop:=Calls pG f a w fun e w'=>e= .returned v∧Below w.heap.size w w'
theorem fT{a b:Bool}(h:a=b):Ending.returned (.bool a)= .returned (.bool b):=by rw[h]
theorem eT{k:IntKind}{a b:Int}(h:a=b):Ending.returned (.int k a)= .returned (.int k b):=by rw[h]
def ah(w:World)(g:Nat)(t:TypeId)(cs:Array Value):Prop:=w.heap[g]?=some (.cells cs t (0,0))
section
variable {w w':World} {g:Nat} {t:TypeId} {cs:Array Value}
theorem ah.lt(h:ah w g t cs):g<w.heap.size:=by
 rcases Nat.lt_or_ge g w.heap.size with hlt | JQ
 ·exact hlt
 ·unfold ah at h;rw[Array.getElem?_eq_none JQ]at h;cases h
theorem ah.cell(h:ah w g t cs)(i:Nat):w.cell? ⟨g,i,none⟩=cs[i]?:=cell_of_row w g i cs t (0,0) h
theorem ah.frozen(h:ah w g t cs)(i:Nat):w.frozen? ⟨g,i,none⟩=false:=by
 unfold ah at h;simp[World.frozen?,h]
theorem ah.new(w:World)(t:TypeId)(cs:Array Value):ah (w.alloc (.cells cs t)) w.heap.size t cs:=heap_alloc_new w _
theorem ah.drew(h:ah w g t cs):ah w.drew g t cs:=h
theorem ah.drewN(h:ah w g t cs)(n:Nat):ah (w.drewN n) g t cs:=h
theorem ah.alloc(h:ah w g t cs)(o:Obj):ah (w.alloc o) g t cs:=(Below.heap_alloc w o g h.lt).trans h
theorem ah.bX(h:ah w g t cs)(i:Nat)(u:Value):ah (w.setCell ⟨g,i,none⟩ u) g t (cs.setIfInBounds i u):=by
 unfold ah at h ⊢;simp[World.setCell,Array.getElem?_modify,h]
theorem ah.far(h:ah w g t cs){p:Addr}(hp:g≠p.block)(u:Value):ah (w.setCell p u) g t cs:=(Below.heap_setCell w p u g hp).trans h
theorem ah.below{B:Nat}(h:ah w g t cs)(hb:Below B w w')(hg:g<B):ah w' g t cs:=(hb.block g hg).trans h
theorem ah.grown{row:Option Nat}(h:ah w g t cs)(hb:w.grownBy w' row)(hg:some g≠row):ah w' g t cs:=(hb.block g h.lt hg).trans h
theorem ah.Fu{g':Nat}{t':TypeId}{cs':Array Value}(h:ah w g t cs)(h':ah w g' t' cs')(hne:t≠t'):g≠g':=by
 rintro rfl;unfold ah at h h';rw[h]at h';injection h' with h'
 injection h' with _ ht
 exact hne ht
theorem aW{base:Nat}{e:TypeId}{size n:Nat}{v:Value}{xs:List Value}(h:w.ownsRow base e size v n xs)(hg:ah w g t cs)(hne:e≠t):v.ownBlock≠some g:=by
 rcases h.2 with⟨rfl,_⟩ | ⟨g',cap,cur,rfl,_,hh,_⟩
 ·simp[Value.ownBlock]
 ·intro he
  have:g'=g:=by simpa [Value.ownBlock]using he
  subst this;exact ah.Fu (t:=e) hh hg hne rfl
end
def cV{α:Type}(p:α→Bool)(l:List α):Int:=match l.findIdx? p with | some i=>i | none=> -1
theorem nR{α:Type}{p:α→Bool}{l:List α}{k:Nat}(hk:k<l.length)(h:p l[k]=true)(aJ:∀j (h:j<l.length),j<k→p l[j]=false):cV p l=k:=by
 have:l.findIdx? p=some k:=by
  rw[List.findIdx?_eq_some_iff_getElem];exact⟨hk,h,fun j hj=>by simp[aJ j oz hj]⟩
 simp[cV,this]
theorem nM{α:Type}{p:α→Bool}{l:List α}(aJ:∀j (h:j<l.length),p l[j]=false):cV p l= -1:=by
 have:l.findIdx? p=none:=by
  rw[List.findIdx?_eq_none_iff];intro x hx;obtain⟨j,hj,rfl⟩:=List.getElem_of_mem hx;simp[aJ j hj]
 simp[cV,this]
theorem Pu{α:Type}(p:α→Bool)(l:List α):(∃k,∃h:k<l.length,cV p l=k∧l.find? p=some l[k]∧p l[k]=true)∨(cV p l= -1∧l.find? p=none):=by
 rcases hf:l.findIdx? p with _ | i
 ·refine .inr ⟨by simp[cV,hf],?_⟩
  rw[List.findIdx?_eq_none_iff]at hf;rw[List.find?_eq_none];intro x hx;simp[hf x hx]
 ·rw[List.findIdx?_eq_some_iff_getElem]at hf
  obtain⟨h1,h2,h3⟩:=hf;refine .inl ⟨i,h1,nR h1 h2 fun j hj CA=>by simpa using h3 j CA,?_,h2⟩;rw[List.find?_eq_some_iff_getElem];exact⟨h2,i,h1,rfl,fun j hj=>by simpa using h3 j hj⟩
theorem lU{α:Type}{p:α→Prop}{l:List α}{k:Nat}{hk:k<l.length}(aJ:∀j (h:j<l.length),j<k→p l[j])(h:p l[k]):∀j (h:j<l.length),j<k+1→p l[j]:=fun j hj hjk=>by
 by_cases e:j=k
 ·subst e;exact h
 ·exact aJ j hj oz
theorem qV(a:Addr)(n:Nat):(a.add n).block=a.block:=by unfold Addr.add;split<;>rfl
theorem Pv(a:Addr)(i j:Nat):(a.add i).add j=a.add (i+j):=by
 unfold Addr.add;by_cases hi:i=0<;>by_cases hj:j=0<;>simp[hi,hj,Nat.add_assoc]
def Reads(w:World)(B size:Nat)(A:Option Addr)(n:Nat)(xs:List Value):Prop:=
 xs.length=n*size∧(0<n→∃ad,A=some ad∧ad.block<B∧∀j u,xs[j]?=some u→w.cell? (ad.add j)=some u)
section
variable {w w':World} {B B' size n:Nat} {A:Option Addr} {xs:List Value}
theorem Reads.at_{k:Nat}(h:Reads w B 1 A n xs)(hk:k<n):∃ad u,A=some ad∧ad.block<B∧xs[k]?=some u∧w.cell? (ad.add k)=some u:=by
 obtain⟨ad,e,hb,hc⟩:=h.2 oz;have hl:k<xs.length:=by have:=h.1;omega
 exact⟨ad,xs[k],e,hb,List.getElem?_eq_getElem hl,hc k _ (List.getElem?_eq_getElem hl)⟩
theorem Reads.keep(h:Reads w B size A n xs)(hk:∀p:Addr,p.block<B→w'.cell? p=w.cell? p):Reads w' B size A n xs:=
 ⟨h.1,fun hn=>by
  obtain⟨ad,e,hb,hc⟩:=h.2 hn;exact⟨ad,e,hb,fun j u hu=>(hk _ (by rw[qV];exact hb)).trans (hc j u hu)⟩⟩
theorem Reads.more(h:Reads w B size A n xs)(hB:B≤B'):Reads w B' size A n xs:=
 ⟨h.1,fun hn=>by
  obtain⟨ad,e,hb,hc⟩:=h.2 hn;exact⟨ad,e,oz,hc⟩⟩
theorem Reads.below(h:Reads w B size A n xs)(hb:Below B w w'):Reads w' B size A n xs:=h.keep fun _ hp=>hb.cell hp
theorem Reads.drew(h:Reads w B size A n xs):Reads w.drew B size A n xs:=h
theorem Reads.drewN(h:Reads w B size A n xs)(k:Nat):Reads (w.drewN k) B size A n xs:=h
theorem Reads.alloc(h:Reads w B size A n xs)(hB:B≤w.heap.size)(o:Obj):Reads (w.alloc o) B size A n xs:=h.keep fun p hp=>World.cell?_alloc_lt w o p oz
theorem Reads.setCell(h:Reads w B size A n xs){p:Addr}(hB:B≤p.block)(u:Value):Reads (w.setCell p u) B size A n xs:=
 h.keep fun q hq=>World.cell?_setCell_other w p q u (fun e=>by subst e;omega)
theorem Reads.grown(h:Reads w B size A n xs){row:Option Nat}(hg:w.grownBy w' row)(hB:B≤w.heap.size)(hr:∀g,row=some g→B≤g):Reads w' B size A n xs:=
 h.keep fun p hp=>World.cell?_of_block (hg.block p.block oz (fun e=>by have:=hr _ e.symm;omega))
theorem Reads.cut(h:Reads w B size A n xs){k cap:Nat}(hk:k≤n)(hc:n≤cap):
 Reads w B size (if cap=k then A else A.map (·.add (k*size))) (n-k) (xs.drop (k*size)):=by
 refine⟨by rw[List.length_drop,h.1,Nat.sub_mul],fun hn=> ?_⟩;obtain⟨ad,rfl,hb,hcell⟩:=h.2 oz;rw[if_neg oz];refine⟨ad.add (k*size),rfl,by rw[qV];exact hb,fun j u hu=> ?_⟩;rw[Pv];exact hcell _ u (by rw[←hu,List.getElem?_drop])
theorem Reads.Pw{base:Nat}{e:TypeId}{c:Nat}(h:w.ownsRow base e size (.slice A n c) n xs):Reads w w.heap.size size A n xs:=by
 refine⟨h.1,fun hn=> ?_⟩;obtain⟨g,cap,hv,_,hlt⟩:=h.form hn;have hA:A=some ⟨g,0,none⟩:=by injection hv
 subst hA;exact⟨_,rfl,hlt,h.cells (g:=g) rfl⟩
end
section
variable {P:Program} (w:World)
theorem wN(base:Nat)(t ty e:TypeId)(i:TypeInfo)(size:Nat)(ht:P.underlying t=some (.slice e))(hi:P.info? e=some i)
 (v:Value) (n:Nat) (xs:List Value) (hown:w.ownsRow base e size v n xs) (c:Nat):(Builtin.append_ #[t,t] ty #[v,.slice none 0 c]).run P w= .ok v w:=by
 rcases hown.2 with⟨rfl,rfl⟩ | ⟨g,cap,cur,rfl,_,_,hnc,_⟩
 ·simp[Builtin.append_,run_underlying ht,sizeOf,typeInfo,hi,Builtin.lenOf,Builtin.firstCells]
 ·simp[Builtin.append_,run_underlying ht,sizeOf,typeInfo,hi,Builtin.lenOf,Builtin.firstCells,hnc,storeCells]
theorem Dn(base:Nat)(t ty e:TypeId)(i:TypeInfo)(z:Value)(size bytes:Nat)(ht:P.underlying t=some (.slice e))(hi:P.info? e=some i)(hz:i.zero=some z)
 (hsize:i.size=size) (hby:i.bytes=bytes) (hzs:z.cells.size=size) (hsz:0<size)
 (v:Value) (n:Nat) (xs:List Value) (hown:w.ownsRow base e size v n xs)
 (B:Nat) (A:Option Addr) (m c:Nat) (news:List Value) (hr:Reads w B size A m news) (h1:∀u∈news,u.oneCell'=true)
 (h63:n+m≤maxLen) (hbytes:(n+m)*bytes≤140737488355328) (hbase:base≤w.heap.size):
 ∃v' w',(Builtin.append_ #[t,t] ty #[v,.slice A m c]).run P w= .ok v' w'∧w'.ownsRow base e size v' (n+m) (xs++news)∧w.grownBy w' v.ownBlock∧
  (v'.ownBlock=v.ownBlock∨v'.ownBlock=some w.heap.size):=by
 rcases A with _ | ad
 ·have hm:m=0:=by
   rcases Nat.eq_zero_or_pos m with h0 | h0
   ·exact h0
   ·obtain⟨ad,h,_⟩:=hr.2 h0
    cases h
  subst hm;have hn:news= []:=List.eq_nil_of_length_eq_zero (by simpa using hr.1);subst hn;exact⟨v,w,wN w base t ty e i size ht hi v n xs hown c,by simpa using hown,World.grownBy.refl w _,.inl rfl⟩
 ·have je:∀j u,news[j]?=some u→w.cell? (ad.add j)=some u:=by
   intro j u hu;rcases Nat.eq_zero_or_pos m with h0 | h0
   ·subst h0
    have hn:news= []:=List.eq_nil_of_length_eq_zero (by simpa using hr.1);subst hn;simp at hu
   ·obtain⟨ad',h,_,hc⟩:=hr.2 h0
    injection h with h
    subst h;exact hc j u hu
  obtain⟨v',w',hrun,h2,h3,_,h5⟩:=run_append_own_at (P:=P) w base t ty e i z size bytes ht hi hz hsize hby hzs hsz v n xs hown ad m c news hr.1 je h1 h63 hbytes hbase;exact⟨v',w',hrun,h2,h3,h5⟩
theorem uw{o:Oper}{a:Act}{K:Act→World→Prop}{Q:Exit→Act→World→Prop}(s x:Operand)(t:TypeId)
 (ho:o.op= .call {callee:= .builtin .append,args:= #[s,x],argTypes:= #[t,t]})
 (base:Nat) (e:TypeId) (i:TypeInfo) (z:Value) (size bytes:Nat) (ht:P.underlying t=some (.slice e)) (hi:P.info? e=some i) (hz:i.zero=some z)
 (hsize:i.size=size) (hby:i.bytes=bytes) (hzs:z.cells.size=size) (hsz:0<size)
 (v:Value) (n:Nat) (xs:List Value) (hs:a.eval s=v) (hown:w.ownsRow base e size v n xs)
 (B:Nat) (A:Option Addr) (m c:Nat) (news:List Value) (hx:a.eval x= .slice A m c) (hr:Reads w B size A m news) (h1:∀u∈news,u.oneCell'=true)
 (h63:n+m≤maxLen) (hbytes:(n+m)*bytes≤140737488355328) (hbase:base≤w.heap.size)
 (h:∀v' w',w'.ownsRow base e size v' (n+m) (xs++news)→w.grownBy w' v.ownBlock→(v'.ownBlock=v.ownBlock∨v'.ownBlock=some w.heap.size)→K (a.put o.dst v') w'):o.wp P a w K Q:=by
 obtain⟨v',w',hrun,h2,h3,h4⟩:=Dn (P:=P) w base t o.type e i z size bytes ht hi hz hsize hby hzs hsz v n xs hown B A m c news hr h1 h63 hbytes hbase;unfold Oper.wp execOp;simp only[ho,resolve,invoke,builtin,Sem.run_bind,Sem.run_pure,Result.andThen_ok,List.map_toArray,List.map_cons,List.map_nil,hs,hx,hrun];exact h v' w' h2 h3 h4
theorem wO{ops:Array Oper}{rest:List Oper}{o:Oper}{a:Act}{Q:Exit→Act→World→Prop}(hgd:o.guard=none)(s x:Operand)(t:TypeId)
 (ho:o.op= .call {callee:= .builtin .append,args:= #[s,x],argTypes:= #[t,t]})
 (base:Nat) (e:TypeId) (i:TypeInfo) (z:Value) (size bytes:Nat) (ht:P.underlying t=some (.slice e)) (hi:P.info? e=some i) (hz:i.zero=some z)
 (hsize:i.size=size) (hby:i.bytes=bytes) (hzs:z.cells.size=size) (hsz:0<size)
 (v:Value) (n:Nat) (xs:List Value) (hs:a.eval s=v) (hown:w.ownsRow base e size v n xs)
 (B:Nat) (A:Option Addr) (m c:Nat) (news:List Value) (hx:a.eval x= .slice A m c) (hr:Reads w B size A m news) (h1:∀u∈news,u.oneCell'=true)
 (h63:n+m≤maxLen) (hbytes:(n+m)*bytes≤140737488355328) (hbase:base≤w.heap.size)
 (h:∀v' w',w'.ownsRow base e size v' (n+m) (xs++news)→w.grownBy w' v.ownBlock→(v'.ownBlock=v.ownBlock∨v'.ownBlock=some w.heap.size)→wpList P ops Q rest (a.put o.dst v') w'):wpList P ops Q (o :: rest) a w:=
 wpList_plain hgd fun _ hK=>uw w s x t ho base e i z size bytes ht hi hz hsize hby hzs hsz v n xs hs hown B A m c news hx hr h1 h63 hbytes hbase fun v' w' h2 h3 h4=>hK _ _ (h v' w' h2 h3 h4)
end
theorem ux{a w:World}(h:Below a.heap.size a w)(row:Option Nat):a.grownBy w row:=⟨h.os,h.tape,h.output,h.size,fun i hi _=>h.block i hi⟩
structure Ext(w0:World) where
 w:World
 h:Below w0.heap.size w0 w
instance (w0:World):Nonempty (Ext w0):=⟨⟨w0,Below.refl _ _⟩⟩
theorem bn(w0:World):∀(x:Ext w0) b o,b<w0.heap.size→x.w.cell? ⟨b,o,none⟩=w0.cell? ⟨b,o,none⟩:=fun x b o hb=>x.h.cell (p:=⟨b,o,none⟩) hb
theorem aB{P:Program}{id:Nat}{Q:Exit→Act→World→Prop}{a:Act}{w:World}{l:List Oper}(hm:P.follows .mixedOrders=true)(hB:Region.lexB .any l.toArray=true)
 (h:wpQuiet P l.toArray (fun w'=>∃x:Ext w,w'=x.w) (fun a'=>∀w',(∃x:Ext w,w'=x.w)→Q .normal a' w') l a):(Code.region id l.toArray true).wp P Q a w:=
 wp_region_quiet (C:=fun w'=>∃x:Ext w,w'=x.w) hm hB ⟨⟨w.drew,(Below.refl _ _).drew⟩,rfl⟩ (by simpa using h)
theorem dN{P:Program}{f:FuncId}{args:Array Value}{w0:World}{x:Ext w0}{v:Value}(h:Calls P f args x.w fun e w'=>e= .returned v∧Below x.w.heap.size x.w w'):
 Calls P f args x.w fun e w''=>e= .returned v∧∃y:Ext w0,w''=y.w:=
 h.mono fun _ w' ⟨he,hb⟩=>⟨he,⟨w',x.h.trans (hb.mono x.h.size)⟩,rfl⟩
attribute [local go_sem] Oper.semAt_some
theorem tP{P:Program}{f n:Nat}{args:Array Value}{w:World}{R R':Ending→World→Prop}(h:Calls P f args w R)(hm:∀e w',R e w'→R' e w'):Fence.wide.fn f∧CallsIn Fence.wide n P f args w R':=
 ⟨trivial,(callsIn_wide.2 h).mono hm⟩
theorem jS{P:Program}{f n l:Nat}{args:Array Value}{w:World}{R R':Ending→World→Prop}(h:Calls P f args w R)(hm:∀e w',R e w'→R' e w'):(Fence.wide.inRound l).fn f∧CallsIn (Fence.wide.inRound l) n P f args w R':=
 ⟨trivial,CallsIn.inRound l ((callsIn_wide.2 h).mono hm)⟩
theorem Mu{β:Type}(B g:Nat)(t:TypeId)(cs:Array Value):OwnFrom B (fun(_:β) W=>ah W g t cs):=fun _ X _ _ hs hg hr=>
 (hg.block g hs.lt (fun e=>by obtain⟨_,o,ho,hc⟩:=hr g e.symm;rw[show X.heap[g]?=_ from hs]at ho;cases ho;cases hc)).trans hs
structure Shut(B:Nat)(W W':World):Prop where
 below:Below B W W'
 cells:∀(k:Nat) (o:Obj),W.heap[k]?=some o→o.isCells=true→W'.heap[k]?=some o
 size:W.heap.size≤W'.heap.size
def sM(D:Nat):Deferred:={target:= .collected D,args:= #[]}
theorem bP{F:Fence}{n:Nat}{P:Program}{fn:Func}{tmps:Array Value}{R:Ending→World→Prop}:∀(Ds:List Nat) (W:World) (B:Nat),Ds.Nodup→(∀D∈Ds,B≤D∧W.heap[D]?=some (.deferred (some [])))→
 (∀W',Shut B W W'→LeavesIn F n P fn tmps R [] .returning W')→LeavesInM F n P fn tmps R (Ds.map sM) .returning W
 | [],W,B,_,_,h=>h W ⟨Below.refl _ _,fun _ _ hk _=>hk,nL⟩
 | D :: Ds,W,B,hn,hm,h=>by
  obtain⟨hD,hn'⟩:=List.nodup_cons.1 hn;obtain⟨hB,hW⟩:=hm D qz;refine⟨qz,.inl ⟨D,_,rfl,run_takeDeferred hW,?_⟩⟩;refine bP Ds _ B hn' (fun E hE=>⟨(hm E (by simp[hE])).1,(World.putObj_heap_other (by rintro rfl;exact hD hE)).trans (hm E (by simp[hE])).2⟩) fun W' hS=>h W' ?_
  refine⟨?_,fun k o hk hc=>hS.cells k o ((World.putObj_heap_other (fun e=> ?_)).trans hk) hc,?_⟩
  ·exact((Below.refl B W).grown (grownBy_putObj' W D (.deferred none)) (by have:=(gE hW).1;omega) (fun k e=>by cases e;omega)).trans hS.below
  ·subst e;rw[hW]at hk;cases hk;cases hc
  ·have:=hS.size;simpa using this
theorem Ip{W:World}{base n:Nat}{t:TypeId}{size:Nat}{v:Value}{xs:List Value}(h:W.ownsRow base t size v n xs)(j:Nat)(o:Obj)(hj:v.ownBlock=some j)(ho:W.heap[j]?=some o):o.isCells=true:=by
 rcases h.2 with⟨rfl,_⟩ | ⟨g,cap,cur,rfl,_,hh,_⟩
 ·cases hj
 ·have:g=j:=by simpa [Value.ownBlock]using hj
  subst this;rw[hh]at ho;cases ho;rfl
theorem gL{W W':World}{row:Option Nat}(h:Below W.heap.size W W'):W.grownBy W' row:=⟨h.os,h.tape,h.output,h.size,fun k hk _=>h.block k hk⟩
end
section
open Go.ChangeShapes Go.WideShapes Go.ChangeAt Go.RowKit Go.Deep
section
variable {H:Type} {enc:TypeId×Value→H} {P:Program}
theorem uy(hl:laidOutB P=true){W W':World}{sp:Nat→Bool}:∀(ts:List TypeId) (vs:List Value) (ds:List (DataW H)) (ps:List MemPlace),(∀t∈ts,P.readableRec t=true∧t<P.types.size)→
 DataW.TrodAll enc P W 0 (fun _=>true) true ts vs ds ps→(∀p∈ps,W.sameAt W' p)→(∀p∈ps,sp p.block=true)→DataW.TrodAll enc P W' 0 sp true ts vs ds ps
 | [],[],[],_,_,h,_,_=>h
 | t :: ts,v :: vs,d :: ds,ps,hr,h,hs,Fv=>by
  obtain⟨p,q,hp,hq,rfl⟩:=h;have ht:=hr t qz;exact⟨p,q,WideElems.Trod_stays hl ht.1 ht.2 hp (fun x hx=>hs x (by simp[hx])) (fun x hx=>Fv x (by simp[hx])),
   uy hl ts vs ds q (fun u hu=>hr u (by simp[hu])) hq (fun x hx=>hs x (by simp[hx])) (fun x hx=>Fv x (by simp[hx])),rfl⟩
 | [],_ :: _,_,_,_,h,_,_=>by cases h
 | [],[],_ :: _,_,_,h,_,_=>by cases h
 | _ :: _,[],_,_,_,h,_,_=>by cases h
 | _ :: _,_ :: _,[],_,_,h,_,_=>by cases h
theorem FI{f:Func}{s:ChangeSpec}{apart fresh handsOn again:Bool}{W W':World}{args:Array Value}{v:Value}{ds gs:List (DataW H)}{before pa pv:List MemPlace}
 (hW:DataW.Whole enc P f.params.toList s.vars apart W args.toList ds gs before)
 (aAd:∀(b:Nat) (sp:Nat→Bool) (hd:Bool),DataW.TrodAll enc P W' b sp hd f.resultTypes.toList (v.resultList f.resultTypes.size) (s.fn H (ds++gs)).results [])
 (Mt:∀sp:Nat→Bool,(∀p∈before,sp p.block=true)→DataW.TrodAll enc P W' 0 sp true f.params.toList args.toList (s.fn H (ds++gs)).args pa)
 (aDH:∀sp:Nat→Bool,(∀p∈before,sp p.block=true)→DataW.TrodVars enc P W' sp s.vars (s.fn H (ds++gs)).vars pv)
 (BX:before=pa++pv) (hb:Below W.heap.size W W')
 (Fw:∀(j:Nat) (t:TypeId) (r:Value),f.resultTypes[j]?=some t→(v.resultList f.resultTypes.size)[j]?=some r→Value.okWide P W' .any 0 t r):
 s.post enc P f apart fresh handsOn again W args v W':=by
 have hlt:∀p∈before,p.block<W.heap.size:=fun p hp=>hW.lt p hp
 have hold:∀p∈before,(fun b=>decide (b<W.heap.size)) p.block=true:=fun p hp=>by simpa using hlt p hp
 refine⟨ds,gs,before,[],pa,pv,hW,aAd _ _ _,Mt _ hold,aDH _ hold,World.keptBut_mono (fun p hp=>⟨hp,?_⟩) (hb.frame (· ∈before)),fun _=> ?_⟩
 ·rw[BX,List.mem_append]at hp
  exact Or.inr hp
 ·obtain⟨_,_,_,_,_,hz,hn⟩:=hW
  refine⟨Fw,_,_,([]++pa)++pv,⟨[]++pa,pv,trodAll_append (Mt _ (fun _ _=>rfl)) (aAd _ _ _),aDH _ (fun _ _=>rfl),rfl,?_,?_⟩,?_⟩
  ·intro b off hp
   have sy:MemPlace.cell b off∈before:=by rw[BX];simpa using hp
   rw[hb.frozen (hlt _ sy)];exact hz b off sy
  ·intro ha
   have:=hn ha;rw[BX]at this;simpa using this
  ·intro p hp _
   rw[BX];simpa using hp
theorem Di{f:Func}{s:ChangeSpec}{apart fresh handsOn again:Bool}{W W':World}{args:Array Value}{ds gs:List (DataW H)}{before:List MemPlace}{tb:TypeId}
 (hl:laidOutB P=true) (hr:∀t∈f.params.toList,P.readableRec t=true∧t<P.types.size) (hrt:f.resultTypes= #[tb]) (Pa:P.underlying tb=some .bool) (hsv:s.vars= [])
 (hW:DataW.Whole enc P f.params.toList s.vars apart W args.toList ds gs before)
 (hs:(s.fn H ds).results= [.lit (.bool true)]∧(s.fn H ds).args=ds∧(s.fn H ds).vars= []) (hb:Below W.heap.size W W'):
 s.post enc P f apart fresh handsOn again W args (.bool true) W':=by
 have hW':=hW;obtain⟨p,q,hA,hV,rfl,_,_⟩:=hW';rw[hsv]at hV;obtain⟨rfl,rfl⟩:=trodVars_none hV;have hlt:∀x∈p++ [],x.block<W.heap.size:=fun x hx=>hW.lt x hx
 refine FI (pa:=p) (pv:= []) hW (fun b sp hd=> ?_) (fun sp Fv=> ?_) (fun sp _=> ?_) rfl hb ?_
 ·rw[List.append_nil,hs.1,hrt]
  exact trodAll_mk1 (shut_bool Pa true)
 ·rw[List.append_nil,hs.2.1]
  exact uy hl _ _ _ _ hr hA (fun x hx=>hb.same (hlt x (by simp[hx]))) (fun x hx=>Fv x (by simp[hx]))
 ·rw[List.append_nil,hs.2.2,hsv]
  rfl
 ·exact ok_one hrt rfl (okWide_bool_mk Pa true)
variable {w:World} {base:Nat} {spare:Nat→Bool} {held:Bool}
theorem aAe{α:Type}(n:Nat)(p:Nat→α→Prop)(h:∀i,i<n→∃x,p i x):∃l:List α,l.length=n∧∀i (hi:i<l.length),p i l[i]:=by
 induction n with
 | zero=>exact⟨[],rfl,fun i hi=>by simp at hi⟩
 | succ n ih=>
  obtain⟨l,hl,hp⟩:=ih fun i hi=>h i oz
  obtain⟨x,hx⟩:=h n oz;refine⟨l++ [x],by simp[hl],fun i hi=> ?_⟩;by_cases e:i<l.length
  ·rw[List.getElem_append_left e];exact hp i e
  ·have:i=l.length:=by simp at hi;omega
   subst this;simp;rw[hl];exact hx
theorem JR{a:Addr}{v:Value}(h:w.cell? a=some v):a=⟨a.block,a.off,none⟩:=by
 obtain⟨b,o,s⟩:=a
 cases s with
 | none=>rfl
 | some s=>
  unfold World.cell? at h;split at h<;>simp at h
theorem eY(b o j:Nat):(⟨b,o,none⟩:Addr).add j=⟨b,o+j,none⟩:=by unfold Addr.add;split<;>simp_all
end
theorem own:ownKnob pG.godebug=none:=by kernel_rfl
theorem laid:laidOutB pG=true:=by kernel_rfl
section
variable {H:Type} {enc:TypeId×Value→H} {P:Program} {w:World} {base:Nat} {spare:Nat→Bool} {held:Bool}
theorem sN{e:TypeId}:∀{el:List (DataW H)} {d:DataW H} {n:Nat},d∈el→n∈d.weights P e→n∈DataW.weightsAll P e el
 | [],_,_,h,_=>by simp at h
 | x :: r,d,n,h,hn=>by
  simp only[DataW.weightsAll,List.mem_append];rcases List.mem_cons.1 h with rfl | h
  ·exact .inl hn
  ·exact .inr (sN h hn)
end
inductive G where
 | one (v:Value)
 | row (t:Nat) (l:List (List G))
mutual
def G.rd(w:World)(Q:Nat→Prop)(v:Value):G→Prop
 | .one u=>v=u
 | .row _ l=>∃A c,v= .slice A l.length c∧l.length≤c∧c≤maxLen∧(0<l.length→∃b o,A=some ⟨b,o,none⟩∧Q b∧Vm w Q b o l)
def Vn(w:World)(Q:Nat→Prop)(b o:Nat):List G→Prop
 | []=>True
 | x :: r=>(∃v,w.cell? ⟨b,o,none⟩=some v∧G.rd w Q v x)∧Vn w Q b (o+1) r
def Vm(w:World)(Q:Nat→Prop)(b o:Nat):List (List G)→Prop
 | []=>True
 | e :: r=>Vn w Q b o e∧Vm w Q b (o+e.length) r
end
mutual
def G.ld(mk:Nat→Nat→List Value)(w:World)(Q:Nat→Prop)(v:Value):G→Prop
 | .one u=>v=u
 | .row t l=>∃g c,v= .slice (some ⟨g,0,none⟩) l.length c∧l.length+12≤c∧c≤maxLen∧Q g∧RG mk w Q g 0 l∧∀i j u,i<12→(mk t i)[j]?=some u→w.cell? ⟨g,(l.length+i)*(mk t 0).length+j,none⟩=some u
def RH(mk:Nat→Nat→List Value)(w:World)(Q:Nat→Prop)(b o:Nat):List G→Prop
 | []=>True
 | x :: r=>(∃v,w.cell? ⟨b,o,none⟩=some v∧G.ld mk w Q v x)∧RH mk w Q b (o+1) r
def RG(mk:Nat→Nat→List Value)(w:World)(Q:Nat→Prop)(b o:Nat):List (List G)→Prop
 | []=>True
 | e :: r=>RH mk w Q b o e∧RG mk w Q b (o+e.length) r
end
mutual
theorem G.rd.keep{w w':World}{Q Q':Nat→Prop}(h:∀b,Q b→(∀o,w'.cell? ⟨b,o,none⟩=w.cell? ⟨b,o,none⟩)∧Q' b)(v:Value):∀x:G,G.rd w Q v x→G.rd w' Q' v x
 | .one u,hx=>by simpa only[G.rd]using hx
 | .row t l,hx=>by
  simp only[G.rd]at hx ⊢;obtain⟨A,c,h1,h2,h3,h4⟩:=hx;refine⟨A,c,h1,h2,h3,fun hn=> ?_⟩;obtain⟨b,o,e,hq,hr⟩:=h4 hn;exact⟨b,o,e,(h b hq).2,Vm.keep h b o (h b hq).1 l hr⟩
theorem Vn.keep{w w':World}{Q Q':Nat→Prop}(h:∀b,Q b→(∀o,w'.cell? ⟨b,o,none⟩=w.cell? ⟨b,o,none⟩)∧Q' b)(b o:Nat)(ht:∀o,w'.cell? ⟨b,o,none⟩=w.cell? ⟨b,o,none⟩):∀l:List G,Vn w Q b o l→Vn w' Q' b o l
 | [],_=>by simp only[Vn]
 | x :: r,hx=>by
  simp only[Vn]at hx ⊢;obtain⟨⟨v,h1,h2⟩,h3⟩:=hx;exact⟨⟨v,(ht _).trans h1,G.rd.keep h v x h2⟩,Vn.keep h b (o+1) ht r h3⟩
theorem Vm.keep{w w':World}{Q Q':Nat→Prop}(h:∀b,Q b→(∀o,w'.cell? ⟨b,o,none⟩=w.cell? ⟨b,o,none⟩)∧Q' b)(b o:Nat)(ht:∀o,w'.cell? ⟨b,o,none⟩=w.cell? ⟨b,o,none⟩):∀l:List (List G),Vm w Q b o l→Vm w' Q' b o l
 | [],_=>by simp only[Vm]
 | e :: r,hx=>by
  simp only[Vm]at hx ⊢;exact⟨Vn.keep h b o ht e hx.1,Vm.keep h b (o+e.length) ht r hx.2⟩
end
mutual
theorem G.ld.keep{mk:Nat→Nat→List Value}{w w':World}{Q Q':Nat→Prop}(h:∀b,Q b→(∀o,w'.cell? ⟨b,o,none⟩=w.cell? ⟨b,o,none⟩)∧Q' b)(v:Value):∀x:G,G.ld mk w Q v x→G.ld mk w' Q' v x
 | .one u,hx=>by simpa only[G.ld]using hx
 | .row t l,hx=>by
  simp only[G.ld]at hx ⊢;obtain⟨g,c,h1,h2,h3,h4,h5,h6⟩:=hx;exact⟨g,c,h1,h2,h3,(h g h4).2,RG.keep h g 0 (h g h4).1 l h5,fun i j u hi hu=>((h g h4).1 _).trans (h6 i j u hi hu)⟩
theorem RH.keep{mk:Nat→Nat→List Value}{w w':World}{Q Q':Nat→Prop}(h:∀b,Q b→(∀o,w'.cell? ⟨b,o,none⟩=w.cell? ⟨b,o,none⟩)∧Q' b)(b o:Nat)(ht:∀o,w'.cell? ⟨b,o,none⟩=w.cell? ⟨b,o,none⟩):∀l:List G,RH mk w Q b o l→RH mk w' Q' b o l
 | [],_=>by simp only[RH]
 | x :: r,hx=>by
  simp only[RH]at hx ⊢;obtain⟨⟨v,h1,h2⟩,h3⟩:=hx;exact⟨⟨v,(ht _).trans h1,G.ld.keep h v x h2⟩,RH.keep h b (o+1) ht r h3⟩
theorem RG.keep{mk:Nat→Nat→List Value}{w w':World}{Q Q':Nat→Prop}(h:∀b,Q b→(∀o,w'.cell? ⟨b,o,none⟩=w.cell? ⟨b,o,none⟩)∧Q' b)(b o:Nat)(ht:∀o,w'.cell? ⟨b,o,none⟩=w.cell? ⟨b,o,none⟩):∀l:List (List G),RG mk w Q b o l→RG mk w' Q' b o l
 | [],_=>by simp only[RG]
 | e :: r,hx=>by
  simp only[RG]at hx ⊢;exact⟨RH.keep h b o ht e hx.1,RG.keep h b (o+e.length) ht r hx.2⟩
end
mutual
theorem G.ld.rd{mk:Nat→Nat→List Value}{w:World}{Q:Nat→Prop}(v:Value):∀x:G,G.ld mk w Q v x→G.rd w Q v x
 | .one u,hx=>by simpa only[G.ld,G.rd]using hx
 | .row t l,hx=>by
  simp only[G.ld]at hx;simp only[G.rd];obtain⟨g,c,h1,h2,h3,h4,h5,h6⟩:=hx;exact⟨_,c,h1,oz,h3,fun _=>⟨g,0,rfl,h4,RG.rd g 0 l h5⟩⟩
theorem RH.rd{mk:Nat→Nat→List Value}{w:World}{Q:Nat→Prop}(b o:Nat):∀l:List G,RH mk w Q b o l→Vn w Q b o l
 | [],_=>by simp only[Vn]
 | x :: r,hx=>by
  simp only[RH]at hx;simp only[Vn];obtain⟨⟨v,h1,h2⟩,h3⟩:=hx;exact⟨⟨v,h1,G.ld.rd v x h2⟩,RH.rd b (o+1) r h3⟩
theorem RG.rd{mk:Nat→Nat→List Value}{w:World}{Q:Nat→Prop}(b o:Nat):∀l:List (List G),RG mk w Q b o l→Vm w Q b o l
 | [],_=>by simp only[Vm]
 | e :: r,hx=>by
  simp only[RG]at hx;simp only[Vm];exact⟨RH.rd b o e hx.1,RG.rd b (o+e.length) r hx.2⟩
end
inductive K where
 | int | byte | bool | str
 | sl (t:Nat)
 deriving DecidableEq
abbrev G.rdW(w:World)(v:Value)(x:G):Prop:=G.rd w (fun b=>b<w.heap.size) v x
theorem G.rdW.next{w w':World}{v:Value}{x:G}(h:G.rdW w v x)(hb:Below w.heap.size w w'):G.rdW w' v x:=
 G.rd.keep (fun b hlt=>⟨fun _=>World.cell?_of_block (hb.block b hlt),Nat.lt_of_lt_of_le hlt hb.size⟩) v x h
abbrev G.ldW(mk:Nat→Nat→List Value)(w:World)(v:Value)(x:G):Prop:=G.ld mk w (fun b=>b<w.heap.size) v x
theorem G.ldW.next{mk:Nat→Nat→List Value}{w w':World}{v:Value}{x:G}(h:G.ldW mk w v x)(hb:Below w.heap.size w w'):G.ldW mk w' v x:=
 G.ld.keep (fun b hlt=>⟨fun _=>World.cell?_of_block (hb.block b hlt),Nat.lt_of_lt_of_le hlt hb.size⟩) v x h
end
section
open Go.ChangeShapes Go.WideShapes Go.ChangeAt Go.RowKit Go.Maps
structure jX(κ:Type) where
 t:TypeId
 k:TypeId
 vl:κ→Value
 lit:κ→Lit
 good:κ→Prop
 law:Keyed pG k
 und:pG.underlying t=some (.map k 3)
 key:∀x,good x→keyOf pG k (vl x)=some (lit x)
 inj:∀x y,vl x=vl y→x=y
 inv:∀v l,keyOf pG k v=some l→∃x,good x∧v=vl x
section
variable {κ:Type} [DecidableEq κ] {M:jX κ}
theorem jX.RI{x y:κ}(hx:M.good x)(hy:M.good y)(h:M.lit x=M.lit y):x=y:=
 M.inj x y (M.law.inj (M.key x hx) (by rw[h];exact M.key y hy))
theorem jX.isKey{x:κ}(hx:M.good x):WideAt.IsKeyLit (M.lit x):=M.law.key (M.key x hx)
abbrev VK(n:Int):DataW Unit:= .lit (.int .i64 n)
structure FK(M:jX κ)(ks:List κ)(f:κ→Int)(D:DataW Unit):Prop where
 nodup:ks.Nodup
 good:∀x∈ks,M.good x
 size:Maps.size D=ks.length
 has:∀x,M.good x→Maps.has D (M.lit x)=decide (x∈ks)
 at_:∀x,M.good x→D.atKey (M.lit x) (VK 0)=VK (f x)
 map:IsMap D
 tidy:Tidy D
theorem FK.zero{ks:List κ}{f:κ→Int}{D:DataW Unit}(h:FK M ks f D){x:κ}(hg:M.good x)(hx:x∉ks):f x=0:=by
 have h1:=h.has x hg;rw[dF hx]at h1;have h2:=h.at_ x hg;rw[atKey_of_not_has h1]at h2;have h3:(0:Int)=f x:=by simpa [VK]using h2
 exact h3.symm
theorem FK.nil:FK M ([]:List κ) (fun _=>0) (.map []):=
 ⟨List.nodup_nil,fun x h=>by simp at h,rfl,fun x _=>rfl,fun x _=>rfl,isMap_empty,tidy_empty⟩
def Mv(f:κ→Int)(x:κ)(v:Int):κ→Int:=fun y=>if y=x then v else f y
theorem FK.put{ks:List κ}{f:κ→Int}{D:DataW Unit}(h:FK M ks f D){x:κ}(hx:M.good x)(v:Int):FK M (if x∈ks then ks else ks++ [x]) (Mv f x v) (D.put (M.lit x) (VK v)):=by
 have hne:∀y,M.good y→y≠x→M.lit y≠M.lit x:=fun y hy hn e=>hn (jX.RI hy hx e)
 refine⟨?_,?_,?_,fun y hy=> ?_,fun y hy=> ?_,h.map.put _ _,h.tidy.put (jX.isKey hx) _⟩
 ·split
  ·exact h.nodup
  ·rename_i hn
   rw[List.nodup_append];exact⟨h.nodup,qz,fun a ha b hb=>by simp at hb;subst hb;exact fun e=>hn (e▸ha)⟩
 ·intro y hy
  split at hy
  ·exact h.good y hy
  ·rcases List.mem_append.1 hy with hy | hy
   ·exact h.good y hy
   ·simp at hy;subst hy;exact hx
 ·rw[size_put h.tidy,h.has x hx,h.size]
  by_cases hm:x∈ks<;>simp[hm]
 ·by_cases e:y=x
  ·subst e
   rw[has_put_same h.map (jX.isKey hx)];split
   ·rename_i hm;simp[hm]
   ·simp
  ·rw[has_put_other (hne y hy e),h.has y hy]
   split
   ·rfl
   ·simp[e]
 ·by_cases e:y=x
  ·subst e
   rw[atKey_put_same h.map (jX.isKey hx)];simp[Mv]
  ·rw[atKey_put_other (hne y hy e),h.at_ y hy]
   simp[Mv,e]
def fG(M:jX κ)(w:World)(b n:Nat)(ks:List κ)(f:κ→Int):Prop:=∃D,w.ownsMap pG M.k (plainElem pG 3) b n D∧FK M ks f D
variable {w w':World} {b n:Nat} {ks:List κ} {f:κ→Int}
theorem fG.made(w:World):fG M (w.alloc (.map #[] 0)) w.heap.size 0 ([]:List κ) (fun _=>0):=⟨_,World.ownsMap_made _ _ _ _,FK.nil⟩
theorem fG.lt(h:fG M w b n ks f):b<w.heap.size:=h.choose_spec.1.lt
theorem fG.mono(h:fG M w b n ks f){m:Nat}(hm:n≤m):fG M w b m ks f:=let ⟨D,h1,h2⟩:=h;⟨D,h1.mono hm,h2⟩
theorem fG.kept{row:Option Nat}(h:fG M w b n ks f)(hg:w.grownBy w' row)(hne:some b≠row):fG M w' b n ks f:=let ⟨D,h1,h2⟩:=h;⟨D,h1.kept hg hne,h2⟩
theorem fG.below{B:Nat}(h:fG M w b n ks f)(hb:Below B w w')(hlt:b<B):fG M w' b n ks f:=by
 obtain⟨D,⟨es,clock,h1,h2⟩,h3⟩:=h;exact⟨D,⟨es,clock,(hb.block b hlt).trans h1,h2⟩,h3⟩
theorem fG.alloc(h:fG M w b n ks f)(o:Obj):fG M (w.alloc o) b n ks f:=let ⟨D,h1,h2⟩:=h;⟨D,h1.alloc o,h2⟩
theorem fG.drew(h:fG M w b n ks f):fG M w.drew b n ks f:=h
theorem fG.setCell(h:fG M w b n ks f){a:Addr}(ha:b≠a.block)(u:Value):fG M (w.setCell a u) b n ks f:=let ⟨D,h1,h2⟩:=h;⟨D,h1.setCell ha u,h2⟩
theorem fG.obj(h:fG M w b n ks f):∃es clock,w.heap[b]?=some (.map es clock):=let ⟨_,⟨es,clock,h1,_⟩,_⟩:=h;⟨es,clock,h1⟩
theorem fG.same(h:fG M w b n ks f)(e:w'.heap[b]?=w.heap[b]?):fG M w' b n ks f:=by
 obtain⟨D,⟨es,clock,h1,h2⟩,h3⟩:=h;exact⟨D,⟨es,clock,e.trans h1,h2⟩,h3⟩
theorem RJ(w:World):(zeroValue 3).run pG w= .ok (.int .i64 0) w:=by kernel_rfl
theorem fG.iH(h:fG M w b n ks f){y:κ}(hy:M.good y):(Instr.lookup M.t (.map (some b)) (M.vl y) false).run pG w= .ok (.int .i64 (f y)) w:=by
 obtain⟨D,h1,h2⟩:=h;obtain⟨c,hr,hat,_⟩:=h1.lookup_int M.law M.und Tryz.underlying3 (RJ w) (M.key y hy);have e:=h2.at_ y hy;rw[hat]at e;obtain rfl:c=f y:=by simpa [VK]using e
 exact hr
theorem fG.run_store(h:fG M w b n ks f)(hn:n<maxLen){y:κ}(hy:M.good y)(v:Int)(hv:(Lit.int .i64 v).wf=true):
 ∃w',(Instr.mapUpdate M.t (.map (some b)) (M.vl y) (.int .i64 v)).run pG w= .ok () w'∧fG M w' b (n+1) (if y∈ks then ks else ks++ [y]) (Mv f y v)∧w.grownBy w' (some b):=by
 obtain⟨D,h1,h2⟩:=h;obtain⟨w',hr,r1,r2⟩:=h1.update M.law M.und hn (M.key y hy) (plainElem_int Tryz.underlying3 hv);exact⟨w',hr,⟨_,r1,h2.put hy v⟩,r2⟩
end
end
section
open Go.ChangeShapes Go.WideShapes Go.ChangeAt Go.RowKit
attribute [local go_sem] Oper.semAt_some
structure Ca(ν ρ:Type) where
 unit:ν
 needs:List ρ
 excl:List ν
section
variable {ν ρ:Type} [DecidableEq ν] [DecidableEq ρ]
def Mw(l:List (Ca ν ρ))(out:List ν)(u:ν):Bool:=l.all fun c=> !decide (c.unit=u)||c.excl.all fun x=>decide (x∈out)
def BZ(acc:List ν)(u:ν):List ν:=if u∈acc then acc else acc++ [u]
def vm(l:List (Ca ν ρ)):List ν:=(l.map Ca.unit).foldl BZ []
def Mx(l:List (Ca ν ρ))(out:List ν):Option ν:=(l.find? fun c=> !decide (c.unit∈out)&&Mw l out c.unit).map Ca.unit
def zf(l:List (Ca ν ρ)):Nat→List ν→List ν
 | 0,out=>out
 | f+1,out=>match Mx l out with
  | none=>out
  | some u=>zf l f (out++ [u])
def Px(l:List (Ca ν ρ)):List ν:=zf l (l.length+1) []
theorem VL:∀(a b:List ν),a.Nodup→(∀x∈a,x∈b)→a.length≤b.length
 | [],b,_,_=>Nat.zero_le _
 | x :: a,b,hn,hs=>by
  obtain⟨h1,h2⟩:=List.nodup_cons.1 hn;have hx:x∈b:=hs x qz;have:=VL a (b.erase x) h2 fun y hy=>(List.mem_erase_of_ne (fun e=>h1 (by subst e;exact hy))).2 (hs y (by simp[hy]))
  rw[List.length_erase_of_mem hx]at this;have hb:0<b.length:=List.length_pos_of_mem hx;simp only[List.length_cons];omega
theorem VN{acc:List ν}{u x:ν}:x∈BZ acc u↔x∈acc∨x=u:=by
 unfold BZ;split
 ·rename_i h
  exact⟨.inl,fun h'=>h'.elim id fun e=>e▸h⟩
 ·simp
theorem Mz:∀(us acc:List ν) (x:ν),x∈us.foldl BZ acc↔x∈acc∨x∈us
 | [],acc,x=>by simp
 | u :: us,acc,x=>by
  rw[List.foldl_cons,Mz us,VN,List.mem_cons,or_assoc]
theorem MB:∀(us acc:List ν),(us.foldl BZ acc).length≤acc.length+us.length
 | [],acc=>by simp
 | u :: us,acc=>by
  have:=MB us (BZ acc u);have h2:(BZ acc u).length≤acc.length+1:=by unfold BZ;split<;>simp
  simp only[List.foldl_cons,List.length_cons];omega
theorem Tk{l:List (Ca ν ρ)}{u:ν}:u∈vm l↔∃c∈l,c.unit=u:=by
 unfold vm;rw[Mz];simp
theorem Tm(l:List (Ca ν ρ)):(vm l).length≤l.length:=by
 have:=MB (l.map Ca.unit) [];simpa [vm]using this
theorem VO{l:List (Ca ν ρ)}{out:List ν}{u:ν}:Mw l out u=true↔∀c∈l,c.unit=u→∀x∈c.excl,x∈out:=by
 unfold Mw;rw[List.all_eq_true];refine⟨fun h c hc e x hx=> ?_,fun h c hc=> ?_⟩
 ·have:=h c hc
  rw[dT e]at this;simp only[Bool.not_true,Bool.false_or,List.all_eq_true,decide_eq_true_eq]at this;exact this x hx
 ·rcases Decidable.em (c.unit=u)with e | e
  ·rw[dT e]
   simp only[Bool.not_true,Bool.false_or,List.all_eq_true,decide_eq_true_eq];exact h c hc e
  ·rw[dF e];rfl
structure Iq(l:List (Ca ν ρ))(out:List ν):Prop where
 nodup:out.Nodup
 sub:∀u∈out,u∈vm l
 before:∀i (h:i<out.length),∀c∈l,c.unit=out[i]→∀x∈c.excl,x∈out.take i
theorem Iq.nil(l:List (Ca ν ρ)):Iq l []:=⟨List.nodup_nil,fun u h=>by simp at h,fun i h=>by simp at h⟩
theorem Iq.push{l:List (Ca ν ρ)}{out:List ν}{u:ν}(h:Iq l out)(hu:u∈vm l)(hn:u∉out)(hf:Mw l out u=true):Iq l (out++ [u]):=by
 refine⟨?_,fun x hx=> ?_,fun i hi c hc e x hx=> ?_⟩
 ·rw[List.nodup_append]
  exact⟨h.nodup,qz,fun a ha b hb=>by simp at hb;subst hb;exact fun e=>hn (e▸ha)⟩
 ·rcases List.mem_append.1 hx with hx | hx
  ·exact h.sub x hx
  ·simp at hx;subst hx;exact hu
 ·by_cases hlt:i<out.length
  ·rw[List.getElem_append_left hlt]at e
   have:=h.before i hlt c hc e x hx;rw[List.take_append_of_le_length oz];exact this
  ·have uz:i=out.length:=by simp at hi;omega
   subst uz;rw[List.take_append_of_le_length nL,List.take_length];simp at e;exact VO.1 hf c hc e x hx
theorem Tn{l:List (Ca ν ρ)}{out:List ν}{u:ν}(h:Mx l out=some u):u∈vm l∧u∉out∧Mw l out u=true:=by
 unfold Mx at h;rw[Option.map_eq_some_iff]at h;obtain⟨c,hc,rfl⟩:=h;have h1:=List.find?_some hc;have h2:=List.mem_of_find?_eq_some hc;simp only[Bool.and_eq_true,Bool.not_eq_true',decide_eq_false_iff_not]at h1;exact⟨Tk.2 ⟨c,h2,rfl⟩,h1.1,h1.2⟩
end
end
section
open Go.ChangeShapes Go.WideShapes Go.ChangeAt Go.RowKit Go.Deep
structure jI where
 unit:ByteArray
 code:Int
 deriving DecidableEq
abbrev Cs:=Ca ByteArray jI
abbrev jI.val(r:jI):Value:= .agg #[.string r.unit,.int .i64 r.code]
def jI.ok(r:jI):Prop:=r.unit.size≤maxLen∧(Lit.int .i64 r.code).wf=true
theorem Tp{v:Value}{l:Lit}(h:keyOf pG 9 v=some l):∃x:ByteArray,x.size≤maxLen∧v= .string x:=by
 cases v<;>simp[keyOf,Tryz.underlying9,mapKey]at h
 exact⟨_,h.1,rfl⟩
noncomputable def KS:jX ByteArray where
 t:=209
 k:=9
 vl:=fun s=> .string s
 lit:=fun s=> .string s.data.toList
 good:=fun s=>s.size≤maxLen
 law:=Maps.string_keyed Tryz.underlying9
 und:=Tryz.underlying209
 key:=fun _ h=>WideMaps.keyOf_string_mk Tryz.underlying9 h
 inj:=fun x y h=>by injection h
 inv:=fun v l h=>Tp h
theorem vo:pG.cellsOf 9=1:=by kernel_rfl
theorem Dp:pG.cellsOf 3=1:=by kernel_rfl
theorem aNX:(85:TypeId)<pG.types.size:=of_decide_eq_true kz
theorem aDI:∃n,pG.types.size+1=n+2:=by
 have h:0<pG.types.size:=Nat.lt_of_le_of_lt nZ aNX;generalize pG.types.size=z at h;exact⟨z-1,oz⟩
theorem aET{cs:Array Value}(h:cs.size=2):∃a b,cs= #[a,b]:=by
 obtain⟨l⟩:=cs
 match l,h with
 | [a,b],_=>exact⟨a,b,rfl⟩
def fP{α:Type}[DecidableEq α](x:α)(l:List α):Bool:=decide (x∈l)
theorem nS{α:Type}[DecidableEq α]{x:α}{l:List α}:fP x l=true↔x∈l:=by unfold fP;rw[decide_eq_true_eq]
theorem VP{x s:ByteArray}(h:x≠s):(x.toList==s.toList)=false:=by
 rw[beq_eq_false_iff_ne];intro e;rw[ByteArray.toList_eq,ByteArray.toList_eq]at e;exact h (ByteArray.ext (Array.toList_inj.1 e))
instance:Inhabited jI:=⟨⟨⟨#[]⟩,0⟩⟩
structure SlV where
 a:Option Addr
 n:Nat
 c:Nat
 deriving Inhabited
abbrev SlV.val(s:SlV):Value:= .slice s.a s.n s.c
def iB(w:World)(B:Nat)(A:Option Addr)(l:List ByteArray):Prop:=
 0<l.length→∃b o,A=some ⟨b,o,none⟩∧b<B∧∀i (h:i<l.length),w.cell? ⟨b,o+i,none⟩=some (.string l[i])
def jE(w:World)(B:Nat)(A:Option Addr)(l:List jI):Prop:=
 0<l.length→∃b o,A=some ⟨b,o,none⟩∧b<B∧∀i (h:i<l.length),w.cell? ⟨b,o+i*2,none⟩=some (.string l[i].unit)∧w.cell? ⟨b,o+i*2+1,none⟩=some (.int .i64 l[i].code)
structure fC where
 c:Cs
 n:SlV
 x:SlV
abbrev fC.val(x:fC):Value:= .agg #[.string x.c.unit,.slice x.n.a x.n.n x.n.c,.slice x.x.a x.x.n x.x.c]
structure fC.rd(w:World)(B:Nat)(x:fC):Prop where
 nl:x.n.n=x.c.needs.length
 nc:x.n.n≤x.n.c
 nm:x.n.c≤maxLen
 n:jE w B x.n.a x.c.needs
 xl:x.x.n=x.c.excl.length
 xc:x.x.n≤x.x.c
 xm:x.x.c≤maxLen
 x:iB w B x.x.a x.c.excl
def kr(w:World)(B:Nat)(A:Option Addr)(l:List fC):Prop:=
 0<l.length→∃b o,A=some ⟨b,o,none⟩∧b<B∧∀i (h:i<l.length),w.cell? ⟨b,o+i*3,none⟩=some (.string l[i].c.unit)∧w.cell? ⟨b,o+i*3+1,none⟩=some l[i].n.val∧w.cell? ⟨b,o+i*3+2,none⟩=some l[i].x.val∧l[i].rd w B
structure OkC(c:Cs):Prop where
 u:c.unit.size≤maxLen
 n:∀r∈c.needs,r.ok
 x:∀s∈c.excl,s.size≤maxLen
section
variable {w w':World} {B B':Nat} {A:Option Addr}
theorem iB.nil:iB w B A []:=fun h=>absurd h qz
theorem jE.nil:jE w B A []:=fun h=>absurd h qz
theorem kr.nil:kr w B A []:=fun h=>absurd h qz
theorem iB.dn{l:List ByteArray}(h:iB w B A l)(hB:B≤B')(hk:∀b o,b<B→w'.cell? ⟨b,o,none⟩=w.cell? ⟨b,o,none⟩):iB w' B' A l:=fun hn=>by
 obtain⟨b,o,rfl,gD,hc⟩:=h hn;exact⟨b,o,rfl,oz,fun i hi=>(hk b _ gD).trans (hc i hi)⟩
theorem jE.dn{l:List jI}(h:jE w B A l)(hB:B≤B')(hk:∀b o,b<B→w'.cell? ⟨b,o,none⟩=w.cell? ⟨b,o,none⟩):jE w' B' A l:=fun hn=>by
 obtain⟨b,o,rfl,gD,hc⟩:=h hn;exact⟨b,o,rfl,oz,fun i hi=>⟨(hk b _ gD).trans (hc i hi).1,(hk b _ gD).trans (hc i hi).2⟩⟩
theorem fC.rd.dn{x:fC}(h:x.rd w B)(hB:B≤B')(hk:∀b o,b<B→w'.cell? ⟨b,o,none⟩=w.cell? ⟨b,o,none⟩):x.rd w' B':=
 ⟨h.nl,h.nc,h.nm,h.n.dn hB hk,h.xl,h.xc,h.xm,h.x.dn hB hk⟩
theorem kr.dn{l:List fC}(h:kr w B A l)(hB:B≤B')(hk:∀b o,b<B→w'.cell? ⟨b,o,none⟩=w.cell? ⟨b,o,none⟩):kr w' B' A l:=fun hn=>by
 obtain⟨b,o,rfl,gD,hc⟩:=h hn;exact⟨b,o,rfl,oz,fun i hi=>⟨(hk b _ gD).trans (hc i hi).1,(hk b _ gD).trans (hc i hi).2.1,(hk b _ gD).trans (hc i hi).2.2.1,(hc i hi).2.2.2.dn hB hk⟩⟩
theorem cZ{B:Nat}(hb:Below B w w'):∀b o,b<B→w'.cell? ⟨b,o,none⟩=w.cell? ⟨b,o,none⟩:=fun b o h=>hb.cell (p:=⟨b,o,none⟩) h
theorem iB.below{l:List ByteArray}(h:iB w w.heap.size A l)(hb:Below w.heap.size w w'):iB w' w'.heap.size A l:=h.dn hb.size (cZ hb)
theorem jE.below{l:List jI}(h:jE w w.heap.size A l)(hb:Below w.heap.size w w'):jE w' w'.heap.size A l:=h.dn hb.size (cZ hb)
theorem fC.rd.below{x:fC}(h:x.rd w w.heap.size)(hb:Below w.heap.size w w'):x.rd w' w'.heap.size:=h.dn hb.size (cZ hb)
theorem kr.below{l:List fC}(h:kr w w.heap.size A l)(hb:Below w.heap.size w w'):kr w' w'.heap.size A l:=h.dn hb.size (cZ hb)
theorem iB.keep{l:List ByteArray}(h:iB w B A l)(hb:Below B w w'):iB w' B A l:=h.dn nL (cZ hb)
theorem jE.keep{l:List jI}(h:jE w B A l)(hb:Below B w w'):jE w' B A l:=h.dn nL (cZ hb)
theorem fC.rd.keep{x:fC}(h:x.rd w B)(hb:Below B w w'):x.rd w' B:=h.dn nL (cZ hb)
theorem kr.keep{l:List fC}(h:kr w B A l)(hb:Below B w w'):kr w' B A l:=h.dn nL (cZ hb)
theorem iB.more{l:List ByteArray}(h:iB w B A l)(hB:B≤B'):iB w B' A l:=h.dn hB fun _ _ _=>rfl
theorem jE.more{l:List jI}(h:jE w B A l)(hB:B≤B'):jE w B' A l:=h.dn hB fun _ _ _=>rfl
theorem fC.rd.more{x:fC}(h:x.rd w B)(hB:B≤B'):x.rd w B':=h.dn hB fun _ _ _=>rfl
theorem kr.more{l:List fC}(h:kr w B A l)(hB:B≤B'):kr w B' A l:=h.dn hB fun _ _ _=>rfl
end
def jI.g(r:jI):List G:= [.one (.string r.unit),.one (.int .i64 r.code)]
end
section
open Go.ChangeShapes Go.WideShapes Go.ChangeAt Go.RowKit
attribute [local go_sem] Oper.semAt_some
theorem MC{n:Nat}{P:Program}{row:String}{args:Array Value}{w:World}{R:Value→World→Prop}(h:Rows P row args w R):RowsIn Fence.wide n P row args w R:=fun c cs _=>
 let ⟨v,w',r,s⟩:=h c cs;⟨v,w',r,stepsIn_wide.2 s⟩
theorem Py{P:Program}{l n:Nat}{o:Oper}{a:Act}{w:World}{K:Act→World→Prop}{Q:Exit→Act→World→Prop}(ho:∀c,o.op≠ .defer c)(h:o.wp P a w K Q):o.wpIn (Fence.wide.inRound l) n P a w K Q:=by
 unfold Oper.wpIn;refine⟨fun _ _=>trivial,?_⟩;rw[Oper.semAt_eq _ _ _ ho];unfold Oper.wp at h;generalize (execOp a.eval o).run P w=r at*
 cases r with
 | ok x w'=>
  cases x with
  | value v=>exact h
  | skip=>exact h
  | defer d=>exact h
  | enter f args=>exact⟨fun h=>by simp[Fence.wide]at h,CallsIn.inRound l ((callsIn_wide.2 h).mono fun e w'' he=>by cases e<;>exact he)⟩
  | row row args=>exact⟨fun h=>by simp[Fence.wide]at h,MC h⟩
  | _=>exact h.elim
 | halt x w'=>cases x<;>first | exact h | exact h.elim
section
variable {P:Program} {ops:Array Oper} {Q:Exit→Act→World→Prop} {S:World→Prop} {md:Region.Mode} {l n:Nat}
theorem uD(hd:∀(i:Nat) (o:Oper),ops[i]?=some o→∀c,o.op≠ .defer c)(hQ:¬LetsOut Q):∀(fuel:Nat) (listed:Array Bool) (a:Act) (w:World),wpAny P md ops Q fuel listed a w→wpAnyIn (Fence.wide.inRound l) n P md ops Q fuel listed a w
 | 0,_,_,_,h=>h
 | fuel+1,listed,a,w,h=>by
  refine⟨h.1,fun i hi=> ?_⟩;have h2:=wpOp_mono (fun a w=>uD hd hQ fuel (listed.setIfInBounds i true) a w) (h.2 i hi);unfold wpOp at h2;unfold wpOpIn;split
  ·rename_i he;simpa [he]using h2
  ·rename_i o ho
   simp only[ho]at h2;split
   ·rename_i hw
    simp only[hw,if_true]at h2;rcases h2 with h2 | ⟨_,h2⟩
    ·exact Py (hd i o ho) h2
    ·exact absurd h2 hQ
   ·rename_i hw
    simp only[hw]at h2;exact⟨fun _ _=>trivial,h2⟩
def RL(ops:Array Oper):Bool:=ops.all fun o=>match o.op with | .defer _=>false | _=>true
theorem JT(h:RL ops=true)(i:Nat)(o:Oper)(ho:ops[i]?=some o)(c:Call):o.op≠ .defer c:=fun e=>by
 obtain⟨hlt,rfl⟩:=gE ho;have:=Array.all_eq_true.1 h i hlt;simp[e]at this
end
end
section
open Go.ChangeShapes Go.WideShapes Go.ChangeAt Go.RowKit
section
variable {P:Program} {ops:Array Oper} {Q:Exit→Act→World→Prop} {md:Region.Mode} {S:World→Prop} {s:Nat}
def wpAnyS(P:Program)(md:Region.Mode)(ops:Array Oper)(Q:Exit→Act→World→Prop)(S:World→Prop)(s:Nat):Nat→Array Bool→Act→World→Prop
 | 0,listed,a,w=>Region.ready md ops listed= []∧Q .normal a w
 | fuel+1,listed,a,w=>
  (Region.ready md ops listed= []→Q .normal a w)∧
  ∀i∈Region.ready md ops listed,wpOp P ops Q i (fun a' w'=>((listed.setIfInBounds i true).getD s false=false→S w')∧wpAnyS P md ops Q S s fuel (listed.setIfInBounds i true) a' w') a w
theorem vr:∀(fuel:Nat) (listed:Array Bool) (a:Act) (w:World),wpAnyS P md ops Q S s fuel listed a w→wpAny P md ops Q fuel listed a w
 | 0,_,_,_,h=>h
 | fuel+1,_,_,_,h=>⟨h.1,fun i hi=>wpOp_mono (fun a' w' h'=>vr fuel _ a' w' h'.2) (h.2 i hi)⟩
theorem jA(listed:Array Bool){i j:Nat}(h:i≠j):(listed.setIfInBounds i true).getD j false=listed.getD j false:=getD_set_ne false h
theorem wpAnyS_first{i:Nat}{oi:Oper}{v:Value}(hi:ops[i]?=some oi)(VQ:∀(j:Nat) (o:Oper) cs b,ops[j]?=some o→o.op≠ .select cs b)
 (hQ:∀c a w,Q (.panic c) (a.put oi.dst v) w→Q (.panic c) a w) (C:List Nat) (hsC:s∈C) (hiC:i∉C) (hs:∀j∈C,∀oj,ops[j]?=some oj→∃e∈oj.after,Region.binds md e=true∧(e.on=i∨e.on∈C)):
 ∀(fuel:Nat) (listed:Array Bool) (a:Act) (w:World),
  (∀j oj,ops[j]?=some oj→j≠i→listed.getD j true=false→(∀e∈oj.after,Region.binds md e=true→e.on≠i)→oi.apart ops oj=true)→
  i∈Region.ready md ops listed→YieldsIf P ops S oi v a→S w→(∀j∈C,listed.getD j false=false)→
  wpAnyS P md ops Q S s fuel (listed.setIfInBounds i true) (a.put oi.dst v) w→wpAnyS P md ops Q S s (fuel+1) listed a w:=by
 intro fuel
 induction fuel with
 | zero=>
  intro listed a w _ hr hy hS hls H;refine⟨fun h=>(by rw[h]at hr;cases hr),fun j hj=> ?_⟩;by_cases CA:j=i
  ·subst CA;exact hy.wpOp hi hS ⟨fun _=>hS,H⟩
  ·have:=ready_mono hj CA
   rw[H.1]at this
   cases this
 | succ fuel ih=>
  intro listed a w ME hr hy hS hls H;refine⟨fun h=>(by rw[h]at hr;cases hr),fun j hj=> ?_⟩;by_cases CA:j=i
  ·subst CA;exact hy.wpOp hi hS ⟨fun _=>hS,H⟩
  ·have h1:=H.2 j (ready_mono hj CA)
   obtain⟨VR,oj,hoj,aJ⟩:=mem_ready.1 hj;have aAf:∀e∈oj.after,Region.binds md e=true→e.on≠i:=fun e he hb Vo=>by
    have h1:=aJ e he hb;have h0:=(mem_ready.1 hr).1;rw[Vo]at h1;rcases Nat.lt_or_ge i listed.size with h' | h'
    ·simp[h']at h0 h1;rw[h0]at h1;cases h1
    ·simp[Array.getElem?_eq_none h']at h1
   have hjC:j∉C:=fun hj=>by
    obtain⟨e,he,hb,hon⟩:=hs j hj oj hoj;rcases hon with hon | hon
    ·exact aAf e he hb hon
    ·have h1:=aJ e he hb
     have h0:=hls e.on hon;rcases Nat.lt_or_ge e.on listed.size with h' | h'
     ·simp[h']at h0 h1;rw[h0]at h1;cases h1
     ·simp[Array.getElem?_eq_none h']at h1
   have hjs:j≠s:=fun e=>hjC (e▸hsC)
   have hsi:s≠i:=fun e=>hiC (e▸hsC)
   have h2:=wpOp_putIf hoj (ME j oj hoj CA VR aAf) (fun cs b=>VQ i oi cs b hi) (fun cs b=>VQ j oj cs b hoj) hQ hy h1;have Pz:∀k ok,ops[k]?=some ok→k≠i→(listed.setIfInBounds j true).getD k true=false→
    (∀e∈ok.after,Region.binds md e=true→e.on≠i)→oi.apart ops ok=true:=fun k ok hk hki hun jT=>by
    refine ME k ok hk hki ?_ jT;by_cases hjk:j=k
    ·subst hjk;exact VR
    ·rw[getD_set_ne true hjk]at hun;exact hun
   have hl':∀x∈C,(listed.setIfInBounds j true).getD x false=false:=fun x hx=>by rw[jA _ (show j≠x from fun e=>hjC (by rw[e];exact hx))];exact hls x hx
   have Cb:((listed.setIfInBounds i true).setIfInBounds j true).getD s false=false:=by rw[jA _ hjs,jA _ (Ne.symm hsi)];exact hls s hsC
   refine wpOp_mono (fun a' w' h3=>⟨fun _=>h3.2.1 Cb,ih (listed.setIfInBounds j true) a' w' Pz (ready_mono hr (Ne.symm CA)) h3.1 (h3.2.1 Cb) hl' ?_⟩) h2;rw[Array.setIfInBounds_comm _ _ CA];exact h3.2.2
theorem FM{i:Nat}{oi:Oper}{v:Value}(hi:ops[i]?=some oi)(VQ:∀(j:Nat) (o:Oper) cs b,ops[j]?=some o→o.op≠ .select cs b)
 (hQ:∀c a w,Q (.panic c) (a.put oi.dst v) w→Q (.panic c) a w) (hsi:s≠i):
 ∀(fuel:Nat) (listed:Array Bool) (a:Act) (w:World),
  (∀j oj,ops[j]?=some oj→j≠i→listed.getD j true=false→(∀e∈oj.after,Region.binds md e=true→e.on≠i)→oi.apart ops oj=true)→
  i∈Region.ready md ops listed→YieldsIf P ops (fun _=>True) oi v a→(listed.getD s false=false→S w)→
  wpAnyS P md ops Q S s fuel (listed.setIfInBounds i true) (a.put oi.dst v) w→wpAnyS P md ops Q S s (fuel+1) listed a w:=by
 intro fuel
 induction fuel with
 | zero=>
  intro listed a w _ hr hy hS H;refine⟨fun h=>(by rw[h]at hr;cases hr),fun j hj=> ?_⟩;by_cases CA:j=i
  ·subst CA;exact hy.wpOp hi trivial ⟨fun h=>hS (by rw[jA _ (Ne.symm hsi)]at h;exact h),H⟩
  ·have:=ready_mono hj CA
   rw[H.1]at this
   cases this
 | succ fuel ih=>
  intro listed a w ME hr hy hS H;refine⟨fun h=>(by rw[h]at hr;cases hr),fun j hj=> ?_⟩;by_cases CA:j=i
  ·subst CA;exact hy.wpOp hi trivial ⟨fun h=>hS (by rw[jA _ (Ne.symm hsi)]at h;exact h),H⟩
  ·have h1:=H.2 j (ready_mono hj CA)
   obtain⟨VR,oj,hoj,aJ⟩:=mem_ready.1 hj;have aAf:∀e∈oj.after,Region.binds md e=true→e.on≠i:=fun e he hb Vo=>by
    have h1:=aJ e he hb;have h0:=(mem_ready.1 hr).1;rw[Vo]at h1;rcases Nat.lt_or_ge i listed.size with h' | h'
    ·simp[h']at h0 h1;rw[h0]at h1;cases h1
    ·simp[Array.getElem?_eq_none h']at h1
   have h2:=wpOp_putIf hoj (ME j oj hoj CA VR aAf) (fun cs b=>VQ i oi cs b hi) (fun cs b=>VQ j oj cs b hoj) hQ hy h1;have Pz:∀k ok,ops[k]?=some ok→k≠i→(listed.setIfInBounds j true).getD k true=false→
    (∀e∈ok.after,Region.binds md e=true→e.on≠i)→oi.apart ops ok=true:=fun k ok hk hki hun jT=>by
    refine ME k ok hk hki ?_ jT;by_cases hjk:j=k
    ·subst hjk;exact VR
    ·rw[getD_set_ne true hjk]at hun;exact hun
   have hcv:∀h:(listed.setIfInBounds j true).getD s false=false,((listed.setIfInBounds i true).setIfInBounds j true).getD s false=false:=fun h=>by
    rw[Array.setIfInBounds_comm _ _ (Ne.symm CA),jA _ (Ne.symm hsi)];exact h
   refine wpOp_mono (fun a' w' h3=>⟨fun h=>h3.2.1 (hcv h),ih (listed.setIfInBounds j true) a' w' Pz (ready_mono hr (Ne.symm CA)) h3.1 (fun h=>h3.2.1 (hcv h)) ?_⟩) h2;rw[Array.setIfInBounds_comm _ _ CA];exact h3.2.2
theorem eu{i:Nat}{oi:Oper}{v:Value}{fuel:Nat}{listed:Array Bool}{a:Act}{w:World}(hi:ops[i]?=some oi)
 (hs:Region.noSelect ops=true) (hf:Region.free md ops listed i=true) (hr:(Region.ready md ops listed).contains i=true) (hw:(s !=i)=true)
 (hQ:∀c a w,Q (.panic c) (a.put oi.dst v) w→Q (.panic c) a w) (hy:YieldsIf P ops (fun _=>True) oi v a) (hS:S w)
 (h:wpAnyS P md ops Q S s fuel (listed.setIfInBounds i true) (a.put oi.dst v) w):wpAnyS P md ops Q S s (fuel+1) listed a w:=
 FM hi (Region.noSelect_spec hs) hQ (by simpa using hw) fuel listed a w (Region.free_spec hi hf) (by simpa using hr) hy (fun _=>hS) h
def Dq(md:Region.Mode)(ops:Array Oper)(i:Nat):List Nat:=
 (List.range ops.size).foldl (fun C j=>match ops[j]? with
  | some o=>if o.after.any (fun e=>Region.binds md e&&(e.on==i||C.contains e.on))then j :: C else C
  | none=>C) []
def waits(md:Region.Mode)(ops:Array Oper)(C:List Nat)(s i:Nat)(listed:Array Bool):Bool:=
 C.contains s&& !C.contains i&&C.all (fun j=> !listed.getD j false&&match ops[j]? with
  | some o=>o.after.any fun e=>Region.binds md e&&(e.on==i||C.contains e.on)
  | none=>true)
theorem sO{i:Nat}{oi:Oper}{v:Value}{fuel:Nat}{listed:Array Bool}{a:Act}{w:World}(hi:ops[i]?=some oi)
 (hs:Region.noSelect ops=true) (hf:Region.free md ops listed i=true) (hr:(Region.ready md ops listed).contains i=true) (hw:waits md ops (Dq md ops i) s i listed=true)
 (hQ:∀c a w,Q (.panic c) (a.put oi.dst v) w→Q (.panic c) a w) (hy:YieldsIf P ops S oi v a) (hS:S w)
 (h:wpAnyS P md ops Q S s fuel (listed.setIfInBounds i true) (a.put oi.dst v) w):wpAnyS P md ops Q S s (fuel+1) listed a w:=by
 generalize Dq md ops i=C at hw;simp only[waits,Bool.and_eq_true,Bool.not_eq_true',List.all_eq_true,List.contains_iff_mem]at hw;obtain⟨⟨h1,h2⟩,h3⟩:=hw;refine wpAnyS_first hi (Region.noSelect_spec hs) hQ C h1 (fun e=>by rw[←List.contains_iff_mem,h2]at e;cases e) (fun j hj oj ho=> ?_) fuel listed a w (Region.free_spec hi hf) (by simpa using hr) hy hS (fun j hj=>(h3 j hj).1) h;have h4:=(h3 j hj).2;rw[ho]at h4;simp only[Array.any_eq_true']at h4;obtain⟨e,he,hb⟩:=h4;simp only[Bool.and_eq_true,Bool.or_eq_true,beq_iff_eq,List.contains_iff_mem]at hb;exact⟨e,he,hb.1,hb.2⟩
def dx(P:Program)(md:Region.Mode)(ops:Array Oper)(Q:Exit→Act→World→Prop)(S:World→Prop)(s:Nat)(fuel:Nat)(listed:Array Bool)(a:Act)(w:World)(rs:List Nat):Prop:=
 ∀i∈rs,wpOp P ops Q i (fun a' w'=>((listed.setIfInBounds i true).getD s false=false→S w')∧wpAnyS P md ops Q S s fuel (listed.setIfInBounds i true) a' w') a w
theorem dx.nil{fuel:Nat}{listed:Array Bool}{a:Act}{w:World}:dx P md ops Q S s fuel listed a w []:=fun _ h=>by cases h
theorem dx.cons{fuel:Nat}{listed:Array Bool}{a:Act}{w:World}{i:Nat}{o:Oper}{rs:List Nat}(ho:ops[i]?=some o)
 (h:∀K':Act→World→Prop,Go.Shut (∀a w,((listed.setIfInBounds i true).getD s false=false→S w)→wpAnyS P md ops Q S s fuel (listed.setIfInBounds i true) a w→K' a w)→if Region.wanted o (yielded ops a.tmps)=true then Oper.wp P o a w K' Q else K' (a.put o.dst undef) w)
 (hs:dx P md ops Q S s fuel listed a w rs):dx P md ops Q S s fuel listed a w (i :: rs):=fun j hj=>by
 rcases List.mem_cons.1 hj with rfl | hj
 ·exact wpOp_step ho (fun K' hK=>h K' (fun a w hS hW=>hK a w ⟨hS,hW⟩))
 ·exact hs j hj
theorem jB{rs:List Nat}{fuel:Nat}{listed:Array Bool}{a:Act}{w:World}(hr:Region.ready md ops listed=rs)(hne:rs≠ [])
 (h:dx P md ops Q S s fuel listed a w rs):wpAnyS P md ops Q S s (fuel+1) listed a w:=⟨fun h0=>absurd (hr▸h0) hne,hr▸h⟩
theorem aL{listed:Array Bool}{a:Act}{w:World}(hr:Region.ready md ops listed= [])(h:Q .normal a w):∀fuel,wpAnyS P md ops Q S s fuel listed a w
 | 0=>⟨hr,h⟩
 | _+1=>⟨fun _=>h,by rw[hr];simp⟩
theorem nU{l n:Nat}{id:Nat}{a:Act}{w:World}(S:World→Prop)(s:Nat)(hm:P.follows .mixedOrders=true)(hd:RL ops=true)(hQ:¬LetsOut Q)
 (hS:S w.drew) (h:S w.drew→wpAnyS P .any ops Q S s ops.size (Array.replicate ops.size false) a w.drew):(Code.region id ops true).wpIn (Fence.wide.inRound l) n P Q a w:=
 wpIn_region_any hm (uD (JT hd) hQ _ _ _ _ (vr _ _ _ _ (h hS)))
end
end
section
open Go.ChangeShapes Go.WideShapes Go.ChangeAt Go.RowKit
structure Gr(X:Nat→Prop)(w w':World):Prop where
 os:w'.os=w.os
 tape:w'.tape=w.tape
 output:w'.output=w.output
 size:w.heap.size≤w'.heap.size
 block:∀k,k<w.heap.size→¬X k→w'.heap[k]?=w.heap[k]?
theorem Gr.refl(X:Nat→Prop)(w:World):Gr X w w:=⟨rfl,rfl,rfl,nL,fun _ _ _=>rfl⟩
theorem Gr.trans{X:Nat→Prop}{a b c:World}(h:Gr X a b)(k:Gr X b c):Gr X a c:=
 ⟨k.os.trans h.os,k.tape.trans h.tape,k.output.trans h.output,nT h.size k.size,fun i hi hx=>(k.block i (Nat.lt_of_lt_of_le hi h.size) hx).trans (h.block i hi hx)⟩
theorem Gr.mono{X Y:Nat→Prop}{a b:World}(h:Gr X a b)(hx:∀k,k<a.heap.size→X k→Y k):Gr Y a b:=
 ⟨h.os,h.tape,h.output,h.size,fun i hi hy=>h.block i hi fun x=>hy (hx i hi x)⟩
theorem Gr.eO{X:Nat→Prop}{a b:World}{row:Option Nat}(h:a.grownBy b row)(hx:∀k,row=some k→X k):Gr X a b:=
 ⟨h.os,h.tape,h.output,h.size,fun i hi hn=>h.block i hi fun e=>hn (hx i e.symm)⟩
theorem Gr.ak{X:Nat→Prop}{a b:World}(h:Below a.heap.size a b):Gr X a b:=⟨h.os,h.tape,h.output,h.size,fun i hi _=>h.block i hi⟩
theorem Gr.alloc(X:Nat→Prop)(w:World)(o:Obj):Gr X w (w.alloc o):= .ak (bN)
theorem Gr.setCell{X:Nat→Prop}(w:World)(a:Addr)(v:Value)(h:X a.block):Gr X w (w.setCell a v):=
 ⟨rfl,rfl,rfl,by simp[World.setCell],fun k _ hx=>Below.heap_setCell w a v k (fun e=>hx (e▸h))⟩
theorem Gr.grown{X:Nat→Prop}{w a b:World}{r:Nat}(h:w.grownBy a (some r))(k:Gr X a b)(hx:∀k,k<w.heap.size→X k→k=r):w.grownBy b (some r):=
 ⟨k.os.trans h.os,k.tape.trans h.tape,k.output.trans h.output,nT h.size k.size,fun i hi hn=>(k.block i (Nat.lt_of_lt_of_le hi h.size) (fun x=>hn (by rw[hx i hi x]))).trans (h.block i hi hn)⟩
theorem Gr.cell{X:Nat→Prop}{a b:World}(h:Gr X a b){p:Addr}{v:Value}(hv:a.cell? p=some v)(hx:¬X p.block):b.cell? p=some v:=
 (World.cell?_of_block (h.block p.block (World.block_lt_of_cell? a p hv) hx)).trans hv
theorem Gr.blk{X:Nat→Prop}{a b:World}(h:Gr X a b){g:Nat}{t:TypeId}{cs:Array Value}(hb:ah a g t cs)(hx:¬X g):ah b g t cs:=(h.block g hb.lt hx).trans hb
end
section
open Go.ChangeShapes Go.WideShapes Go.ChangeAt Go.RowKit
def uE(id:Nat):Code→Option Code
 | .region i ops d=>if i=id then some (.region i ops d)else none
 | .seq a b=>match uE id a with | some c=>some c | none=>uE id b
 | .cond _ a b=>match uE id a with | some c=>some c | none=>uE id b
 | .block _ b=>uE id b
 | .loop b=>uE id b
 | .scope b=>uE id b
 | .rangeFunc _ _ a b=>match uE id a with | some c=>some c | none=>uE id b
 | _=>none
theorem aT{P:Program}{id:Nat}{ops:Array Oper}{Q:Exit→Act→World→Prop}{a:Act}{w:World}(S:World→Prop)(s:Nat)(hm:P.follows .mixedOrders=true)(hS:S w.drew)
 (h:S w.drew→wpAnyS P .any ops Q S s ops.size (Array.replicate ops.size false) a w.drew):(Code.region id ops true).wp P Q a w:=
 wp_region_any hm (vr _ _ _ _ (h hS))
end
section
open Go.ChangeShapes Go.WideShapes Go.ChangeAt Go.RowKit
attribute [local go_sem] Oper.semAt_some
theorem TS{P:Program}{ops:Array Oper}{Q:Exit→Act→World→Prop}{S:World→Prop}{md:Region.Mode}{s:Nat}(i:Nat){oi:Oper}{v:Value}{fuel:Nat}{listed:Array Bool}{a:Act}{w:World}(hi:ops[i]?=some oi)(hS:S w)
 (h:wpAnyS P md ops Q S s fuel (listed.setIfInBounds i true) (a.put oi.dst v) w) (hx:Region.wanted oi (yielded ops a.tmps)=true:=by rfl) (hy:∀w,S w→(execOp a.eval oi).run P w= .ok (.value v) w:=by
  intro w hSw
  first
  | obtain⟨zh,hS1,jY,CD,vw,CF,MF,Dr,FN,Vp,aNa,mA,aNb⟩:=hSw
  | obtain⟨zh,hS1,jY,CD,vw,CF,MF,Dr,FN,Vp⟩:=hSw
  | obtain⟨zh,hS1,jY,CD,vw,CF,MF,Dr,FN⟩:=hSw
  | obtain⟨zh,hS1,jY,CD,vw,CF,MF,Dr⟩:=hSw
  | obtain⟨zh,hS1,jY,CD,vw,CF,MF⟩:=hSw
  | obtain⟨zh,hS1,jY,CD,vw⟩:=hSw
  | obtain⟨zh,hS1,jY⟩:=hSw
  | obtain⟨zh,hS1⟩:=hSw
  | skip
  go_simp
  first | done | with_reducible rfl)
 (hs:Region.noSelect ops=true:=by kernel_rfl) (hf:Region.free md ops listed i=true:=by kernel_rfl) (hr:(Region.ready md ops listed).contains i=true:=by kernel_rfl) (hw:waits md ops (Dq md ops i) s i listed=true:=by kernel_rfl)
 (hQ:∀c a w,Q (.panic c) (a.put oi.dst v) w→Q (.panic c) a w:=by exact fun c a w h=>h):wpAnyS P md ops Q S s (fuel+1) listed a w:=sO hi hs hf hr hw hQ (Or.inl ⟨hx,hy⟩) hS h
theorem TA{P:Program}{ops:Array Oper}{Q:Exit→Act→World→Prop}{S:World→Prop}{md:Region.Mode}{s:Nat}(i:Nat){oi:Oper}{v:Value}{fuel:Nat}{listed:Array Bool}{a:Act}{w:World}(hi:ops[i]?=some oi)(hS:S w)
 (h:wpAnyS P md ops Q S s fuel (listed.setIfInBounds i true) (a.put oi.dst v) w) (hx:Region.wanted oi (yielded ops a.tmps)=true:=by as_aux_lemma=>kernel_rfl) (hy:∀w,S w→(execOp a.eval oi).run P w= .ok (.value v) w:=by intro w hSw;go_simp;first | done | with_reducible rfl)
 (hs:Region.noSelect ops=true:=by as_aux_lemma=>kernel_rfl) (hf:Region.free md ops listed i=true:=by as_aux_lemma=>kernel_rfl) (hr:(Region.ready md ops listed).contains i=true:=by as_aux_lemma=>kernel_rfl) (hw:waits md ops (Dq md ops i) s i listed=true:=by as_aux_lemma=>kernel_rfl)
 (hQ:∀c a w,Q (.panic c) (a.put oi.dst v) w→Q (.panic c) a w:=by exact fun c a w h=>h):wpAnyS P md ops Q S s (fuel+1) listed a w:=sO hi hs hf hr hw hQ (Or.inl ⟨hx,hy⟩) hS h
theorem RQ{P:Program}{md:Region.Mode}{ops:Array Oper}{Q:Exit→Act→World→Prop}{S:World→Prop}{s:Nat}(i:Nat){fuel:Nat}{listed:Array Bool}{a:Act}{w:World}{o:Oper}(ho:ops[i]?=some o)
 (h:∀K':Act→World→Prop,Go.Shut (∀a w,((listed.setIfInBounds i true).getD s false=false→S w)→wpAnyS P md ops Q S s fuel (listed.setIfInBounds i true) a w→K' a w)→if Region.wanted o (yielded ops a.tmps)=true then Oper.wp P o a w K' Q else K' (a.put o.dst undef) w)
 (hr:Region.ready md ops listed= [i]:=by kernel_rfl):wpAnyS P md ops Q S s (fuel+1) listed a w:=jB hr (by simp) (dx.cons ho h dx.nil)
def dR{α:Type}[DecidableEq α](x:α)(l:List α):Nat:=l.count x
section
variable {κ:Type} [DecidableEq κ]
theorem sP(x y:κ)(l:List κ):dR x (l++ [y])=dR x l+if x=y then 1 else 0:=by
 unfold dR;rw[List.count_append];by_cases e:x=y
 ·subst e;simp
 ·simp[List.count_cons,e,Ne.symm e,show¬y=x from fun h=>e h.symm]
theorem aAg(x:κ)(l:List κ):0<dR x l↔x∈l:=List.count_pos_iff
theorem vA(x:κ)(l:List κ):dR x l≤l.length:=List.count_le_length
theorem JU(x:κ)(l:List κ):decide (0<dR x l)=fP x l:=by
 unfold fP;rw[decide_eq_decide];exact aAg x l
def aH(M:jX κ)(w:World)(b:Nat)(l:List κ):Prop:=∃n,n≤l.length∧fG M w b n (l.foldl BZ []) fun x=>(dR x l:Int)
variable {M:jX κ} {w w':World} {b:Nat} {l:List κ}
theorem aH.made(w:World):aH M (w.alloc (.map #[] 0)) w.heap.size []:=⟨0,nL,fG.made w⟩
theorem aH.lt(h:aH M w b l):b<w.heap.size:=let ⟨_,_,h⟩:=h;h.lt
theorem aH.kept{row:Option Nat}(h:aH M w b l)(hg:w.grownBy w' row)(hne:some b≠row):aH M w' b l:=let ⟨n,h1,h2⟩:=h;⟨n,h1,h2.kept hg hne⟩
theorem aH.below{B:Nat}(h:aH M w b l)(hb:Below B w w')(hlt:b<B):aH M w' b l:=let ⟨n,h1,h2⟩:=h;⟨n,h1,h2.below hb hlt⟩
theorem aH.next(h:aH M w b l)(hb:Below w.heap.size w w'):aH M w' b l:=h.below hb h.lt
theorem aH.alloc(h:aH M w b l)(o:Obj):aH M (w.alloc o) b l:=let ⟨n,h1,h2⟩:=h;⟨n,h1,h2.alloc o⟩
theorem aH.drew(h:aH M w b l):aH M w.drew b l:=h
theorem aH.setCell(h:aH M w b l){a:Addr}(ha:b≠a.block)(u:Value):aH M (w.setCell a u) b l:=let ⟨n,h1,h2⟩:=h;⟨n,h1,h2.setCell ha u⟩
theorem aH.obj(h:aH M w b l):∃es clock,w.heap[b]?=some (.map es clock):=let ⟨_,_,h⟩:=h;h.obj
theorem aH.same(h:aH M w b l)(e:w'.heap[b]?=w.heap[b]?):aH M w' b l:=let ⟨n,h1,h2⟩:=h;⟨n,h1,h2.same e⟩
theorem aH.iH(h:aH M w b l){y:κ}(hy:M.good y):(Instr.lookup M.t (.map (some b)) (M.vl y) false).run pG w= .ok (.int .i64 (dR y l)) w:=let ⟨_,_,h⟩:=h;h.iH hy
theorem aH.aDL{n:Nat}{y:κ}(hn:n≤l.length)(h:fG M w b (n+1) (if y∈l.foldl BZ []then l.foldl BZ []else l.foldl BZ []++ [y]) (Mv (fun x=>(dR x l:Int)) y ((dR y l:Int)+1))):aH M w b (l++ [y]):=by
 refine⟨n+1,qo,?_⟩;rw[List.foldl_append];have e:(fun x=>(dR x (l++ [y]):Int))=Mv (fun x=>(dR x l:Int)) y ((dR y l:Int)+1):=by
  funext x;rw[sP];unfold Mv;by_cases e:x=y
  ·subst e;simp
  ·simp[e]
 rw[e];exact h
theorem aH.run_store(h:aH M w b l)(hl:l.length<maxLen){y:κ}(hy:M.good y):
 ∃w',(Instr.mapUpdate M.t (.map (some b)) (M.vl y) (.int .i64 ((dR y l:Int)+1))).run pG w= .ok () w'∧aH M w' b (l++ [y])∧w.grownBy w' (some b):=by
 obtain⟨n,h1,h2⟩:=h;have hc:=vA y l;have hm:maxLen=9223372036854775807:=rfl;obtain⟨w',hr,r1,r2⟩:=h2.run_store oz hy ((dR y l:Int)+1) (WalkArith.wf_i64 oz);exact⟨w',hr,aH.aDL h1 r1,r2⟩
end
end
section
open Go.ChangeShapes Go.WideShapes Go.ChangeAt Go.RowKit
theorem eZ{α:Type}(p:α→Bool)(l:List α):decide (cV p l≥0)=l.any p:=by
 rcases Pu p l with⟨k,h,e,_,hp⟩ | ⟨e,hn⟩
 ·rw[e,List.any_eq_true.2 ⟨l[k],List.getElem_mem h,hp⟩];simp
 ·rw[e]
  have:l.any p=false:=by
   rw[List.any_eq_false];intro x hx;have:=List.find?_eq_none.1 hn x hx;simpa using this
  rw[this];rfl
def JV(g:Nat)(lb:Array Value)(p:ByteArray→Bool)(l:List ByteArray)(w:World):Prop:=
 ∀(W:World) (r:ByteArray),r∈l→Below w.heap.size w W→CU g (#[.string r]++lb) W (.bool (p r))
theorem PA(g:Nat)(lb:Array Value)(p:ByteArray→Bool)(eg:∀args w,(callFunc g args).run pG w= .ok (.enter g args) w)(l:List ByteArray)(A:Option Addr)(c:Nat)(w:World)
 (hp:JV g lb p l w) (h:iB w w.heap.size A l) (hl:l.length≤9223372036854775807):
 CU 246 #[.slice A l.length c,.func (.func g) #[] lb] w (.int .i64 (cV p l)):=by
 go_enter Tryz.func246,Tryz.ntmps246;go_wp2;go_loopw [5,8] (fun _ i wr=>∃k:Nat,k≤l.length∧i= .int .i64 k∧Below w.heap.size w wr∧Hid (∀j (h:j<l.length),j<k→p l[j]=false)) (fun _ i _=>l.length-(intOf i).toNat)
 case atStart=>exact⟨0,nZ,rfl,Below.refl _ _,fun j _ h=>absurd h oz⟩
 case round=>
  obtain⟨k,hk,rfl,hB,aJ⟩:=hrel;by_cases hlt:k<l.length
  ·obtain⟨b,o,rfl,hb,hc⟩:=h.keep hB oz
   have gH:=hc k hlt;have au:=hp wr l[k] (List.getElem_mem hlt) hB;clear hc hp h;have hs:=hB.size;have cD:p l[k]=true→cV p l=k:=fun hq=>nR hlt hq aJ.out
   have cQ:p l[k]=false→∀j (h:j<l.length),j<k+1→p l[j]=false:=fun hq=>lU (p:=fun r=>p r=false) aJ.out hq
   have dU:=lz cD;have dH:=lz cQ;clear cD cQ aJ;generalize l[k]=r at gH au dU dH;have c0:=gH;clear gH
   cases hq:p r with
   | true=>
    have cD:=lz (dU.out hq);rw[hq]at au;clear dU dH hq;go_wp2_with (go_at_fn g;refine au.mono ?_;rintro e w' ⟨rfl,hb'⟩);go_ret;exact⟨eT cD.out.symm,hB.trans (hb'.mono hs)⟩
   | false=>
    have cQ:=lz (dH.out hq);rw[hq]at au;clear dU dH hq;go_wp2_with (go_at_fn g;refine au.mono ?_;rintro e w' ⟨rfl,hb'⟩);go_roundw
    case rel=>exact⟨k+1,oz,by go_num,hB.trans (hb'.mono hs),cQ⟩
    case measure=>simp[intOf];omega
  ·go_wp2
   go_ret;exact⟨eT (nM fun j hj=>aJ.out j hj oz).symm,hB⟩
theorem uF(g:Nat)(lb:Array Value)(p:ByteArray→Bool)(eg:∀args w,(callFunc g args).run pG w= .ok (.enter g args) w)(l:List ByteArray)(A:Option Addr)(c:Nat)(w:World)
 (hp:JV g lb p l w) (h:iB w w.heap.size A l) (hl:l.length≤9223372036854775807):
 CU 176 #[.slice A l.length c,.func (.func g) #[] lb] w (.bool (l.any p)):=by
 have hI:=PA g lb p eg l A c w hp h hl;rw[←eZ];generalize cV p l=q at hI ⊢;clear h hp;go_enter Tryz.func176,Tryz.ntmps176;go_wp2_with fail;refine hI.mono ?_;rintro e w1 ⟨rfl,aU⟩;clear hI;go_wp2;go_ret;exact⟨rfl,aU⟩
def CG(g:Nat)(lb:Array Value)(p:jI→Bool)(l:List jI)(w:World):Prop:=
 ∀(W:World) (r:jI),r∈l→Below w.heap.size w W→CU g (#[r.val]++lb) W (.bool (p r))
theorem PB(g:Nat)(lb:Array Value)(p:jI→Bool)(eg:∀args w,(callFunc g args).run pG w= .ok (.enter g args) w)(l:List jI)(A:Option Addr)(c:Nat)(w:World)
 (hp:CG g lb p l w) (h:jE w w.heap.size A l) (hl:l.length≤9223372036854775807):
 CU 232 #[.slice A l.length c,.func (.func g) #[] lb] w (.int .i64 (cV p l)):=by
 go_enter Tryz.func232,Tryz.ntmps232;go_wp2;go_loopw [5,8] (fun _ i wr=>∃k:Nat,k≤l.length∧i= .int .i64 k∧Below w.heap.size w wr∧Hid (∀j (h:j<l.length),j<k→p l[j]=false)) (fun _ i _=>l.length-(intOf i).toNat)
 case atStart=>exact⟨0,nZ,rfl,Below.refl _ _,fun j _ h=>absurd h oz⟩
 case round=>
  obtain⟨k,hk,rfl,hB,aJ⟩:=hrel;by_cases hlt:k<l.length
  ·obtain⟨b,o,rfl,hb,hc⟩:=h.keep hB oz
   have gH:=hc k hlt;have au:=hp wr l[k] (List.getElem_mem hlt) hB;clear hc hp h;have hs:=hB.size;have cD:p l[k]=true→cV p l=k:=fun hq=>nR hlt hq aJ.out
   have cQ:p l[k]=false→∀j (h:j<l.length),j<k+1→p l[j]=false:=fun hq=>lU (p:=fun r=>p r=false) aJ.out hq
   have dU:=lz cD;have dH:=lz cQ;clear cD cQ aJ;generalize l[k]=r at gH au dU dH;obtain⟨c0,c1⟩:=gH
   cases hq:p r with
   | true=>
    have cD:=lz (dU.out hq);rw[hq]at au;clear dU dH hq;go_wp2_with (go_at_fn g;refine au.mono ?_;rintro e w' ⟨rfl,hb'⟩);go_ret;exact⟨eT cD.out.symm,hB.trans (hb'.mono hs)⟩
   | false=>
    have cQ:=lz (dH.out hq);rw[hq]at au;clear dU dH hq;go_wp2_with (go_at_fn g;refine au.mono ?_;rintro e w' ⟨rfl,hb'⟩);go_roundw
    case rel=>exact⟨k+1,oz,by go_num,hB.trans (hb'.mono hs),cQ⟩
    case measure=>simp[intOf];omega
  ·go_wp2
   go_ret;exact⟨eT (nM fun j hj=>aJ.out j hj oz).symm,hB⟩
theorem uG(g:Nat)(lb:Array Value)(p:jI→Bool)(eg:∀args w,(callFunc g args).run pG w= .ok (.enter g args) w)(l:List jI)(A:Option Addr)(c:Nat)(w:World)
 (hp:CG g lb p l w) (h:jE w w.heap.size A l) (hl:l.length≤9223372036854775807):
 CU 141 #[.slice A l.length c,.func (.func g) #[] lb] w (.bool (l.any p)):=by
 have hI:=PB g lb p eg l A c w hp h hl;rw[←eZ];generalize cV p l=q at hI ⊢;clear h hp;go_enter Tryz.func141,Tryz.ntmps141;go_wp2_with fail;refine hI.mono ?_;rintro e w1 ⟨rfl,aU⟩;clear hI;go_wp2;go_ret;exact⟨rfl,aU⟩
def JW(g:Nat)(lb:Array Value)(p:fC→Bool)(l:List fC)(w:World):Prop:=
 ∀(W:World) (r:fC),r∈l→Below w.heap.size w W→r.rd W W.heap.size→CU g (#[r.val]++lb) W (.bool (p r))
theorem PD(g:Nat)(lb:Array Value)(p:fC→Bool)(eg:∀args w,(callFunc g args).run pG w= .ok (.enter g args) w)(l:List fC)(A:Option Addr)(c:Nat)(w:World)
 (hp:JW g lb p l w) (h:kr w w.heap.size A l) (hl:l.length≤9223372036854775807):
 CU 175 #[.slice A l.length c,.func (.func g) #[] lb] w (.int .i64 (cV p l)):=by
 go_enter Tryz.func175,Tryz.ntmps175;go_wp2;go_loopw [5,8] (fun _ i wr=>∃k:Nat,k≤l.length∧i= .int .i64 k∧Below w.heap.size w wr∧Hid (∀j (h:j<l.length),j<k→p l[j]=false)) (fun _ i _=>l.length-(intOf i).toNat)
 case atStart=>exact⟨0,nZ,rfl,Below.refl _ _,fun j _ h=>absurd h oz⟩
 case round=>
  obtain⟨k,hk,rfl,hB,aJ⟩:=hrel;by_cases hlt:k<l.length
  ·obtain⟨b,o,rfl,hb,hc⟩:=h.keep hB oz
   have gH:=hc k hlt;have au:=hp wr l[k] (List.getElem_mem hlt) hB (gH.2.2.2.more (nT nL hB.size));clear hc hp h;have hs:=hB.size;have cD:p l[k]=true→cV p l=k:=fun hq=>nR hlt hq aJ.out
   have cQ:p l[k]=false→∀j (h:j<l.length),j<k+1→p l[j]=false:=fun hq=>lU (p:=fun r=>p r=false) aJ.out hq
   have dU:=lz cD;have dH:=lz cQ;clear cD cQ aJ;generalize l[k]=r at gH au dU dH;obtain⟨c0,c1,c2,_⟩:=gH
   cases hq:p r with
   | true=>
    have cD:=lz (dU.out hq);rw[hq]at au;clear dU dH hq;go_wp2_with (go_at_fn g;refine au.mono ?_;rintro e w' ⟨rfl,hb'⟩);go_ret;exact⟨eT cD.out.symm,hB.trans (hb'.mono hs)⟩
   | false=>
    have cQ:=lz (dH.out hq);rw[hq]at au;clear dU dH hq;go_wp2_with (go_at_fn g;refine au.mono ?_;rintro e w' ⟨rfl,hb'⟩);go_roundw
    case rel=>exact⟨k+1,oz,by go_num,hB.trans (hb'.mono hs),cQ⟩
    case measure=>simp[intOf];omega
  ·go_wp2
   go_ret;exact⟨eT (nM fun j hj=>aJ.out j hj oz).symm,hB⟩
theorem jJ(g:Nat)(lb:Array Value)(p:fC→Bool)(eg:∀args w,(callFunc g args).run pG w= .ok (.enter g args) w)(l:List fC)(A:Option Addr)(c:Nat)(w:World)
 (hp:JW g lb p l w) (h:kr w w.heap.size A l) (hl:l.length≤9223372036854775807):
 CU 95 #[.slice A l.length c,.func (.func g) #[] lb] w (.bool (l.any p)):=by
 have hI:=PD g lb p eg l A c w hp h hl;rw[←eZ];generalize cV p l=q at hI ⊢;clear h hp;go_enter Tryz.func95,Tryz.ntmps95;go_wp2_with fail;refine hI.mono ?_;rintro e w1 ⟨rfl,aU⟩;clear hI;go_wp2;go_ret;exact⟨rfl,aU⟩
end
end Go.Proofs.YtmdgooofdmpcjaaGreatDoor
