import Derived.Test.YtchfcgilpjkmhaaGreatDoorProg
import Derived.WalkKit
import Derived.ProofKit
import Derived.OpenShut
import Derived.Deep.QuietTactic
import Derived.BigQuiet
import Derived.Lib.Hide
import Derived.WalkLawsBesides
import Derived.WalkSpells
import Derived.Shelf.Abstract
import Derived.Deep.RegionHeld3
import Derived.Deep.Draws
import Derived.Laws.Rows
import Derived.Deep.AppendLies
import Derived.Maps.AppendAt
import Derived.Laws.MakeOwn
import Derived.Laws.EntriesVeiled
import Derived.Deep.RegionLaw
import Derived.RangeFuncNested
import Derived.RangeFuncLeaves
import Derived.OwnWalkIn
import Derived.TacticsInMore
import Derived.LoopNIn
import Derived.LoopIn
import Derived.IntWalk
import Derived.ArgAppend
import Derived.Maps.OwnSet
import Derived.Maps.OwnIn
import Derived.KernelRfl
import Derived.Deep.Slices
import Derived.Deep.Fields
import Derived.ChangeSame
import Derived.Lib.SmallJoins
import Derived.Maps.RangeWalk
set_option maxRecDepth 100000
set_option linter.unusedSimpArgs false
set_option linter.unusedVariables false
set_option linter.unusedSectionVars false
namespace Go.Proofs.YtchfcgilpjkmhaaGreatDoor
open Go.ChangeShapes Go.WideShapes Go.ChangeAt Go.RowKit
theorem kz{p:Prop}(h:p:=by kernel_rfl):p:=h
theorem az{p:Prop}(h:p:=by as_aux_lemma=>kernel_rfl):p:=h
theorem gz{p:Prop}(h:p:=by go_simp;first | done | with_reducible rfl):p:=h
theorem lz{p:Prop}(h:p):RowKit.Hid p:=h
abbrev CU(f:FuncId)(a:Array Value)(w:World)(v:Value):Prop:=Calls Tryz.prog f a w fun e w'=>e= .returned v∧Below w.heap.size w w'
theorem ret_bool{a b:Bool}(h:a=b):Ending.returned (.bool a)= .returned (.bool b):=by rw[h]
theorem ret_int{k:IntKind}{a b:Int}(h:a=b):Ending.returned (.int k a)= .returned (.int k b):=by rw[h]
def Blk(w:World)(g:Nat)(t:TypeId)(cs:Array Value):Prop:=w.heap[g]?=some (.cells cs t (0,0))
section
variable {w w':World} {g:Nat} {t:TypeId} {cs:Array Value}
theorem Blk.lt(h:Blk w g t cs):g<w.heap.size:=by
 rcases Nat.lt_or_ge g w.heap.size with hlt | hge
 ·exact hlt
 ·unfold Blk at h;rw[Array.getElem?_eq_none hge]at h;cases h
theorem Blk.cell(h:Blk w g t cs)(i:Nat):w.cell? ⟨g,i,none⟩=cs[i]?:=cell_of_row w g i cs t (0,0) h
theorem Blk.frozen(h:Blk w g t cs)(i:Nat):w.frozen? ⟨g,i,none⟩=false:=by
 unfold Blk at h;simp[World.frozen?,h]
theorem Blk.new(w:World)(t:TypeId)(cs:Array Value):Blk (w.alloc (.cells cs t)) w.heap.size t cs:=heap_alloc_new w _
theorem Blk.drew(h:Blk w g t cs):Blk w.drew g t cs:=h
theorem Blk.drewN(h:Blk w g t cs)(n:Nat):Blk (w.drewN n) g t cs:=h
theorem Blk.alloc(h:Blk w g t cs)(o:Obj):Blk (w.alloc o) g t cs:=(Below.heap_alloc w o g h.lt).trans h
theorem Blk.set_(h:Blk w g t cs)(i:Nat)(u:Value):Blk (w.setCell ⟨g,i,none⟩ u) g t (cs.setIfInBounds i u):=by
 unfold Blk at h ⊢;simp[World.setCell,Array.getElem?_modify,h]
theorem Blk.far(h:Blk w g t cs){p:Addr}(hp:g≠p.block)(u:Value):Blk (w.setCell p u) g t cs:=(Below.heap_setCell w p u g hp).trans h
theorem Blk.below{B:Nat}(h:Blk w g t cs)(hb:Below B w w')(hg:g<B):Blk w' g t cs:=(hb.block g hg).trans h
theorem Blk.grown{row:Option Nat}(h:Blk w g t cs)(hb:w.grownBy w' row)(hg:some g≠row):Blk w' g t cs:=(hb.block g h.lt hg).trans h
theorem Blk.ne_{g':Nat}{t':TypeId}{cs':Array Value}(h:Blk w g t cs)(h':Blk w g' t' cs')(hne:t≠t'):g≠g':=by
 rintro rfl;unfold Blk at h h';rw[h]at h';injection h' with h'
 injection h' with _ ht
 exact hne ht
theorem own_blk_ne{base:Nat}{e:TypeId}{size n:Nat}{v:Value}{xs:List Value}(h:w.ownsRow base e size v n xs)(hg:Blk w g t cs)(hne:e≠t):v.ownBlock≠some g:=by
 rcases h.2 with⟨rfl,_⟩ | ⟨g',cap,cur,rfl,_,hh,_⟩
 ·simp[Value.ownBlock]
 ·intro he
  have:g'=g:=by simpa [Value.ownBlock]using he
  subst this;exact Blk.ne_ (t:=e) hh hg hne rfl
end
def idxI{α:Type}(p:α→Bool)(l:List α):Int:=match l.findIdx? p with | some i=>i | none=> -1
theorem idxI_hit{α:Type}{p:α→Bool}{l:List α}{k:Nat}(hk:k<l.length)(h:p l[k]=true)(hall:∀j (h:j<l.length),j<k→p l[j]=false):idxI p l=k:=by
 have:l.findIdx? p=some k:=by
  rw[List.findIdx?_eq_some_iff_getElem];exact⟨hk,h,fun j hj=>by simp[hall j (by omega) hj]⟩
 simp[idxI,this]
theorem idxI_miss{α:Type}{p:α→Bool}{l:List α}(hall:∀j (h:j<l.length),p l[j]=false):idxI p l= -1:=by
 have:l.findIdx? p=none:=by
  rw[List.findIdx?_eq_none_iff];intro x hx;obtain⟨j,hj,rfl⟩:=List.getElem_of_mem hx;simp[hall j hj]
 simp[idxI,this]
theorem find_cases{α:Type}(p:α→Bool)(l:List α):(∃k,∃h:k<l.length,idxI p l=k∧l.find? p=some l[k]∧p l[k]=true)∨(idxI p l= -1∧l.find? p=none):=by
 rcases hf:l.findIdx? p with _ | i
 ·refine .inr ⟨by simp[idxI,hf],?_⟩
  rw[List.findIdx?_eq_none_iff]at hf;rw[List.find?_eq_none];intro x hx;simp[hf x hx]
 ·rw[List.findIdx?_eq_some_iff_getElem]at hf
  obtain⟨h1,h2,h3⟩:=hf;refine .inl ⟨i,h1,idxI_hit h1 h2 fun j hj hji=>by simpa using h3 j hji,?_,h2⟩;rw[List.find?_eq_some_iff_getElem];exact⟨h2,i,h1,rfl,fun j hj=>by simpa using h3 j hj⟩
theorem forall_succ{α:Type}{p:α→Prop}{l:List α}{k:Nat}{hk:k<l.length}(hall:∀j (h:j<l.length),j<k→p l[j])(h:p l[k]):∀j (h:j<l.length),j<k+1→p l[j]:=fun j hj hjk=>by
 by_cases e:j=k
 ·subst e;exact h
 ·exact hall j hj (by omega)
theorem block_of_add(a:Addr)(n:Nat):(a.add n).block=a.block:=by unfold Addr.add;split<;>rfl
theorem add_of_add(a:Addr)(i j:Nat):(a.add i).add j=a.add (i+j):=by
 unfold Addr.add;by_cases hi:i=0<;>by_cases hj:j=0<;>simp[hi,hj,Nat.add_assoc]
def Reads(w:World)(B size:Nat)(A:Option Addr)(n:Nat)(xs:List Value):Prop:=
 xs.length=n*size∧(0<n→∃ad,A=some ad∧ad.block<B∧∀j u,xs[j]?=some u→w.cell? (ad.add j)=some u)
section
variable {w w':World} {B B' size n:Nat} {A:Option Addr} {xs:List Value}
theorem Reads.at_{k:Nat}(h:Reads w B 1 A n xs)(hk:k<n):∃ad u,A=some ad∧ad.block<B∧xs[k]?=some u∧w.cell? (ad.add k)=some u:=by
 obtain⟨ad,e,hb,hc⟩:=h.2 (by omega);have hl:k<xs.length:=by have:=h.1;omega
 exact⟨ad,xs[k],e,hb,List.getElem?_eq_getElem hl,hc k _ (List.getElem?_eq_getElem hl)⟩
theorem Reads.keep(h:Reads w B size A n xs)(hk:∀p:Addr,p.block<B→w'.cell? p=w.cell? p):Reads w' B size A n xs:=
 ⟨h.1,fun hn=>by
  obtain⟨ad,e,hb,hc⟩:=h.2 hn;exact⟨ad,e,hb,fun j u hu=>(hk _ (by rw[block_of_add];exact hb)).trans (hc j u hu)⟩⟩
theorem Reads.more(h:Reads w B size A n xs)(hB:B≤B'):Reads w B' size A n xs:=
 ⟨h.1,fun hn=>by
  obtain⟨ad,e,hb,hc⟩:=h.2 hn;exact⟨ad,e,by omega,hc⟩⟩
theorem Reads.below(h:Reads w B size A n xs)(hb:Below B w w'):Reads w' B size A n xs:=h.keep fun _ hp=>hb.cell hp
theorem Reads.drew(h:Reads w B size A n xs):Reads w.drew B size A n xs:=h
theorem Reads.drewN(h:Reads w B size A n xs)(k:Nat):Reads (w.drewN k) B size A n xs:=h
theorem Reads.alloc(h:Reads w B size A n xs)(hB:B≤w.heap.size)(o:Obj):Reads (w.alloc o) B size A n xs:=h.keep fun p hp=>World.cell?_alloc_lt w o p (by omega)
theorem Reads.setCell(h:Reads w B size A n xs){p:Addr}(hB:B≤p.block)(u:Value):Reads (w.setCell p u) B size A n xs:=
 h.keep fun q hq=>World.cell?_setCell_other w p q u (fun e=>by subst e;omega)
theorem Reads.grown(h:Reads w B size A n xs){row:Option Nat}(hg:w.grownBy w' row)(hB:B≤w.heap.size)(hr:∀g,row=some g→B≤g):Reads w' B size A n xs:=
 h.keep fun p hp=>World.cell?_of_block (hg.block p.block (by omega) (fun e=>by have:=hr _ e.symm;omega))
theorem Reads.cut(h:Reads w B size A n xs){k cap:Nat}(hk:k≤n)(hc:n≤cap):
 Reads w B size (if cap=k then A else A.map (·.add (k*size))) (n-k) (xs.drop (k*size)):=by
 refine⟨by rw[List.length_drop,h.1,Nat.sub_mul],fun hn=> ?_⟩;obtain⟨ad,rfl,hb,hcell⟩:=h.2 (by omega);rw[if_neg (by omega)];refine⟨ad.add (k*size),rfl,by rw[block_of_add];exact hb,fun j u hu=> ?_⟩;rw[add_of_add];exact hcell _ u (by rw[←hu,List.getElem?_drop])
end
section
variable {P:Program} (w:World)
theorem run_append_of_nil(base:Nat)(t ty e:TypeId)(i:TypeInfo)(size:Nat)(ht:P.underlying t=some (.slice e))(hi:P.info? e=some i)
 (v:Value) (n:Nat) (xs:List Value) (hown:w.ownsRow base e size v n xs) (c:Nat):(Builtin.append_ #[t,t] ty #[v,.slice none 0 c]).run P w= .ok v w:=by
 rcases hown.2 with⟨rfl,rfl⟩ | ⟨g,cap,cur,rfl,_,_,hnc,_⟩
 ·simp[Builtin.append_,run_underlying ht,sizeOf,typeInfo,hi,Builtin.lenOf,Builtin.firstCells]
 ·simp[Builtin.append_,run_underlying ht,sizeOf,typeInfo,hi,Builtin.lenOf,Builtin.firstCells,hnc,storeCells]
theorem run_append_any(base:Nat)(t ty e:TypeId)(i:TypeInfo)(z:Value)(size bytes:Nat)(ht:P.underlying t=some (.slice e))(hi:P.info? e=some i)(hz:i.zero=some z)
 (hsize:i.size=size) (hby:i.bytes=bytes) (hzs:z.cells.size=size) (hsz:0<size)
 (v:Value) (n:Nat) (xs:List Value) (hown:w.ownsRow base e size v n xs)
 (B:Nat) (A:Option Addr) (m c:Nat) (news:List Value) (hr:Reads w B size A m news) (h1:∀u∈news,u.oneCell'=true)
 (h63:n+m≤maxLen) (hbytes:(n+m)*bytes≤140737488355328) (hbase:base≤w.heap.size):
 ∃v' w',(Builtin.append_ #[t,t] ty #[v,.slice A m c]).run P w= .ok v' w'∧w'.ownsRow base e size v' (n+m) (xs++news)∧w.grownBy w' v.ownBlock∧
  (v'.ownBlock=v.ownBlock∨v'.ownBlock=some w.heap.size):=by
 rcases A with _ | ad
 ·have hm:m=0:=by
   rcases Nat.eq_zero_or_pos m with h0 | h0
   ·exact h0
   ·obtain⟨ad,h,_⟩:=hr.2 h0
    cases h
  subst hm;have hn:news= []:=List.eq_nil_of_length_eq_zero (by simpa using hr.1);subst hn;exact⟨v,w,run_append_of_nil w base t ty e i size ht hi v n xs hown c,by simpa using hown,World.grownBy.refl w _,.inl rfl⟩
 ·have hcells:∀j u,news[j]?=some u→w.cell? (ad.add j)=some u:=by
   intro j u hu;rcases Nat.eq_zero_or_pos m with h0 | h0
   ·subst h0
    have hn:news= []:=List.eq_nil_of_length_eq_zero (by simpa using hr.1);subst hn;simp at hu
   ·obtain⟨ad',h,_,hc⟩:=hr.2 h0
    injection h with h
    subst h;exact hc j u hu
  obtain⟨v',w',hrun,h2,h3,_,h5⟩:=run_append_own_at (P:=P) w base t ty e i z size bytes ht hi hz hsize hby hzs hsz v n xs hown ad m c news hr.1 hcells h1 h63 hbytes hbase;exact⟨v',w',hrun,h2,h3,h5⟩
theorem wp_append_any{o:Oper}{a:Act}{K:Act→World→Prop}{Q:Exit→Act→World→Prop}(s x:Operand)(t:TypeId)
 (ho:o.op= .call {callee:= .builtin .append,args:= #[s,x],argTypes:= #[t,t]})
 (base:Nat) (e:TypeId) (i:TypeInfo) (z:Value) (size bytes:Nat) (ht:P.underlying t=some (.slice e)) (hi:P.info? e=some i) (hz:i.zero=some z)
 (hsize:i.size=size) (hby:i.bytes=bytes) (hzs:z.cells.size=size) (hsz:0<size)
 (v:Value) (n:Nat) (xs:List Value) (hs:a.eval s=v) (hown:w.ownsRow base e size v n xs)
 (B:Nat) (A:Option Addr) (m c:Nat) (news:List Value) (hx:a.eval x= .slice A m c) (hr:Reads w B size A m news) (h1:∀u∈news,u.oneCell'=true)
 (h63:n+m≤maxLen) (hbytes:(n+m)*bytes≤140737488355328) (hbase:base≤w.heap.size)
 (h:∀v' w',w'.ownsRow base e size v' (n+m) (xs++news)→w.grownBy w' v.ownBlock→(v'.ownBlock=v.ownBlock∨v'.ownBlock=some w.heap.size)→K (a.put o.dst v') w'):o.wp P a w K Q:=by
 obtain⟨v',w',hrun,h2,h3,h4⟩:=run_append_any (P:=P) w base t o.type e i z size bytes ht hi hz hsize hby hzs hsz v n xs hown B A m c news hr h1 h63 hbytes hbase;unfold Oper.wp execOp;simp only[ho,resolve,invoke,builtin,Sem.run_bind,Sem.run_pure,Result.andThen_ok,List.map_toArray,List.map_cons,List.map_nil,hs,hx,hrun];exact h v' w' h2 h3 h4
theorem wpList_append_any{ops:Array Oper}{rest:List Oper}{o:Oper}{a:Act}{Q:Exit→Act→World→Prop}(hgd:o.guard=none)(s x:Operand)(t:TypeId)
 (ho:o.op= .call {callee:= .builtin .append,args:= #[s,x],argTypes:= #[t,t]})
 (base:Nat) (e:TypeId) (i:TypeInfo) (z:Value) (size bytes:Nat) (ht:P.underlying t=some (.slice e)) (hi:P.info? e=some i) (hz:i.zero=some z)
 (hsize:i.size=size) (hby:i.bytes=bytes) (hzs:z.cells.size=size) (hsz:0<size)
 (v:Value) (n:Nat) (xs:List Value) (hs:a.eval s=v) (hown:w.ownsRow base e size v n xs)
 (B:Nat) (A:Option Addr) (m c:Nat) (news:List Value) (hx:a.eval x= .slice A m c) (hr:Reads w B size A m news) (h1:∀u∈news,u.oneCell'=true)
 (h63:n+m≤maxLen) (hbytes:(n+m)*bytes≤140737488355328) (hbase:base≤w.heap.size)
 (h:∀v' w',w'.ownsRow base e size v' (n+m) (xs++news)→w.grownBy w' v.ownBlock→(v'.ownBlock=v.ownBlock∨v'.ownBlock=some w.heap.size)→wpList P ops Q rest (a.put o.dst v') w'):wpList P ops Q (o :: rest) a w:=
 wpList_plain hgd fun _ hK=>wp_append_any w s x t ho base e i z size bytes ht hi hz hsize hby hzs hsz v n xs hs hown B A m c news hx hr h1 h63 hbytes hbase fun v' w' h2 h3 h4=>hK _ _ (h v' w' h2 h3 h4)
end
theorem only_alloc{a w:World}{row:Option Nat}(h:a.grownBy w row)(o:Obj):a.grownBy (w.alloc o) row:=
 ⟨h.os,h.tape,h.output,Nat.le_trans h.size (by simp),fun i hi hne=>(Below.heap_alloc w o i (Nat.lt_of_lt_of_le hi h.size)).trans (h.block i hi hne)⟩
theorem only_of_below{a w:World}(h:Below a.heap.size a w)(row:Option Nat):a.grownBy w row:=⟨h.os,h.tape,h.output,h.size,fun i hi _=>h.block i hi⟩
structure Ext(w0:World) where
 w:World
 h:Below w0.heap.size w0 w
instance (w0:World):Nonempty (Ext w0):=⟨⟨w0,Below.refl _ _⟩⟩
theorem ext_cell(w0:World):∀(x:Ext w0) b o,b<w0.heap.size→x.w.cell? ⟨b,o,none⟩=w0.cell? ⟨b,o,none⟩:=fun x b o hb=>x.h.cell (p:=⟨b,o,none⟩) hb
theorem wp_region_ext{P:Program}{id:Nat}{Q:Exit→Act→World→Prop}{a:Act}{w:World}{l:List Oper}(hm:P.follows .mixedOrders=true)(hB:Region.lexB .any l.toArray=true)
 (h:wpQuiet P l.toArray (fun w'=>∃x:Ext w,w'=x.w) (fun a'=>∀w',(∃x:Ext w,w'=x.w)→Q .normal a' w') l a):(Code.region id l.toArray true).wp P Q a w:=
 wp_region_quiet (C:=fun w'=>∃x:Ext w,w'=x.w) hm hB ⟨⟨w.drew,(Below.refl _ _).drew⟩,rfl⟩ (by simpa using h)
theorem ext_call{P:Program}{f:FuncId}{args:Array Value}{w0:World}{x:Ext w0}{v:Value}(h:Calls P f args x.w fun e w'=>e= .returned v∧Below x.w.heap.size x.w w'):
 Calls P f args x.w fun e w''=>e= .returned v∧∃y:Ext w0,w''=y.w:=
 h.mono fun _ w' ⟨he,hb⟩=>⟨he,⟨w',x.h.trans (hb.mono x.h.size)⟩,rfl⟩
attribute [local go_sem] Oper.semAt_some
theorem wide_call{P:Program}{f n:Nat}{args:Array Value}{w:World}{R R':Ending→World→Prop}(h:Calls P f args w R)(hm:∀e w',R e w'→R' e w'):Fence.wide.fn f∧CallsIn Fence.wide n P f args w R':=
 ⟨trivial,(callsIn_wide.2 h).mono hm⟩
theorem round_call{P:Program}{f n l:Nat}{args:Array Value}{w:World}{R R':Ending→World→Prop}(h:Calls P f args w R)(hm:∀e w',R e w'→R' e w'):(Fence.wide.inRound l).fn f∧CallsIn (Fence.wide.inRound l) n P f args w R':=
 ⟨trivial,CallsIn.inRound l ((callsIn_wide.2 h).mono hm)⟩
theorem ownFrom_blk{β:Type}(B g:Nat)(t:TypeId)(cs:Array Value):OwnFrom B (fun(_:β) W=>Blk W g t cs):=fun _ X _ _ hs hg hr=>
 (hg.block g hs.lt (fun e=>by obtain⟨_,o,ho,hc⟩:=hr g e.symm;rw[show X.heap[g]?=_ from hs]at ho;cases ho;cases hc)).trans hs
structure Shut(B:Nat)(W W':World):Prop where
 below:Below B W W'
 cells:∀(k:Nat) (o:Obj),W.heap[k]?=some o→o.isCells=true→W'.heap[k]?=some o
 size:W.heap.size≤W'.heap.size
def markD(D:Nat):Deferred:={target:= .collected D,args:= #[]}
theorem leaves_marks{F:Fence}{n:Nat}{P:Program}{fn:Func}{tmps:Array Value}{R:Ending→World→Prop}:∀(Ds:List Nat) (W:World) (B:Nat),Ds.Nodup→(∀D∈Ds,B≤D∧W.heap[D]?=some (.deferred (some [])))→
 (∀W',Shut B W W'→LeavesIn F n P fn tmps R [] .returning W')→LeavesInM F n P fn tmps R (Ds.map markD) .returning W
 | [],W,B,_,_,h=>h W ⟨Below.refl _ _,fun _ _ hk _=>hk,Nat.le_refl _⟩
 | D :: Ds,W,B,hn,hm,h=>by
  obtain⟨hD,hn'⟩:=List.nodup_cons.1 hn;obtain⟨hB,hW⟩:=hm D (by simp);refine⟨by simp,.inl ⟨D,_,rfl,run_takeDeferred hW,?_⟩⟩;refine leaves_marks Ds _ B hn' (fun E hE=>⟨(hm E (by simp[hE])).1,(World.putObj_heap_other (by rintro rfl;exact hD hE)).trans (hm E (by simp[hE])).2⟩) fun W' hS=>h W' ?_
  refine⟨?_,fun k o hk hc=>hS.cells k o ((World.putObj_heap_other (fun e=> ?_)).trans hk) hc,?_⟩
  ·exact((Below.refl B W).grown (grownBy_putObj' W D (.deferred none)) (by have:=(Array.getElem?_eq_some_iff.1 hW).1;omega) (fun k e=>by cases e;omega)).trans hS.below
  ·subst e;rw[hW]at hk;cases hk;cases hc
  ·have:=hS.size;simpa using this
theorem own_cells{W:World}{base n:Nat}{t:TypeId}{size:Nat}{v:Value}{xs:List Value}(h:W.ownsRow base t size v n xs)(j:Nat)(o:Obj)(hj:v.ownBlock=some j)(ho:W.heap[j]?=some o):o.isCells=true:=by
 rcases h.2 with⟨rfl,_⟩ | ⟨g,cap,cur,rfl,_,hh,_⟩
 ·cases hj
 ·have:g=j:=by simpa [Value.ownBlock]using hj
  subst this;rw[hh]at ho;cases ho;rfl
theorem below_grown{W W':World}{row:Option Nat}(h:Below W.heap.size W W'):W.grownBy W' row:=⟨h.os,h.tape,h.output,h.size,fun k hk _=>h.block k hk⟩
end Go.Proofs.YtchfcgilpjkmhaaGreatDoor
namespace Go.Proofs.YtchfcgilpjkmhaaGreatDoor
open Go.ChangeShapes Go.WideShapes Go.ChangeAt Go.RowKit Go.Deep
section
variable {H:Type} {enc:TypeId×Value→H} {P:Program}
theorem trodAll_stays(hl:laidOutB P=true){W W':World}{sp:Nat→Bool}:∀(ts:List TypeId) (vs:List Value) (ds:List (DataW H)) (ps:List MemPlace),(∀t∈ts,P.readableRec t=true∧t<P.types.size)→
 DataW.TrodAll enc P W 0 (fun _=>true) true ts vs ds ps→(∀p∈ps,W.sameAt W' p)→(∀p∈ps,sp p.block=true)→DataW.TrodAll enc P W' 0 sp true ts vs ds ps
 | [],[],[],_,_,h,_,_=>h
 | t :: ts,v :: vs,d :: ds,ps,hr,h,hs,hsp=>by
  obtain⟨p,q,hp,hq,rfl⟩:=h;have ht:=hr t (by simp);exact⟨p,q,WideElems.Trod_stays hl ht.1 ht.2 hp (fun x hx=>hs x (by simp[hx])) (fun x hx=>hsp x (by simp[hx])),
   trodAll_stays hl ts vs ds q (fun u hu=>hr u (by simp[hu])) hq (fun x hx=>hs x (by simp[hx])) (fun x hx=>hsp x (by simp[hx])),rfl⟩
 | [],_ :: _,_,_,_,h,_,_=>by cases h
 | [],[],_ :: _,_,_,h,_,_=>by cases h
 | _ :: _,[],_,_,_,h,_,_=>by cases h
 | _ :: _,_ :: _,[],_,_,h,_,_=>by cases h
theorem post_of_below{f:Func}{s:ChangeSpec}{apart fresh handsOn again:Bool}{W W':World}{args:Array Value}{v:Value}{ds gs:List (DataW H)}{before pa pv:List MemPlace}
 (hW:DataW.Whole enc P f.params.toList s.vars apart W args.toList ds gs before)
 (hres:∀(b:Nat) (sp:Nat→Bool) (hd:Bool),DataW.TrodAll enc P W' b sp hd f.resultTypes.toList (v.resultList f.resultTypes.size) (s.fn H (ds++gs)).results [])
 (hargs:∀sp:Nat→Bool,(∀p∈before,sp p.block=true)→DataW.TrodAll enc P W' 0 sp true f.params.toList args.toList (s.fn H (ds++gs)).args pa)
 (hvars:∀sp:Nat→Bool,(∀p∈before,sp p.block=true)→DataW.TrodVars enc P W' sp s.vars (s.fn H (ds++gs)).vars pv)
 (hps:before=pa++pv) (hb:Below W.heap.size W W')
 (hok:∀(j:Nat) (t:TypeId) (r:Value),f.resultTypes[j]?=some t→(v.resultList f.resultTypes.size)[j]?=some r→Value.okWide P W' .any 0 t r):
 s.post enc P f apart fresh handsOn again W args v W':=by
 have hlt:∀p∈before,p.block<W.heap.size:=fun p hp=>hW.lt p hp
 have hold:∀p∈before,(fun b=>decide (b<W.heap.size)) p.block=true:=fun p hp=>by simpa using hlt p hp
 refine⟨ds,gs,before,[],pa,pv,hW,hres _ _ _,hargs _ hold,hvars _ hold,World.keptBut_mono (fun p hp=>⟨hp,?_⟩) (hb.frame (· ∈before)),fun _=> ?_⟩
 ·rw[hps,List.mem_append]at hp
  exact Or.inr hp
 ·obtain⟨_,_,_,_,_,hz,hn⟩:=hW
  refine⟨hok,_,_,([]++pa)++pv,⟨[]++pa,pv,trodAll_append (hargs _ (fun _ _=>rfl)) (hres _ _ _),hvars _ (fun _ _=>rfl),rfl,?_,?_⟩,?_⟩
  ·intro b off hp
   have hin:MemPlace.cell b off∈before:=by rw[hps];simpa using hp
   rw[hb.frozen (hlt _ hin)];exact hz b off hin
  ·intro ha
   have:=hn ha;rw[hps]at this;simpa using this
  ·intro p hp _
   rw[hps];simpa using hp
theorem law_post{f:Func}{s:ChangeSpec}{apart fresh handsOn again:Bool}{W W':World}{args:Array Value}{ds gs:List (DataW H)}{before:List MemPlace}{tb:TypeId}
 (hl:laidOutB P=true) (hr:∀t∈f.params.toList,P.readableRec t=true∧t<P.types.size) (hrt:f.resultTypes= #[tb]) (htb:P.underlying tb=some .bool) (hsv:s.vars= [])
 (hW:DataW.Whole enc P f.params.toList s.vars apart W args.toList ds gs before)
 (hs:(s.fn H ds).results= [.lit (.bool true)]∧(s.fn H ds).args=ds∧(s.fn H ds).vars= []) (hb:Below W.heap.size W W'):
 s.post enc P f apart fresh handsOn again W args (.bool true) W':=by
 have hW':=hW;obtain⟨p,q,hA,hV,rfl,_,_⟩:=hW';rw[hsv]at hV;obtain⟨rfl,rfl⟩:=trodVars_none hV;have hlt:∀x∈p++ [],x.block<W.heap.size:=fun x hx=>hW.lt x hx
 refine post_of_below (pa:=p) (pv:= []) hW (fun b sp hd=> ?_) (fun sp hsp=> ?_) (fun sp _=> ?_) rfl hb ?_
 ·rw[List.append_nil,hs.1,hrt]
  exact trodAll_mk1 (shut_bool htb true)
 ·rw[List.append_nil,hs.2.1]
  exact trodAll_stays hl _ _ _ _ hr hA (fun x hx=>hb.same (hlt x (by simp[hx]))) (fun x hx=>hsp x (by simp[hx]))
 ·rw[List.append_nil,hs.2.2,hsv]
  rfl
 ·exact ok_one hrt rfl (okWide_bool_mk htb true)
variable {w:World} {base:Nat} {spare:Nat→Bool} {held:Bool}
theorem list_of{α:Type}(n:Nat)(p:Nat→α→Prop)(h:∀i,i<n→∃x,p i x):∃l:List α,l.length=n∧∀i (hi:i<l.length),p i l[i]:=by
 induction n with
 | zero=>exact⟨[],rfl,fun i hi=>by simp at hi⟩
 | succ n ih=>
  obtain⟨l,hl,hp⟩:=ih fun i hi=>h i (by omega)
  obtain⟨x,hx⟩:=h n (by omega);refine⟨l++ [x],by simp[hl],fun i hi=> ?_⟩;by_cases e:i<l.length
  ·rw[List.getElem_append_left e];exact hp i e
  ·have:i=l.length:=by simp at hi;omega
   subst this;simp;rw[hl];exact hx
theorem addr_of_cell{a:Addr}{v:Value}(h:w.cell? a=some v):a=⟨a.block,a.off,none⟩:=by
 obtain⟨b,o,s⟩:=a
 cases s with
 | none=>rfl
 | some s=>
  unfold World.cell? at h;split at h<;>simp at h
theorem add_none(b o j:Nat):(⟨b,o,none⟩:Addr).add j=⟨b,o+j,none⟩:=by unfold Addr.add;split<;>simp_all
end
theorem own:ownKnob Tryz.prog.godebug=none:=by kernel_rfl
theorem laid:laidOutB Tryz.prog=true:=by kernel_rfl
section
variable {H:Type} {enc:TypeId×Value→H} {P:Program} {w:World} {base:Nat} {spare:Nat→Bool} {held:Bool}
theorem weightsAll_mem{e:TypeId}:∀{el:List (DataW H)} {d:DataW H} {n:Nat},d∈el→n∈d.weights P e→n∈DataW.weightsAll P e el
 | [],_,_,h,_=>by simp at h
 | x :: r,d,n,h,hn=>by
  simp only[DataW.weightsAll,List.mem_append];rcases List.mem_cons.1 h with rfl | h
  ·exact .inl hn
  ·exact .inr (weightsAll_mem h hn)
end
inductive G where
 | one (v:Value)
 | row (t:Nat) (l:List (List G))
mutual
def G.rd(w:World)(Q:Nat→Prop)(v:Value):G→Prop
 | .one u=>v=u
 | .row _ l=>∃A c,v= .slice A l.length c∧l.length≤c∧c≤maxLen∧(0<l.length→∃b o,A=some ⟨b,o,none⟩∧Q b∧rdR w Q b o l)
def rdE(w:World)(Q:Nat→Prop)(b o:Nat):List G→Prop
 | []=>True
 | x :: r=>(∃v,w.cell? ⟨b,o,none⟩=some v∧G.rd w Q v x)∧rdE w Q b (o+1) r
def rdR(w:World)(Q:Nat→Prop)(b o:Nat):List (List G)→Prop
 | []=>True
 | e :: r=>rdE w Q b o e∧rdR w Q b (o+e.length) r
end
mutual
def G.ld(mk:Nat→Nat→List Value)(w:World)(Q:Nat→Prop)(v:Value):G→Prop
 | .one u=>v=u
 | .row t l=>∃g c,v= .slice (some ⟨g,0,none⟩) l.length c∧l.length+12≤c∧c≤maxLen∧Q g∧ldR mk w Q g 0 l∧∀i j u,i<12→(mk t i)[j]?=some u→w.cell? ⟨g,(l.length+i)*(mk t 0).length+j,none⟩=some u
def ldE(mk:Nat→Nat→List Value)(w:World)(Q:Nat→Prop)(b o:Nat):List G→Prop
 | []=>True
 | x :: r=>(∃v,w.cell? ⟨b,o,none⟩=some v∧G.ld mk w Q v x)∧ldE mk w Q b (o+1) r
def ldR(mk:Nat→Nat→List Value)(w:World)(Q:Nat→Prop)(b o:Nat):List (List G)→Prop
 | []=>True
 | e :: r=>ldE mk w Q b o e∧ldR mk w Q b (o+e.length) r
end
mutual
theorem G.rd.keep{w w':World}{Q Q':Nat→Prop}(h:∀b,Q b→(∀o,w'.cell? ⟨b,o,none⟩=w.cell? ⟨b,o,none⟩)∧Q' b)(v:Value):∀x:G,G.rd w Q v x→G.rd w' Q' v x
 | .one u,hx=>by simpa only[G.rd]using hx
 | .row t l,hx=>by
  simp only[G.rd]at hx ⊢;obtain⟨A,c,h1,h2,h3,h4⟩:=hx;refine⟨A,c,h1,h2,h3,fun hn=> ?_⟩;obtain⟨b,o,e,hq,hr⟩:=h4 hn;exact⟨b,o,e,(h b hq).2,rdR.keep h b o (h b hq).1 l hr⟩
theorem rdE.keep{w w':World}{Q Q':Nat→Prop}(h:∀b,Q b→(∀o,w'.cell? ⟨b,o,none⟩=w.cell? ⟨b,o,none⟩)∧Q' b)(b o:Nat)(ht:∀o,w'.cell? ⟨b,o,none⟩=w.cell? ⟨b,o,none⟩):∀l:List G,rdE w Q b o l→rdE w' Q' b o l
 | [],_=>by simp only[rdE]
 | x :: r,hx=>by
  simp only[rdE]at hx ⊢;obtain⟨⟨v,h1,h2⟩,h3⟩:=hx;exact⟨⟨v,(ht _).trans h1,G.rd.keep h v x h2⟩,rdE.keep h b (o+1) ht r h3⟩
theorem rdR.keep{w w':World}{Q Q':Nat→Prop}(h:∀b,Q b→(∀o,w'.cell? ⟨b,o,none⟩=w.cell? ⟨b,o,none⟩)∧Q' b)(b o:Nat)(ht:∀o,w'.cell? ⟨b,o,none⟩=w.cell? ⟨b,o,none⟩):∀l:List (List G),rdR w Q b o l→rdR w' Q' b o l
 | [],_=>by simp only[rdR]
 | e :: r,hx=>by
  simp only[rdR]at hx ⊢;exact⟨rdE.keep h b o ht e hx.1,rdR.keep h b (o+e.length) ht r hx.2⟩
end
mutual
theorem G.ld.keep{mk:Nat→Nat→List Value}{w w':World}{Q Q':Nat→Prop}(h:∀b,Q b→(∀o,w'.cell? ⟨b,o,none⟩=w.cell? ⟨b,o,none⟩)∧Q' b)(v:Value):∀x:G,G.ld mk w Q v x→G.ld mk w' Q' v x
 | .one u,hx=>by simpa only[G.ld]using hx
 | .row t l,hx=>by
  simp only[G.ld]at hx ⊢;obtain⟨g,c,h1,h2,h3,h4,h5,h6⟩:=hx;exact⟨g,c,h1,h2,h3,(h g h4).2,ldR.keep h g 0 (h g h4).1 l h5,fun i j u hi hu=>((h g h4).1 _).trans (h6 i j u hi hu)⟩
theorem ldE.keep{mk:Nat→Nat→List Value}{w w':World}{Q Q':Nat→Prop}(h:∀b,Q b→(∀o,w'.cell? ⟨b,o,none⟩=w.cell? ⟨b,o,none⟩)∧Q' b)(b o:Nat)(ht:∀o,w'.cell? ⟨b,o,none⟩=w.cell? ⟨b,o,none⟩):∀l:List G,ldE mk w Q b o l→ldE mk w' Q' b o l
 | [],_=>by simp only[ldE]
 | x :: r,hx=>by
  simp only[ldE]at hx ⊢;obtain⟨⟨v,h1,h2⟩,h3⟩:=hx;exact⟨⟨v,(ht _).trans h1,G.ld.keep h v x h2⟩,ldE.keep h b (o+1) ht r h3⟩
theorem ldR.keep{mk:Nat→Nat→List Value}{w w':World}{Q Q':Nat→Prop}(h:∀b,Q b→(∀o,w'.cell? ⟨b,o,none⟩=w.cell? ⟨b,o,none⟩)∧Q' b)(b o:Nat)(ht:∀o,w'.cell? ⟨b,o,none⟩=w.cell? ⟨b,o,none⟩):∀l:List (List G),ldR mk w Q b o l→ldR mk w' Q' b o l
 | [],_=>by simp only[ldR]
 | e :: r,hx=>by
  simp only[ldR]at hx ⊢;exact⟨ldE.keep h b o ht e hx.1,ldR.keep h b (o+e.length) ht r hx.2⟩
end
mutual
theorem G.ld.rd{mk:Nat→Nat→List Value}{w:World}{Q:Nat→Prop}(v:Value):∀x:G,G.ld mk w Q v x→G.rd w Q v x
 | .one u,hx=>by simpa only[G.ld,G.rd]using hx
 | .row t l,hx=>by
  simp only[G.ld]at hx;simp only[G.rd];obtain⟨g,c,h1,h2,h3,h4,h5,h6⟩:=hx;exact⟨_,c,h1,by omega,h3,fun _=>⟨g,0,rfl,h4,ldR.rd g 0 l h5⟩⟩
theorem ldE.rd{mk:Nat→Nat→List Value}{w:World}{Q:Nat→Prop}(b o:Nat):∀l:List G,ldE mk w Q b o l→rdE w Q b o l
 | [],_=>by simp only[rdE]
 | x :: r,hx=>by
  simp only[ldE]at hx;simp only[rdE];obtain⟨⟨v,h1,h2⟩,h3⟩:=hx;exact⟨⟨v,h1,G.ld.rd v x h2⟩,ldE.rd b (o+1) r h3⟩
theorem ldR.rd{mk:Nat→Nat→List Value}{w:World}{Q:Nat→Prop}(b o:Nat):∀l:List (List G),ldR mk w Q b o l→rdR w Q b o l
 | [],_=>by simp only[rdR]
 | e :: r,hx=>by
  simp only[ldR]at hx;simp only[rdR];exact⟨ldE.rd b o e hx.1,ldR.rd b (o+e.length) r hx.2⟩
end
inductive K where
 | int | byte | bool | str
 | sl (t:Nat)
 deriving DecidableEq
abbrev G.rdW(w:World)(v:Value)(x:G):Prop:=G.rd w (fun b=>b<w.heap.size) v x
theorem G.rdW.next{w w':World}{v:Value}{x:G}(h:G.rdW w v x)(hb:Below w.heap.size w w'):G.rdW w' v x:=
 G.rd.keep (fun b hlt=>⟨fun _=>World.cell?_of_block (hb.block b hlt),Nat.lt_of_lt_of_le hlt hb.size⟩) v x h
abbrev G.ldW(mk:Nat→Nat→List Value)(w:World)(v:Value)(x:G):Prop:=G.ld mk w (fun b=>b<w.heap.size) v x
theorem G.ldW.next{mk:Nat→Nat→List Value}{w w':World}{v:Value}{x:G}(h:G.ldW mk w v x)(hb:Below w.heap.size w w'):G.ldW mk w' v x:=
 G.ld.keep (fun b hlt=>⟨fun _=>World.cell?_of_block (hb.block b hlt),Nat.lt_of_lt_of_le hlt hb.size⟩) v x h
end Go.Proofs.YtchfcgilpjkmhaaGreatDoor
namespace Go.Proofs.YtchfcgilpjkmhaaGreatDoor
open Go.ChangeShapes Go.WideShapes Go.ChangeAt Go.RowKit Go.Maps
structure MKind(κ:Type) where
 t:TypeId
 k:TypeId
 vl:κ→Value
 lit:κ→Lit
 good:κ→Prop
 law:Keyed Tryz.prog k
 und:Tryz.prog.underlying t=some (.map k 3)
 key:∀x,good x→keyOf Tryz.prog k (vl x)=some (lit x)
 inj:∀x y,vl x=vl y→x=y
 inv:∀v l,keyOf Tryz.prog k v=some l→∃x,good x∧v=vl x
section
variable {κ:Type} [DecidableEq κ] {M:MKind κ}
theorem MKind.lit_inj{x y:κ}(hx:M.good x)(hy:M.good y)(h:M.lit x=M.lit y):x=y:=
 M.inj x y (M.law.inj (M.key x hx) (by rw[h];exact M.key y hy))
theorem MKind.isKey{x:κ}(hx:M.good x):WideAt.IsKeyLit (M.lit x):=M.law.key (M.key x hx)
abbrev i64D(n:Int):DataW Unit:= .lit (.int .i64 n)
structure KeyD(M:MKind κ)(ks:List κ)(f:κ→Int)(D:DataW Unit):Prop where
 nodup:ks.Nodup
 good:∀x∈ks,M.good x
 size:Maps.size D=ks.length
 has:∀x,M.good x→Maps.has D (M.lit x)=decide (x∈ks)
 at_:∀x,M.good x→D.atKey (M.lit x) (i64D 0)=i64D (f x)
 map:IsMap D
 tidy:Tidy D
theorem KeyD.zero{ks:List κ}{f:κ→Int}{D:DataW Unit}(h:KeyD M ks f D){x:κ}(hg:M.good x)(hx:x∉ks):f x=0:=by
 have h1:=h.has x hg;rw[decide_eq_false hx]at h1;have h2:=h.at_ x hg;rw[atKey_of_not_has h1]at h2;have h3:(0:Int)=f x:=by simpa [i64D]using h2
 exact h3.symm
theorem KeyD.nil:KeyD M ([]:List κ) (fun _=>0) (.map []):=
 ⟨List.nodup_nil,fun x h=>by simp at h,rfl,fun x _=>rfl,fun x _=>rfl,isMap_empty,tidy_empty⟩
def setF(f:κ→Int)(x:κ)(v:Int):κ→Int:=fun y=>if y=x then v else f y
theorem KeyD.put{ks:List κ}{f:κ→Int}{D:DataW Unit}(h:KeyD M ks f D){x:κ}(hx:M.good x)(v:Int):KeyD M (if x∈ks then ks else ks++ [x]) (setF f x v) (D.put (M.lit x) (i64D v)):=by
 have hne:∀y,M.good y→y≠x→M.lit y≠M.lit x:=fun y hy hn e=>hn (MKind.lit_inj hy hx e)
 refine⟨?_,?_,?_,fun y hy=> ?_,fun y hy=> ?_,h.map.put _ _,h.tidy.put (MKind.isKey hx) _⟩
 ·split
  ·exact h.nodup
  ·rename_i hn
   rw[List.nodup_append];exact⟨h.nodup,by simp,fun a ha b hb=>by simp at hb;subst hb;exact fun e=>hn (e▸ha)⟩
 ·intro y hy
  split at hy
  ·exact h.good y hy
  ·rcases List.mem_append.1 hy with hy | hy
   ·exact h.good y hy
   ·simp at hy;subst hy;exact hx
 ·rw[size_put h.tidy,h.has x hx,h.size]
  by_cases hm:x∈ks<;>simp[hm]
 ·by_cases e:y=x
  ·subst e
   rw[has_put_same h.map (MKind.isKey hx)];split
   ·rename_i hm;simp[hm]
   ·simp
  ·rw[has_put_other (hne y hy e),h.has y hy]
   split
   ·rfl
   ·simp[e]
 ·by_cases e:y=x
  ·subst e
   rw[atKey_put_same h.map (MKind.isKey hx)];simp[setF]
  ·rw[atKey_put_other (hne y hy e),h.at_ y hy]
   simp[setF,e]
theorem KeyD.del{ks:List κ}{f:κ→Int}{D:DataW Unit}(h:KeyD M ks f D){x:κ}(hx:M.good x):KeyD M (ks.erase x) (setF f x 0) (D.del (M.lit x)):=by
 have hne:∀y,M.good y→y≠x→M.lit y≠M.lit x:=fun y hy hn e=>hn (MKind.lit_inj hy hx e)
 refine⟨h.nodup.erase _,fun y hy=>h.good y (List.mem_of_mem_erase hy),?_,fun y hy=> ?_,fun y hy=> ?_,h.map.del _,h.tidy.del _⟩
 ·have:=size_del (k:=M.lit x) h.tidy
  rw[h.has x hx,h.size]at this;by_cases hm:x∈ks
  ·have hp:=List.length_pos_of_mem hm
   rw[List.length_erase_of_mem hm];simp[hm]at this;omega
  ·rw[List.erase_of_not_mem hm]
   simpa [hm]using this
 ·by_cases e:y=x
  ·subst e
   rw[has_del_same];have:y∉ks.erase y:=fun hm=>by
    have:=(List.Nodup.mem_erase_iff h.nodup).1 hm;exact this.1 rfl
   simp[this]
  ·rw[has_del_other (hne y hy e),h.has y hy]
   congr 1;rw[List.mem_erase_of_ne e]
 ·by_cases e:y=x
  ·subst e
   rw[atKey_del_same];simp[setF]
  ·rw[atKey_del_other (hne y hy e),h.at_ y hy]
   simp[setF,e]
def OnMap(M:MKind κ)(w:World)(b n:Nat)(ks:List κ)(f:κ→Int):Prop:=∃D,w.ownsMap Tryz.prog M.k (plainElem Tryz.prog 3) b n D∧KeyD M ks f D
variable {w w':World} {b n:Nat} {ks:List κ} {f:κ→Int}
theorem OnMap.made(w:World):OnMap M (w.alloc (.map #[] 0)) w.heap.size 0 ([]:List κ) (fun _=>0):=⟨_,World.ownsMap_made _ _ _ _,KeyD.nil⟩
theorem OnMap.lt(h:OnMap M w b n ks f):b<w.heap.size:=h.choose_spec.1.lt
theorem OnMap.len_le(h:OnMap M w b n ks f):ks.length≤n:=by
 obtain⟨D,h1,h2⟩:=h;rw[←h2.size];exact h1.size_le
theorem OnMap.mono(h:OnMap M w b n ks f){m:Nat}(hm:n≤m):OnMap M w b m ks f:=let ⟨D,h1,h2⟩:=h;⟨D,h1.mono hm,h2⟩
theorem OnMap.kept{row:Option Nat}(h:OnMap M w b n ks f)(hg:w.grownBy w' row)(hne:some b≠row):OnMap M w' b n ks f:=let ⟨D,h1,h2⟩:=h;⟨D,h1.kept hg hne,h2⟩
theorem OnMap.below{B:Nat}(h:OnMap M w b n ks f)(hb:Below B w w')(hlt:b<B):OnMap M w' b n ks f:=by
 obtain⟨D,⟨es,clock,h1,h2⟩,h3⟩:=h;exact⟨D,⟨es,clock,(hb.block b hlt).trans h1,h2⟩,h3⟩
theorem OnMap.alloc(h:OnMap M w b n ks f)(o:Obj):OnMap M (w.alloc o) b n ks f:=let ⟨D,h1,h2⟩:=h;⟨D,h1.alloc o,h2⟩
theorem OnMap.drew(h:OnMap M w b n ks f):OnMap M w.drew b n ks f:=h
theorem OnMap.setCell(h:OnMap M w b n ks f){a:Addr}(ha:b≠a.block)(u:Value):OnMap M (w.setCell a u) b n ks f:=let ⟨D,h1,h2⟩:=h;⟨D,h1.setCell ha u,h2⟩
theorem OnMap.obj(h:OnMap M w b n ks f):∃es clock,w.heap[b]?=some (.map es clock):=let ⟨_,⟨es,clock,h1,_⟩,_⟩:=h;⟨es,clock,h1⟩
theorem OnMap.same(h:OnMap M w b n ks f)(e:w'.heap[b]?=w.heap[b]?):OnMap M w' b n ks f:=by
 obtain⟨D,⟨es,clock,h1,h2⟩,h3⟩:=h;exact⟨D,⟨es,clock,e.trans h1,h2⟩,h3⟩
theorem zero3(w:World):(zeroValue 3).run Tryz.prog w= .ok (.int .i64 0) w:=by kernel_rfl
theorem OnMap.run_look(h:OnMap M w b n ks f){y:κ}(hy:M.good y):(Instr.lookup M.t (.map (some b)) (M.vl y) false).run Tryz.prog w= .ok (.int .i64 (f y)) w:=by
 obtain⟨D,h1,h2⟩:=h;obtain⟨c,hr,hat,_⟩:=h1.lookup_int M.law M.und Tryz.underlying3 (zero3 w) (M.key y hy);have e:=h2.at_ y hy;rw[hat]at e;obtain rfl:c=f y:=by simpa [i64D]using e
 exact hr
theorem OnMap.run_len(h:OnMap M w b n ks f)(ty:TypeId):(Builtin.len_ #[M.t] ty #[.map (some b)]).run Tryz.prog w= .ok (.int .i64 ks.length) w:=by
 obtain⟨D,h1,h2⟩:=h;rw[h1.len M.und ty,h2.size]
theorem wpList_look{ops:Array Oper}{rest:List Oper}{o:Oper}{a:Act}{Q:Exit→Act→World→Prop}(hg:o.guard=none)(m x:Operand)(hop:o.op=Op.lookup M.t m x false)
 (hm:a.eval m= .map (some b)) (h:OnMap M w b n ks f) (y:κ) (hy:M.good y) (hx:a.eval x=M.vl y) (hK:wpList Tryz.prog ops Q rest (a.put o.dst (.int .i64 (f y))) w):wpList Tryz.prog ops Q (o :: rest) a w:=by
 refine wpList_plain hg fun K' hK'=> ?_
 unfold Oper.wp;simp[execOp,hop,hm,hx,h.run_look hy,Result.andThen];exact hK' _ _ hK
theorem OnMap.run_store(h:OnMap M w b n ks f)(hn:n<maxLen){y:κ}(hy:M.good y)(v:Int)(hv:(Lit.int .i64 v).wf=true):
 ∃w',(Instr.mapUpdate M.t (.map (some b)) (M.vl y) (.int .i64 v)).run Tryz.prog w= .ok () w'∧OnMap M w' b (n+1) (if y∈ks then ks else ks++ [y]) (setF f y v)∧w.grownBy w' (some b):=by
 obtain⟨D,h1,h2⟩:=h;obtain⟨w',hr,r1,r2⟩:=h1.update M.law M.und hn (M.key y hy) (plainElem_int Tryz.underlying3 hv);exact⟨w',hr,⟨_,r1,h2.put hy v⟩,r2⟩
theorem OnMap.run_del(h:OnMap M w b n ks f){y:κ}(hy:M.good y)(ty:TypeId):
 ∃w',(Builtin.delete_ #[M.t,M.k] ty #[.map (some b),M.vl y]).run Tryz.prog w= .ok (.tuple #[]) w'∧OnMap M w' b n (ks.erase y) (setF f y 0)∧w.mapTurned w' b:=by
 obtain⟨D,h1,h2⟩:=h;obtain⟨w',hr,r1,r2⟩:=h1.drop M.law M.und (M.key y hy) ty;exact⟨w',hr,⟨_,r1,h2.del hy⟩,r2⟩
end
end Go.Proofs.YtchfcgilpjkmhaaGreatDoor
