import Derived.Test.YtmdgooofdmpcjaaGreatDoorProg
import Derived.BigQuiet
import Derived.Lib.Hide
import Derived.WalkLawsBesides
import Derived.WalkSpells
import Derived.Shelf.Abstract
import Derived.Deep.RegionHeld3
import Derived.Deep.AppendLies
import Derived.Laws.EntriesVeiled
import Derived.Deep.RegionLaw
import Derived.RangeFuncNested
import Derived.TacticsInMore
import Derived.LoopNIn
import Derived.LoopIn
import Derived.Maps.OwnIn
import Derived.Lib.SmallJoins
import Derived.WideKeyEntry
import Derived.RegionIn
set_option maxRecDepth 100000
set_option linter.unusedSimpArgs false
set_option linter.unusedVariables false
set_option linter.unusedSectionVars false
open Go.Proofs.Tryz renaming prog → pG
open Array renaming getElem?_eq_none->GX,replicate->G5
open Bool renaming and_eq_true->BW,false->Bj,true->BR
open List renaming all_eq_true->EL,getElem?_eq_getElem->EN,getElem_mem->CS,length_cons->Ia,mem_append->E2,mem_cons->BU,range->EO
open Nat renaming lt_of_lt_of_le->EU,lt_or_ge->Ii
open Option renaming none->Ag,some->Ai,some->ES
open Go.Proofs.Tryz
namespace Go.Proofs.YtmdgooofdmpcjaaGreatDoor
open Fence renaming wide->FE
open Go renaming Addr->EK,Calls->ET,TypeId->E3,Value->Bn,World->Al,callFunc->EZ,maxLen->EW,undef->BA
open Region renaming Mode->GZ,binds->G8,ready->GP,wanted->G6
open RowKit renaming Below->BD,intOf->E8
open RowKit.Below renaming heap_setCell->Hu,refl->BK
open Value renaming ownBlock->Jk,string->GI
open World renaming cell?_of_block->GV,putObj_heap_other->EM,setCell->GK
section
open Go.ChangeShapes Go.WideShapes Go.ChangeAt Go.RowKit
theorem kz{p:Prop}(h:p:=by kernel_rfl):p:=h
theorem az{p:Prop}(h:p:=by as_aux_lemma=>kernel_rfl):p:=h
theorem gz{p:Prop}(h:p:=by go_simp;first | done | with_reducible rfl):p:=h
theorem ez{α:Sort _}(a:α):∃b,b=a:=⟨a,rfl⟩
theorem oz{p:Prop}(h:p:=by omega):p:=h
theorem dz{p:Prop}(h:p:=by decide):p:=h
theorem qz{p:Prop}(h:p:=by simp):p:=h
theorem qo{p:Prop}(h:p:=by simp;omega):p:=h
theorem nL{n:Nat}:n<=n:=Nat.le_refl n
theorem nZ{n:Nat}:0<=n:=Nat.zero_le n
theorem nT{a b c:Nat}(h:a<=b)(k:b<=c):a<=c:=Nat.le_trans h k
theorem bN{w:Al}{o:Obj}:BD w.heap.size w (w.alloc o):=(BK _ _).alloc (Nat.le_refl _) _
theorem gE{α:Type}{a:Array α}{i:Nat}{b:α}(h:a[i]?=Ai b):∃h:i<a.size,a[i]=b:=Array.getElem?_eq_some_iff.1 h
theorem dT{p:Prop}[Decidable p](h:p):decide p=true:=decide_eq_true h
theorem dF{p:Prop}[Decidable p](h:¬p):decide p=false:=decide_eq_false h
theorem ai{a b:Prop}(h:a)(k:b):a/\b:=⟨h,k⟩
theorem lz{p:Prop}(h:p):RowKit.Hid p:=h
abbrev CU(f:FuncId)(a:Array Bn)(w:Al)(v:Bn):Prop:=ET pG f a w λe w'=>e= .returned v/\BD w.heap.size w w'
theorem fT{a b:Bool}(h:a=b):Ending.returned (.bool a)= .returned (.bool b):=by rw[h]
theorem eT{k:IntKind}{a b:Int}(h:a=b):Ending.returned (.int k a)= .returned (.int k b):=by rw[h]
def ah(w:Al)(g:Nat)(t:E3)(cs:Array Bn):Prop:=w.heap[g]?=Ai (.cells cs t (0,0))
section
variable {w w':Al} {g:Nat} {t:E3} {cs:Array Bn}
theorem ah.lt(h:ah w g t cs):g<w.heap.size:=by
 rcases Ii g w.heap.size with hlt | JQ
 .exact hlt
 .unfold ah at h;rw[GX JQ]at h;cases h
theorem ah.cell(h:ah w g t cs)(i:Nat):w.cell? ⟨g,i,Ag⟩=cs[i]?:=cell_of_row w g i cs t (0,0) h
theorem ah.frozen(h:ah w g t cs)(i:Nat):w.frozen? ⟨g,i,Ag⟩=false:=by
 unfold ah at h;simp[World.frozen?,h]
theorem ah.new(w:Al)(t:E3)(cs:Array Bn):ah (w.alloc (.cells cs t)) w.heap.size t cs:=heap_alloc_new w _
theorem ah.drew(h:ah w g t cs):ah w.drew g t cs:=h
theorem ah.drewN(h:ah w g t cs)(n:Nat):ah (w.drewN n) g t cs:=h
theorem ah.alloc(h:ah w g t cs)(o:Obj):ah (w.alloc o) g t cs:=(Below.heap_alloc w o g h.lt).trans h
theorem ah.bX(h:ah w g t cs)(i:Nat)(u:Bn):ah (w.setCell ⟨g,i,Ag⟩ u) g t (cs.setIfInBounds i u):=by
 unfold ah at h ⊢;simp[GK,Array.getElem?_modify,h]
theorem ah.far(h:ah w g t cs){p:EK}(hp:g≠p.block)(u:Bn):ah (w.setCell p u) g t cs:=(Hu w p u g hp).trans h
theorem ah.below{B:Nat}(h:ah w g t cs)(hb:BD B w w')(hg:g<B):ah w' g t cs:=(hb.block g hg).trans h
theorem ah.grown{row:Option Nat}(h:ah w g t cs)(hb:w.grownBy w' row)(hg:Ai g≠row):ah w' g t cs:=(hb.block g h.lt hg).trans h
theorem ah.Fu{g':Nat}{t':E3}{cs':Array Bn}(h:ah w g t cs)(h':ah w g' t' cs')(hne:t≠t'):g≠g':=by
 rintro rfl;unfold ah at h h';rw[h]at h';injection h' with h'
 injection h' with _ ht
 exact hne ht
theorem aW{base:Nat}{e:E3}{size n:Nat}{v:Bn}{xs:List Bn}(h:w.ownsRow base e size v n xs)(hg:ah w g t cs)(hne:e≠t):v.ownBlock≠Ai g:=by
 rcases h.2 with⟨rfl,_⟩ | ⟨g',cap,cur,rfl,_,hh,_⟩
 .simp[Jk]
 .intro he
  have:g'=g:=by simpa [Jk]using he
  subst this;exact ah.Fu (t:=e) hh hg hne rfl
end
def cV{α:Type}(p:α->Bool)(l:List α):Int:=match l.findIdx? p with | some i=>i | none=> -1
theorem nR{α:Type}{p:α->Bool}{l:List α}{k:Nat}(hk:k<l.length)(h:p l[k]=BR)(aJ:∀j (h:j<l.length),j<k->p l[j]=Bj):cV p l=k:=by
 have:l.findIdx? p=Ai k:=by
  rw[List.findIdx?_eq_some_iff_getElem];exact⟨hk,h,λj hj=>by simp[aJ j oz hj]⟩
 simp[cV,this]
theorem nM{α:Type}{p:α->Bool}{l:List α}(aJ:∀j (h:j<l.length),p l[j]=Bj):cV p l= -1:=by
 have:l.findIdx? p=none:=by
  rw[List.findIdx?_eq_none_iff];intro x hx;obtain⟨j,hj,rfl⟩:=List.getElem_of_mem hx;simp[aJ j hj]
 simp[cV,this]
theorem Pu{α:Type}(p:α->Bool)(l:List α):(∃k,∃h:k<l.length,cV p l=k/\l.find? p=Ai l[k]/\p l[k]=BR)\/(cV p l= -1/\l.find? p=Ag):=by
 rcases hf:l.findIdx? p with _ | i
 .refine .inr ⟨by simp[cV,hf],?_⟩
  rw[List.findIdx?_eq_none_iff]at hf;rw[List.find?_eq_none];intro x hx;simp[hf x hx]
 .rw[List.findIdx?_eq_some_iff_getElem]at hf
  obtain⟨h1,h2,h3⟩:=hf;refine .inl ⟨i,h1,nR h1 h2 λj hj CA=>by simpa using h3 j CA,?_,h2⟩;rw[List.find?_eq_some_iff_getElem];exact⟨h2,i,h1,rfl,λj hj=>by simpa using h3 j hj⟩
theorem lU{α:Type}{p:α->Prop}{l:List α}{k:Nat}{hk:k<l.length}(aJ:∀j (h:j<l.length),j<k->p l[j])(h:p l[k]):∀j (h:j<l.length),j<k+1->p l[j]:=λj hj hjk=>by
 by_cases e:j=k
 .subst e;exact h
 .exact aJ j hj oz
theorem qV(a:EK)(n:Nat):(a.add n).block=a.block:=by unfold Addr.add;split<;>rfl
theorem Pv(a:EK)(i j:Nat):(a.add i).add j=a.add (i+j):=by
 unfold Addr.add;by_cases hi:i=0<;>by_cases hj:j=0<;>simp[hi,hj,Nat.add_assoc]
def Reads(w:Al)(B size:Nat)(A:Option EK)(n:Nat)(xs:List Bn):Prop:=
 xs.length=n*size/\(0<n->∃ad,A=Ai ad/\ad.block<B/\∀j u,xs[j]?=Ai u->w.cell? (ad.add j)=Ai u)
section
variable {w w':Al} {B B' size n:Nat} {A:Option EK} {xs:List Bn}
theorem Reads.at_{k:Nat}(h:Reads w B 1 A n xs)(hk:k<n):∃ad u,A=Ai ad/\ad.block<B/\xs[k]?=Ai u/\w.cell? (ad.add k)=Ai u:=by
 obtain⟨ad,e,hb,hc⟩:=h.2 oz;have hl:k<xs.length:=by have:=h.1;omega
 exact⟨ad,xs[k],e,hb,EN hl,hc k _ (EN hl)⟩
theorem Reads.keep(h:Reads w B size A n xs)(hk:∀p:EK,p.block<B->w'.cell? p=w.cell? p):Reads w' B size A n xs:=
 ⟨h.1,λhn=>by
  obtain⟨ad,e,hb,hc⟩:=h.2 hn;exact⟨ad,e,hb,λj u hu=>(hk _ (by rw[qV];exact hb)).trans (hc j u hu)⟩⟩
theorem Reads.more(h:Reads w B size A n xs)(hB:B<=B'):Reads w B' size A n xs:=
 ⟨h.1,λhn=>by
  obtain⟨ad,e,hb,hc⟩:=h.2 hn;exact⟨ad,e,oz,hc⟩⟩
theorem Reads.below(h:Reads w B size A n xs)(hb:BD B w w'):Reads w' B size A n xs:=h.keep λ_ hp=>hb.cell hp
theorem Reads.drew(h:Reads w B size A n xs):Reads w.drew B size A n xs:=h
theorem Reads.drewN(h:Reads w B size A n xs)(k:Nat):Reads (w.drewN k) B size A n xs:=h
theorem Reads.alloc(h:Reads w B size A n xs)(hB:B<=w.heap.size)(o:Obj):Reads (w.alloc o) B size A n xs:=h.keep λp hp=>World.cell?_alloc_lt w o p oz
theorem Reads.setCell(h:Reads w B size A n xs){p:EK}(hB:B<=p.block)(u:Bn):Reads (w.setCell p u) B size A n xs:=
 h.keep λq hq=>World.cell?_setCell_other w p q u (λe=>by subst e;omega)
theorem Reads.grown(h:Reads w B size A n xs){row:Option Nat}(hg:w.grownBy w' row)(hB:B<=w.heap.size)(hr:∀g,row=Ai g->B<=g):Reads w' B size A n xs:=
 h.keep λp hp=>GV (hg.block p.block oz (λe=>by have:=hr _ e.symm;omega))
theorem Reads.cut(h:Reads w B size A n xs){k cap:Nat}(hk:k<=n)(hc:n<=cap):
 Reads w B size (if cap=k then A else A.map (·.add (k*size))) (n-k) (xs.drop (k*size)):=by
 refine⟨by rw[List.length_drop,h.1,Nat.sub_mul],λhn=> ?_⟩;obtain⟨ad,rfl,hb,hcell⟩:=h.2 oz;rw[if_neg oz];refine⟨ad.add (k*size),rfl,by rw[qV];exact hb,λj u hu=> ?_⟩;rw[Pv];exact hcell _ u (by rw[<-hu,List.getElem?_drop])
theorem Reads.Pw{base:Nat}{e:E3}{c:Nat}(h:w.ownsRow base e size (.slice A n c) n xs):Reads w w.heap.size size A n xs:=by
 refine⟨h.1,λhn=> ?_⟩;obtain⟨g,cap,hv,_,hlt⟩:=h.form hn;have hA:A=Ai ⟨g,0,Ag⟩:=by injection hv
 subst hA;exact⟨_,rfl,hlt,h.cells (g:=g) rfl⟩
end
section
variable {P:Program} (w:Al)
theorem wN(base:Nat)(t ty e:E3)(i:TypeInfo)(size:Nat)(ht:P.underlying t=Ai (.slice e))(hi:P.info? e=Ai i)
 (v:Bn) (n:Nat) (xs:List Bn) (hown:w.ownsRow base e size v n xs) (c:Nat):(Builtin.append_ #[t,t] ty #[v,.slice Ag 0 c]).run P w= .ok v w:=by
 rcases hown.2 with⟨rfl,rfl⟩ | ⟨g,cap,cur,rfl,_,_,hnc,_⟩
 .simp[Builtin.append_,run_underlying ht,sizeOf,typeInfo,hi,Builtin.lenOf,Builtin.firstCells]
 .simp[Builtin.append_,run_underlying ht,sizeOf,typeInfo,hi,Builtin.lenOf,Builtin.firstCells,hnc,storeCells]
theorem Dn(base:Nat)(t ty e:E3)(i:TypeInfo)(z:Bn)(size bytes:Nat)(ht:P.underlying t=Ai (.slice e))(hi:P.info? e=Ai i)(hz:i.zero=Ai z)
 (hsize:i.size=size) (hby:i.bytes=bytes) (hzs:z.cells.size=size) (hsz:0<size)
 (v:Bn) (n:Nat) (xs:List Bn) (hown:w.ownsRow base e size v n xs)
 (B:Nat) (A:Option EK) (m c:Nat) (news:List Bn) (hr:Reads w B size A m news) (h1:∀u∈news,u.oneCell'=BR)
 (h63:n+m<=EW) (hbytes:(n+m)*bytes<=140737488355328) (hbase:base<=w.heap.size):
 ∃v' w',(Builtin.append_ #[t,t] ty #[v,.slice A m c]).run P w= .ok v' w'/\w'.ownsRow base e size v' (n+m) (xs++news)/\w.grownBy w' v.ownBlock/\
  (v'.ownBlock=v.ownBlock\/v'.ownBlock=Ai w.heap.size):=by
 rcases A with _ | ad
 .have hm:m=0:=by
   rcases Nat.eq_zero_or_pos m with h0 | h0
   .exact h0
   .obtain⟨ad,h,_⟩:=hr.2 h0
    cases h
  subst hm;have hn:news= []:=List.eq_nil_of_length_eq_zero (by simpa using hr.1);subst hn;exact⟨v,w,wN w base t ty e i size ht hi v n xs hown c,by simpa using hown,World.grownBy.refl w _,.inl rfl⟩
 .have je:∀j u,news[j]?=Ai u->w.cell? (ad.add j)=Ai u:=by
   intro j u hu;rcases Nat.eq_zero_or_pos m with h0 | h0
   .subst h0
    have hn:news= []:=List.eq_nil_of_length_eq_zero (by simpa using hr.1);subst hn;simp at hu
   .obtain⟨ad',h,_,hc⟩:=hr.2 h0
    injection h with h
    subst h;exact hc j u hu
  obtain⟨v',w',hrun,h2,h3,_,h5⟩:=run_append_own_at (P:=P) w base t ty e i z size bytes ht hi hz hsize hby hzs hsz v n xs hown ad m c news hr.1 je h1 h63 hbytes hbase;exact⟨v',w',hrun,h2,h3,h5⟩
theorem uw{o:Oper}{a:Act}{K:Act->Al->Prop}{Q:Exit->Act->Al->Prop}(s x:Operand)(t:E3)
 (ho:o.op= .call {callee:= .builtin .append,args:= #[s,x],argTypes:= #[t,t]})
 (base:Nat) (e:E3) (i:TypeInfo) (z:Bn) (size bytes:Nat) (ht:P.underlying t=Ai (.slice e)) (hi:P.info? e=Ai i) (hz:i.zero=Ai z)
 (hsize:i.size=size) (hby:i.bytes=bytes) (hzs:z.cells.size=size) (hsz:0<size)
 (v:Bn) (n:Nat) (xs:List Bn) (hs:a.eval s=v) (hown:w.ownsRow base e size v n xs)
 (B:Nat) (A:Option EK) (m c:Nat) (news:List Bn) (hx:a.eval x= .slice A m c) (hr:Reads w B size A m news) (h1:∀u∈news,u.oneCell'=BR)
 (h63:n+m<=EW) (hbytes:(n+m)*bytes<=140737488355328) (hbase:base<=w.heap.size)
 (h:∀v' w',w'.ownsRow base e size v' (n+m) (xs++news)->w.grownBy w' v.ownBlock->(v'.ownBlock=v.ownBlock\/v'.ownBlock=Ai w.heap.size)->K (a.put o.dst v') w'):o.wp P a w K Q:=by
 obtain⟨v',w',hrun,h2,h3,h4⟩:=Dn (P:=P) w base t o.type e i z size bytes ht hi hz hsize hby hzs hsz v n xs hown B A m c news hr h1 h63 hbytes hbase;unfold Oper.wp execOp;simp only[ho,resolve,invoke,builtin,Sem.run_bind,Sem.run_pure,Result.andThen_ok,List.map_toArray,List.map_cons,List.map_nil,hs,hx,hrun];exact h v' w' h2 h3 h4
theorem wO{ops:Array Oper}{rest:List Oper}{o:Oper}{a:Act}{Q:Exit->Act->Al->Prop}(hgd:o.guard=Ag)(s x:Operand)(t:E3)
 (ho:o.op= .call {callee:= .builtin .append,args:= #[s,x],argTypes:= #[t,t]})
 (base:Nat) (e:E3) (i:TypeInfo) (z:Bn) (size bytes:Nat) (ht:P.underlying t=Ai (.slice e)) (hi:P.info? e=Ai i) (hz:i.zero=Ai z)
 (hsize:i.size=size) (hby:i.bytes=bytes) (hzs:z.cells.size=size) (hsz:0<size)
 (v:Bn) (n:Nat) (xs:List Bn) (hs:a.eval s=v) (hown:w.ownsRow base e size v n xs)
 (B:Nat) (A:Option EK) (m c:Nat) (news:List Bn) (hx:a.eval x= .slice A m c) (hr:Reads w B size A m news) (h1:∀u∈news,u.oneCell'=BR)
 (h63:n+m<=EW) (hbytes:(n+m)*bytes<=140737488355328) (hbase:base<=w.heap.size)
 (h:∀v' w',w'.ownsRow base e size v' (n+m) (xs++news)->w.grownBy w' v.ownBlock->(v'.ownBlock=v.ownBlock\/v'.ownBlock=Ai w.heap.size)->wpList P ops Q rest (a.put o.dst v') w'):wpList P ops Q (o :: rest) a w:=
 wpList_plain hgd λ_ hK=>uw w s x t ho base e i z size bytes ht hi hz hsize hby hzs hsz v n xs hs hown B A m c news hx hr h1 h63 hbytes hbase λv' w' h2 h3 h4=>hK _ _ (h v' w' h2 h3 h4)
end
theorem ux{a w:Al}(h:BD a.heap.size a w)(row:Option Nat):a.grownBy w row:=⟨h.os,h.tape,h.output,h.size,λi hi _=>h.block i hi⟩
structure Ext(w0:Al) where
 w:Al
 h:BD w0.heap.size w0 w
instance (w0:Al):Nonempty (Ext w0):=⟨⟨w0,BK _ _⟩⟩
theorem bn(w0:Al):∀(x:Ext w0) b o,b<w0.heap.size->x.w.cell? ⟨b,o,Ag⟩=w0.cell? ⟨b,o,Ag⟩:=λx b o hb=>x.h.cell (p:=⟨b,o,Ag⟩) hb
theorem aB{P:Program}{id:Nat}{Q:Exit->Act->Al->Prop}{a:Act}{w:Al}{l:List Oper}(hm:P.follows .mixedOrders=BR)(hB:Region.lexB .any l.toArray=BR)
 (h:wpQuiet P l.toArray (λw'=>∃x:Ext w,w'=x.w) (λa'=>∀w',(∃x:Ext w,w'=x.w)->Q .normal a' w') l a):(Code.region id l.toArray BR).wp P Q a w:=
 wp_region_quiet (C:=λw'=>∃x:Ext w,w'=x.w) hm hB ⟨⟨w.drew,(BK _ _).drew⟩,rfl⟩ (by simpa using h)
theorem dN{P:Program}{f:FuncId}{args:Array Bn}{w0:Al}{x:Ext w0}{v:Bn}(h:ET P f args x.w λe w'=>e= .returned v/\BD x.w.heap.size x.w w'):
 ET P f args x.w λe w''=>e= .returned v/\∃y:Ext w0,w''=y.w:=
 h.mono λ_ w' ⟨he,hb⟩=>⟨he,⟨w',x.h.trans (hb.mono x.h.size)⟩,rfl⟩
attribute [local go_sem] Oper.semAt_some
theorem tP{P:Program}{f n:Nat}{args:Array Bn}{w:Al}{R R':Ending->Al->Prop}(h:ET P f args w R)(hm:∀e w',R e w'->R' e w'):FE.fn f/\CallsIn FE n P f args w R':=
 ⟨trivial,(callsIn_wide.2 h).mono hm⟩
theorem jS{P:Program}{f n l:Nat}{args:Array Bn}{w:Al}{R R':Ending->Al->Prop}(h:ET P f args w R)(hm:∀e w',R e w'->R' e w'):(FE.inRound l).fn f/\CallsIn (FE.inRound l) n P f args w R':=
 ⟨trivial,CallsIn.inRound l ((callsIn_wide.2 h).mono hm)⟩
theorem Mu{β:Type}(B g:Nat)(t:E3)(cs:Array Bn):OwnFrom B (fun(_:β) W=>ah W g t cs):=λ_ X _ _ hs hg hr=>
 (hg.block g hs.lt (λe=>by obtain⟨_,o,ho,hc⟩:=hr g e.symm;rw[show X.heap[g]?=_ from hs]at ho;cases ho;cases hc)).trans hs
structure Shut(B:Nat)(W W':Al):Prop where
 below:BD B W W'
 cells:∀(k:Nat) (o:Obj),W.heap[k]?=Ai o->o.isCells=BR->W'.heap[k]?=Ai o
 size:W.heap.size<=W'.heap.size
def sM(D:Nat):Deferred:={target:= .collected D,args:= #[]}
theorem bP{F:Fence}{n:Nat}{P:Program}{fn:Func}{tmps:Array Bn}{R:Ending->Al->Prop}:∀(Ds:List Nat) (W:Al) (B:Nat),Ds.Nodup->(∀D∈Ds,B<=D/\W.heap[D]?=Ai (.deferred (Ai [])))->
 (∀W',Shut B W W'->LeavesIn F n P fn tmps R [] .returning W')->LeavesInM F n P fn tmps R (Ds.map sM) .returning W
 | [],W,B,_,_,h=>h W ⟨BK _ _,λ_ _ hk _=>hk,nL⟩
 | D :: Ds,W,B,hn,hm,h=>by
  obtain⟨hD,hn'⟩:=List.nodup_cons.1 hn;obtain⟨hB,hW⟩:=hm D qz;refine⟨qz,.inl ⟨D,_,rfl,run_takeDeferred hW,?_⟩⟩;refine bP Ds _ B hn' (λE hE=>⟨(hm E (by simp[hE])).1,(EM (by rintro rfl;exact hD hE)).trans (hm E (by simp[hE])).2⟩) λW' hS=>h W' ?_
  refine⟨?_,λk o hk hc=>hS.cells k o ((EM (λe=> ?_)).trans hk) hc,?_⟩
  .exact((BK B W).grown (grownBy_putObj' W D (.deferred Ag)) (by have:=(gE hW).1;omega) (λk e=>by cases e;omega)).trans hS.below
  .subst e;rw[hW]at hk;cases hk;cases hc
  .have:=hS.size;simpa using this
theorem Ip{W:Al}{base n:Nat}{t:E3}{size:Nat}{v:Bn}{xs:List Bn}(h:W.ownsRow base t size v n xs)(j:Nat)(o:Obj)(hj:v.ownBlock=Ai j)(ho:W.heap[j]?=Ai o):o.isCells=true:=by
 rcases h.2 with⟨rfl,_⟩ | ⟨g,cap,cur,rfl,_,hh,_⟩
 .cases hj
 .have:g=j:=by simpa [Jk]using hj
  subst this;rw[hh]at ho;cases ho;rfl
theorem gL{W W':Al}{row:Option Nat}(h:BD W.heap.size W W'):W.grownBy W' row:=⟨h.os,h.tape,h.output,h.size,λk hk _=>h.block k hk⟩
end
section
open Go.ChangeShapes Go.WideShapes Go.ChangeAt Go.RowKit Go.Deep
section
variable {H:Type} {enc:E3×Bn->H} {P:Program}
theorem uy(hl:laidOutB P=BR){W W':Al}{sp:Nat->Bool}:∀(ts:List E3) (vs:List Bn) (ds:List (DataW H)) (ps:List MemPlace),(∀t∈ts,P.readableRec t=BR/\t<P.types.size)->
 DataW.TrodAll enc P W 0 (λ_=>BR) BR ts vs ds ps->(∀p∈ps,W.sameAt W' p)->(∀p∈ps,sp p.block=BR)->DataW.TrodAll enc P W' 0 sp BR ts vs ds ps
 | [],[],[],_,_,h,_,_=>h
 | t :: ts,v :: vs,d :: ds,ps,hr,h,hs,Fv=>by
  obtain⟨p,q,hp,hq,rfl⟩:=h;have ht:=hr t qz;exact⟨p,q,WideElems.Trod_stays hl ht.1 ht.2 hp (λx hx=>hs x (by simp[hx])) (λx hx=>Fv x (by simp[hx])),
   uy hl ts vs ds q (λu hu=>hr u (by simp[hu])) hq (λx hx=>hs x (by simp[hx])) (λx hx=>Fv x (by simp[hx])),rfl⟩
 | [],_ :: _,_,_,_,h,_,_=>by cases h
 | [],[],_ :: _,_,_,h,_,_=>by cases h
 | _ :: _,[],_,_,_,h,_,_=>by cases h
 | _ :: _,_ :: _,[],_,_,h,_,_=>by cases h
theorem FI{f:Func}{s:ChangeSpec}{apart fresh handsOn again:Bool}{W W':Al}{args:Array Bn}{v:Bn}{ds gs:List (DataW H)}{before pa pv:List MemPlace}
 (hW:DataW.Whole enc P f.params.toList s.vars apart W args.toList ds gs before)
 (aAd:∀(b:Nat) (sp:Nat->Bool) (hd:Bool),DataW.TrodAll enc P W' b sp hd f.resultTypes.toList (v.resultList f.resultTypes.size) (s.fn H (ds++gs)).results [])
 (Mt:∀sp:Nat->Bool,(∀p∈before,sp p.block=BR)->DataW.TrodAll enc P W' 0 sp BR f.params.toList args.toList (s.fn H (ds++gs)).args pa)
 (aDH:∀sp:Nat->Bool,(∀p∈before,sp p.block=BR)->DataW.TrodVars enc P W' sp s.vars (s.fn H (ds++gs)).vars pv)
 (BX:before=pa++pv) (hb:BD W.heap.size W W')
 (Fw:∀(j:Nat) (t:E3) (r:Bn),f.resultTypes[j]?=Ai t->(v.resultList f.resultTypes.size)[j]?=Ai r->Value.okWide P W' .any 0 t r):
 s.post enc P f apart fresh handsOn again W args v W':=by
 have hlt:∀p∈before,p.block<W.heap.size:=λp hp=>hW.lt p hp
 have hold:∀p∈before,(λb=>decide (b<W.heap.size)) p.block=true:=λp hp=>by simpa using hlt p hp
 refine⟨ds,gs,before,[],pa,pv,hW,aAd _ _ _,Mt _ hold,aDH _ hold,World.keptBut_mono (λp hp=>⟨hp,?_⟩) (hb.frame (· ∈before)),λ_=> ?_⟩
 .rw[BX,E2]at hp
  exact Or.inr hp
 .obtain⟨_,_,_,_,_,hz,hn⟩:=hW
  refine⟨Fw,_,_,([]++pa)++pv,⟨[]++pa,pv,trodAll_append (Mt _ (λ_ _=>rfl)) (aAd _ _ _),aDH _ (λ_ _=>rfl),rfl,?_,?_⟩,?_⟩
  .intro b off hp
   have sy:MemPlace.cell b off∈before:=by rw[BX];simpa using hp
   rw[hb.frozen (hlt _ sy)];exact hz b off sy
  .intro ha
   have:=hn ha;rw[BX]at this;simpa using this
  .intro p hp _
   rw[BX];simpa using hp
theorem Di{f:Func}{s:ChangeSpec}{apart fresh handsOn again:Bool}{W W':Al}{args:Array Bn}{ds gs:List (DataW H)}{before:List MemPlace}{tb:E3}
 (hl:laidOutB P=BR) (hr:∀t∈f.params.toList,P.readableRec t=BR/\t<P.types.size) (hrt:f.resultTypes= #[tb]) (Pa:P.underlying tb=Ai .bool) (hsv:s.vars= [])
 (hW:DataW.Whole enc P f.params.toList s.vars apart W args.toList ds gs before)
 (hs:(s.fn H ds).results= [.lit (.bool BR)]/\(s.fn H ds).args=ds/\(s.fn H ds).vars= []) (hb:BD W.heap.size W W'):
 s.post enc P f apart fresh handsOn again W args (.bool BR) W':=by
 have hW':=hW;obtain⟨p,q,hA,hV,rfl,_,_⟩:=hW';rw[hsv]at hV;obtain⟨rfl,rfl⟩:=trodVars_none hV;have hlt:∀x∈p++ [],x.block<W.heap.size:=λx hx=>hW.lt x hx
 refine FI (pa:=p) (pv:= []) hW (λb sp hd=> ?_) (λsp Fv=> ?_) (λsp _=> ?_) rfl hb ?_
 .rw[List.append_nil,hs.1,hrt]
  exact trodAll_mk1 (shut_bool Pa BR)
 .rw[List.append_nil,hs.2.1]
  exact uy hl _ _ _ _ hr hA (λx hx=>hb.same (hlt x (by simp[hx]))) (λx hx=>Fv x (by simp[hx]))
 .rw[List.append_nil,hs.2.2,hsv]
  rfl
 .exact ok_one hrt rfl (okWide_bool_mk Pa BR)
variable {w:Al} {base:Nat} {spare:Nat->Bool} {held:Bool}
theorem aAe{α:Type}(n:Nat)(p:Nat->α->Prop)(h:∀i,i<n->∃x,p i x):∃l:List α,l.length=n/\∀i (hi:i<l.length),p i l[i]:=by
 induction n with
 | zero=>exact⟨[],rfl,λi hi=>by simp at hi⟩
 | succ n ih=>
  obtain⟨l,hl,hp⟩:=ih λi hi=>h i oz
  obtain⟨x,hx⟩:=h n oz;refine⟨l++ [x],by simp[hl],λi hi=> ?_⟩;by_cases e:i<l.length
  .rw[List.getElem_append_left e];exact hp i e
  .have:i=l.length:=by simp at hi;omega
   subst this;simp;rw[hl];exact hx
theorem JR{a:EK}{v:Bn}(h:w.cell? a=Ai v):a=⟨a.block,a.off,Ag⟩:=by
 obtain⟨b,o,s⟩:=a
 cases s with
 | none=>rfl
 | some s=>
  unfold World.cell? at h;split at h<;>simp at h
theorem eY(b o j:Nat):(⟨b,o,Ag⟩:EK).add j=⟨b,o+j,Ag⟩:=by unfold Addr.add;split<;>simp_all
end
theorem own:ownKnob pG.godebug=none:=by kernel_rfl
theorem laid:laidOutB pG=true:=by kernel_rfl
section
variable {H:Type} {enc:E3×Bn->H} {P:Program} {w:Al} {base:Nat} {spare:Nat->Bool} {held:Bool}
theorem sN{e:E3}:∀{el:List (DataW H)} {d:DataW H} {n:Nat},d∈el->n∈d.weights P e->n∈DataW.weightsAll P e el
 | [],_,_,h,_=>by simp at h
 | x :: r,d,n,h,hn=>by
  simp only[DataW.weightsAll,E2];rcases BU.1 h with rfl | h
  .exact .inl hn
  .exact .inr (sN h hn)
end
inductive G where
 | one (v:Bn)
 | row (t:Nat) (l:List (List G))
mutual
def G.rd(w:Al)(Q:Nat->Prop)(v:Bn):G->Prop
 | .one u=>v=u
 | .row _ l=>∃A c,v= .slice A l.length c/\l.length<=c/\c<=EW/\(0<l.length->∃b o,A=Ai ⟨b,o,Ag⟩/\Q b/\Vm w Q b o l)
def Vn(w:Al)(Q:Nat->Prop)(b o:Nat):List G->Prop
 | []=>True
 | x :: r=>(∃v,w.cell? ⟨b,o,Ag⟩=Ai v/\G.rd w Q v x)/\Vn w Q b (o+1) r
def Vm(w:Al)(Q:Nat->Prop)(b o:Nat):List (List G)->Prop
 | []=>True
 | e :: r=>Vn w Q b o e/\Vm w Q b (o+e.length) r
end
mutual
def G.ld(mk:Nat->Nat->List Bn)(w:Al)(Q:Nat->Prop)(v:Bn):G->Prop
 | .one u=>v=u
 | .row t l=>∃g c,v= .slice (Ai ⟨g,0,Ag⟩) l.length c/\l.length+12<=c/\c<=EW/\Q g/\RG mk w Q g 0 l/\∀i j u,i<12->(mk t i)[j]?=Ai u->w.cell? ⟨g,(l.length+i)*(mk t 0).length+j,Ag⟩=Ai u
def RH(mk:Nat->Nat->List Bn)(w:Al)(Q:Nat->Prop)(b o:Nat):List G->Prop
 | []=>True
 | x :: r=>(∃v,w.cell? ⟨b,o,Ag⟩=Ai v/\G.ld mk w Q v x)/\RH mk w Q b (o+1) r
def RG(mk:Nat->Nat->List Bn)(w:Al)(Q:Nat->Prop)(b o:Nat):List (List G)->Prop
 | []=>True
 | e :: r=>RH mk w Q b o e/\RG mk w Q b (o+e.length) r
end
mutual
theorem G.rd.keep{w w':Al}{Q Q':Nat->Prop}(h:∀b,Q b->(∀o,w'.cell? ⟨b,o,Ag⟩=w.cell? ⟨b,o,Ag⟩)/\Q' b)(v:Bn):∀x:G,G.rd w Q v x->G.rd w' Q' v x
 | .one u,hx=>by simpa only[G.rd]using hx
 | .row t l,hx=>by
  simp only[G.rd]at hx ⊢;obtain⟨A,c,h1,h2,h3,h4⟩:=hx;refine⟨A,c,h1,h2,h3,λhn=> ?_⟩;obtain⟨b,o,e,hq,hr⟩:=h4 hn;exact⟨b,o,e,(h b hq).2,Vm.keep h b o (h b hq).1 l hr⟩
theorem Vn.keep{w w':Al}{Q Q':Nat->Prop}(h:∀b,Q b->(∀o,w'.cell? ⟨b,o,Ag⟩=w.cell? ⟨b,o,Ag⟩)/\Q' b)(b o:Nat)(ht:∀o,w'.cell? ⟨b,o,Ag⟩=w.cell? ⟨b,o,Ag⟩):∀l:List G,Vn w Q b o l->Vn w' Q' b o l
 | [],_=>by simp only[Vn]
 | x :: r,hx=>by
  simp only[Vn]at hx ⊢;obtain⟨⟨v,h1,h2⟩,h3⟩:=hx;exact⟨⟨v,(ht _).trans h1,G.rd.keep h v x h2⟩,Vn.keep h b (o+1) ht r h3⟩
theorem Vm.keep{w w':Al}{Q Q':Nat->Prop}(h:∀b,Q b->(∀o,w'.cell? ⟨b,o,Ag⟩=w.cell? ⟨b,o,Ag⟩)/\Q' b)(b o:Nat)(ht:∀o,w'.cell? ⟨b,o,Ag⟩=w.cell? ⟨b,o,Ag⟩):∀l:List (List G),Vm w Q b o l->Vm w' Q' b o l
 | [],_=>by simp only[Vm]
 | e :: r,hx=>by
  simp only[Vm]at hx ⊢;exact⟨Vn.keep h b o ht e hx.1,Vm.keep h b (o+e.length) ht r hx.2⟩
end
mutual
theorem G.ld.keep{mk:Nat->Nat->List Bn}{w w':Al}{Q Q':Nat->Prop}(h:∀b,Q b->(∀o,w'.cell? ⟨b,o,Ag⟩=w.cell? ⟨b,o,Ag⟩)/\Q' b)(v:Bn):∀x:G,G.ld mk w Q v x->G.ld mk w' Q' v x
 | .one u,hx=>by simpa only[G.ld]using hx
 | .row t l,hx=>by
  simp only[G.ld]at hx ⊢;obtain⟨g,c,h1,h2,h3,h4,h5,h6⟩:=hx;exact⟨g,c,h1,h2,h3,(h g h4).2,RG.keep h g 0 (h g h4).1 l h5,λi j u hi hu=>((h g h4).1 _).trans (h6 i j u hi hu)⟩
theorem RH.keep{mk:Nat->Nat->List Bn}{w w':Al}{Q Q':Nat->Prop}(h:∀b,Q b->(∀o,w'.cell? ⟨b,o,Ag⟩=w.cell? ⟨b,o,Ag⟩)/\Q' b)(b o:Nat)(ht:∀o,w'.cell? ⟨b,o,Ag⟩=w.cell? ⟨b,o,Ag⟩):∀l:List G,RH mk w Q b o l->RH mk w' Q' b o l
 | [],_=>by simp only[RH]
 | x :: r,hx=>by
  simp only[RH]at hx ⊢;obtain⟨⟨v,h1,h2⟩,h3⟩:=hx;exact⟨⟨v,(ht _).trans h1,G.ld.keep h v x h2⟩,RH.keep h b (o+1) ht r h3⟩
theorem RG.keep{mk:Nat->Nat->List Bn}{w w':Al}{Q Q':Nat->Prop}(h:∀b,Q b->(∀o,w'.cell? ⟨b,o,Ag⟩=w.cell? ⟨b,o,Ag⟩)/\Q' b)(b o:Nat)(ht:∀o,w'.cell? ⟨b,o,Ag⟩=w.cell? ⟨b,o,Ag⟩):∀l:List (List G),RG mk w Q b o l->RG mk w' Q' b o l
 | [],_=>by simp only[RG]
 | e :: r,hx=>by
  simp only[RG]at hx ⊢;exact⟨RH.keep h b o ht e hx.1,RG.keep h b (o+e.length) ht r hx.2⟩
end
mutual
theorem G.ld.rd{mk:Nat->Nat->List Bn}{w:Al}{Q:Nat->Prop}(v:Bn):∀x:G,G.ld mk w Q v x->G.rd w Q v x
 | .one u,hx=>by simpa only[G.ld,G.rd]using hx
 | .row t l,hx=>by
  simp only[G.ld]at hx;simp only[G.rd];obtain⟨g,c,h1,h2,h3,h4,h5,h6⟩:=hx;exact⟨_,c,h1,oz,h3,λ_=>⟨g,0,rfl,h4,RG.rd g 0 l h5⟩⟩
theorem RH.rd{mk:Nat->Nat->List Bn}{w:Al}{Q:Nat->Prop}(b o:Nat):∀l:List G,RH mk w Q b o l->Vn w Q b o l
 | [],_=>by simp only[Vn]
 | x :: r,hx=>by
  simp only[RH]at hx;simp only[Vn];obtain⟨⟨v,h1,h2⟩,h3⟩:=hx;exact⟨⟨v,h1,G.ld.rd v x h2⟩,RH.rd b (o+1) r h3⟩
theorem RG.rd{mk:Nat->Nat->List Bn}{w:Al}{Q:Nat->Prop}(b o:Nat):∀l:List (List G),RG mk w Q b o l->Vm w Q b o l
 | [],_=>by simp only[Vm]
 | e :: r,hx=>by
  simp only[RG]at hx;simp only[Vm];exact⟨RH.rd b o e hx.1,RG.rd b (o+e.length) r hx.2⟩
end
inductive K where
 | int | byte | bool | str
 | sl (t:Nat)
 deriving DecidableEq
abbrev G.rdW(w:Al)(v:Bn)(x:G):Prop:=G.rd w (λb=>b<w.heap.size) v x
theorem G.rdW.next{w w':Al}{v:Bn}{x:G}(h:G.rdW w v x)(hb:BD w.heap.size w w'):G.rdW w' v x:=
 G.rd.keep (λb hlt=>⟨λ_=>GV (hb.block b hlt),EU hlt hb.size⟩) v x h
abbrev G.ldW(mk:Nat->Nat->List Bn)(w:Al)(v:Bn)(x:G):Prop:=G.ld mk w (λb=>b<w.heap.size) v x
theorem G.ldW.next{mk:Nat->Nat->List Bn}{w w':Al}{v:Bn}{x:G}(h:G.ldW mk w v x)(hb:BD w.heap.size w w'):G.ldW mk w' v x:=
 G.ld.keep (λb hlt=>⟨λ_=>GV (hb.block b hlt),EU hlt hb.size⟩) v x h
end
section
open Go.ChangeShapes Go.WideShapes Go.ChangeAt Go.RowKit Go.Maps
structure jX(κ:Type) where
 t:E3
 k:E3
 vl:κ->Bn
 lit:κ->Lit
 good:κ->Prop
 law:Keyed pG k
 und:pG.underlying t=Ai (.map k 3)
 key:∀x,good x->keyOf pG k (vl x)=Ai (lit x)
 inj:∀x y,vl x=vl y->x=y
 inv:∀v l,keyOf pG k v=Ai l->∃x,good x/\v=vl x
section
variable {κ:Type} [DecidableEq κ] {M:jX κ}
theorem jX.RI{x y:κ}(hx:M.good x)(hy:M.good y)(h:M.lit x=M.lit y):x=y:=
 M.inj x y (M.law.inj (M.key x hx) (by rw[h];exact M.key y hy))
theorem jX.isKey{x:κ}(hx:M.good x):WideAt.IsKeyLit (M.lit x):=M.law.key (M.key x hx)
abbrev VK(n:Int):DataW Unit:= .lit (.int .i64 n)
structure FK(M:jX κ)(ks:List κ)(f:κ->Int)(D:DataW Unit):Prop where
 nodup:ks.Nodup
 good:∀x∈ks,M.good x
 size:Maps.size D=ks.length
 has:∀x,M.good x->Maps.has D (M.lit x)=decide (x∈ks)
 at_:∀x,M.good x->D.atKey (M.lit x) (VK 0)=VK (f x)
 map:IsMap D
 tidy:Tidy D
theorem FK.zero{ks:List κ}{f:κ->Int}{D:DataW Unit}(h:FK M ks f D){x:κ}(hg:M.good x)(hx:x∉ks):f x=0:=by
 have h1:=h.has x hg;rw[dF hx]at h1;have h2:=h.at_ x hg;rw[atKey_of_not_has h1]at h2;have h3:(0:Int)=f x:=by simpa [VK]using h2
 exact h3.symm
theorem FK.nil:FK M ([]:List κ) (λ_=>0) (.map []):=
 ⟨List.nodup_nil,λx h=>by simp at h,rfl,λx _=>rfl,λx _=>rfl,isMap_empty,tidy_empty⟩
def Mv(f:κ->Int)(x:κ)(v:Int):κ->Int:=λy=>if y=x then v else f y
theorem FK.put{ks:List κ}{f:κ->Int}{D:DataW Unit}(h:FK M ks f D){x:κ}(hx:M.good x)(v:Int):FK M (if x∈ks then ks else ks++ [x]) (Mv f x v) (D.put (M.lit x) (VK v)):=by
 have hne:∀y,M.good y->y≠x->M.lit y≠M.lit x:=λy hy hn e=>hn (jX.RI hy hx e)
 refine⟨?_,?_,?_,λy hy=> ?_,λy hy=> ?_,h.map.put _ _,h.tidy.put (jX.isKey hx) _⟩
 .split
  .exact h.nodup
  .rename_i hn
   rw[List.nodup_append];exact⟨h.nodup,qz,λa ha b hb=>by simp at hb;subst hb;exact λe=>hn (e▸ha)⟩
 .intro y hy
  split at hy
  .exact h.good y hy
  .rcases E2.1 hy with hy | hy
   .exact h.good y hy
   .simp at hy;subst hy;exact hx
 .rw[size_put h.tidy,h.has x hx,h.size]
  by_cases hm:x∈ks<;>simp[hm]
 .by_cases e:y=x
  .subst e
   rw[has_put_same h.map (jX.isKey hx)];split
   .rename_i hm;simp[hm]
   .simp
  .rw[has_put_other (hne y hy e),h.has y hy]
   split
   .rfl
   .simp[e]
 .by_cases e:y=x
  .subst e
   rw[atKey_put_same h.map (jX.isKey hx)];simp[Mv]
  .rw[atKey_put_other (hne y hy e),h.at_ y hy]
   simp[Mv,e]
def fG(M:jX κ)(w:Al)(b n:Nat)(ks:List κ)(f:κ->Int):Prop:=∃D,w.ownsMap pG M.k (plainElem pG 3) b n D/\FK M ks f D
variable {w w':Al} {b n:Nat} {ks:List κ} {f:κ->Int}
theorem fG.made(w:Al):fG M (w.alloc (.map #[] 0)) w.heap.size 0 ([]:List κ) (λ_=>0):=⟨_,World.ownsMap_made _ _ _ _,FK.nil⟩
theorem fG.lt(h:fG M w b n ks f):b<w.heap.size:=h.choose_spec.1.lt
theorem fG.mono(h:fG M w b n ks f){m:Nat}(hm:n<=m):fG M w b m ks f:=let ⟨D,h1,h2⟩:=h;⟨D,h1.mono hm,h2⟩
theorem fG.kept{row:Option Nat}(h:fG M w b n ks f)(hg:w.grownBy w' row)(hne:Ai b≠row):fG M w' b n ks f:=let ⟨D,h1,h2⟩:=h;⟨D,h1.kept hg hne,h2⟩
theorem fG.below{B:Nat}(h:fG M w b n ks f)(hb:BD B w w')(hlt:b<B):fG M w' b n ks f:=by
 obtain⟨D,⟨es,clock,h1,h2⟩,h3⟩:=h;exact⟨D,⟨es,clock,(hb.block b hlt).trans h1,h2⟩,h3⟩
theorem fG.alloc(h:fG M w b n ks f)(o:Obj):fG M (w.alloc o) b n ks f:=let ⟨D,h1,h2⟩:=h;⟨D,h1.alloc o,h2⟩
theorem fG.drew(h:fG M w b n ks f):fG M w.drew b n ks f:=h
theorem fG.setCell(h:fG M w b n ks f){a:EK}(ha:b≠a.block)(u:Bn):fG M (w.setCell a u) b n ks f:=let ⟨D,h1,h2⟩:=h;⟨D,h1.setCell ha u,h2⟩
theorem fG.obj(h:fG M w b n ks f):∃es clock,w.heap[b]?=Ai (.map es clock):=let ⟨_,⟨es,clock,h1,_⟩,_⟩:=h;⟨es,clock,h1⟩
theorem fG.same(h:fG M w b n ks f)(e:w'.heap[b]?=w.heap[b]?):fG M w' b n ks f:=by
 obtain⟨D,⟨es,clock,h1,h2⟩,h3⟩:=h;exact⟨D,⟨es,clock,e.trans h1,h2⟩,h3⟩
theorem RJ(w:Al):(zeroValue 3).run pG w= .ok (.int .i64 0) w:=by kernel_rfl
theorem fG.iH(h:fG M w b n ks f){y:κ}(hy:M.good y):(Instr.lookup M.t (.map (Ai b)) (M.vl y) Bj).run pG w= .ok (.int .i64 (f y)) w:=by
 obtain⟨D,h1,h2⟩:=h;obtain⟨c,hr,hat,_⟩:=h1.lookup_int M.law M.und underlying3 (RJ w) (M.key y hy);have e:=h2.at_ y hy;rw[hat]at e;obtain rfl:c=f y:=by simpa [VK]using e
 exact hr
theorem fG.run_store(h:fG M w b n ks f)(hn:n<EW){y:κ}(hy:M.good y)(v:Int)(hv:(Lit.int .i64 v).wf=BR):
 ∃w',(Instr.mapUpdate M.t (.map (Ai b)) (M.vl y) (.int .i64 v)).run pG w= .ok () w'/\fG M w' b (n+1) (if y∈ks then ks else ks++ [y]) (Mv f y v)/\w.grownBy w' (Ai b):=by
 obtain⟨D,h1,h2⟩:=h;obtain⟨w',hr,r1,r2⟩:=h1.update M.law M.und hn (M.key y hy) (plainElem_int underlying3 hv);exact⟨w',hr,⟨_,r1,h2.put hy v⟩,r2⟩
end
end
section
open Go.ChangeShapes Go.WideShapes Go.ChangeAt Go.RowKit
attribute [local go_sem] Oper.semAt_some
structure Ca(ν ρ:Type) where
 unit:ν
 needs:List ρ
 excl:List ν
section
variable {ν ρ:Type} [DecidableEq ν] [DecidableEq ρ]
def Mw(l:List (Ca ν ρ))(out:List ν)(u:ν):Bool:=l.all λc=> !decide (c.unit=u)||c.excl.all λx=>decide (x∈out)
def BZ(acc:List ν)(u:ν):List ν:=if u∈acc then acc else acc++ [u]
def vm(l:List (Ca ν ρ)):List ν:=(l.map Ca.unit).foldl BZ []
def Mx(l:List (Ca ν ρ))(out:List ν):Option ν:=(l.find? λc=> !decide (c.unit∈out)&&Mw l out c.unit).map Ca.unit
def zf(l:List (Ca ν ρ)):Nat->List ν->List ν
 | 0,out=>out
 | f+1,out=>match Mx l out with
  | none=>out
  | some u=>zf l f (out++ [u])
def Px(l:List (Ca ν ρ)):List ν:=zf l (l.length+1) []
theorem VL:∀(a b:List ν),a.Nodup->(∀x∈a,x∈b)->a.length<=b.length
 | [],b,_,_=>Nat.zero_le _
 | x :: a,b,hn,hs=>by
  obtain⟨h1,h2⟩:=List.nodup_cons.1 hn;have hx:x∈b:=hs x qz;have:=VL a (b.erase x) h2 λy hy=>(List.mem_erase_of_ne (λe=>h1 (by subst e;exact hy))).2 (hs y (by simp[hy]))
  rw[List.length_erase_of_mem hx]at this;have hb:0<b.length:=List.length_pos_of_mem hx;simp only[Ia];omega
theorem VN{acc:List ν}{u x:ν}:x∈BZ acc u↔x∈acc\/x=u:=by
 unfold BZ;split
 .rename_i h
  exact⟨.inl,λh'=>h'.elim id λe=>e▸h⟩
 .simp
theorem Mz:∀(us acc:List ν) (x:ν),x∈us.foldl BZ acc↔x∈acc\/x∈us
 | [],acc,x=>by simp
 | u :: us,acc,x=>by
  rw[List.foldl_cons,Mz us,VN,BU,or_assoc]
theorem MB:∀(us acc:List ν),(us.foldl BZ acc).length<=acc.length+us.length
 | [],acc=>by simp
 | u :: us,acc=>by
  have:=MB us (BZ acc u);have h2:(BZ acc u).length<=acc.length+1:=by unfold BZ;split<;>simp
  simp only[List.foldl_cons,Ia];omega
theorem Tk{l:List (Ca ν ρ)}{u:ν}:u∈vm l↔∃c∈l,c.unit=u:=by
 unfold vm;rw[Mz];simp
theorem Tm(l:List (Ca ν ρ)):(vm l).length<=l.length:=by
 have:=MB (l.map Ca.unit) [];simpa [vm]using this
theorem VO{l:List (Ca ν ρ)}{out:List ν}{u:ν}:Mw l out u=BR↔∀c∈l,c.unit=u->∀x∈c.excl,x∈out:=by
 unfold Mw;rw[EL];refine⟨λh c hc e x hx=> ?_,λh c hc=> ?_⟩
 .have:=h c hc
  rw[dT e]at this;simp only[Bool.not_true,Bool.false_or,EL,decide_eq_true_eq]at this;exact this x hx
 .rcases Decidable.em (c.unit=u)with e | e
  .rw[dT e]
   simp only[Bool.not_true,Bool.false_or,EL,decide_eq_true_eq];exact h c hc e
  .rw[dF e];rfl
structure Iq(l:List (Ca ν ρ))(out:List ν):Prop where
 nodup:out.Nodup
 sub:∀u∈out,u∈vm l
 before:∀i (h:i<out.length),∀c∈l,c.unit=out[i]->∀x∈c.excl,x∈out.take i
theorem Iq.nil(l:List (Ca ν ρ)):Iq l []:=⟨List.nodup_nil,λu h=>by simp at h,λi h=>by simp at h⟩
theorem Iq.push{l:List (Ca ν ρ)}{out:List ν}{u:ν}(h:Iq l out)(hu:u∈vm l)(hn:u∉out)(hf:Mw l out u=BR):Iq l (out++ [u]):=by
 refine⟨?_,λx hx=> ?_,λi hi c hc e x hx=> ?_⟩
 .rw[List.nodup_append]
  exact⟨h.nodup,qz,λa ha b hb=>by simp at hb;subst hb;exact λe=>hn (e▸ha)⟩
 .rcases E2.1 hx with hx | hx
  .exact h.sub x hx
  .simp at hx;subst hx;exact hu
 .by_cases hlt:i<out.length
  .rw[List.getElem_append_left hlt]at e
   have:=h.before i hlt c hc e x hx;rw[List.take_append_of_le_length oz];exact this
  .have uz:i=out.length:=by simp at hi;omega
   subst uz;rw[List.take_append_of_le_length nL,List.take_length];simp at e;exact VO.1 hf c hc e x hx
theorem Tn{l:List (Ca ν ρ)}{out:List ν}{u:ν}(h:Mx l out=Ai u):u∈vm l/\u∉out/\Mw l out u=true:=by
 unfold Mx at h;rw[Option.map_eq_some_iff]at h;obtain⟨c,hc,rfl⟩:=h;have h1:=List.find?_some hc;have h2:=List.mem_of_find?_eq_some hc;simp only[BW,Bool.not_eq_true',decide_eq_false_iff_not]at h1;exact⟨Tk.2 ⟨c,h2,rfl⟩,h1.1,h1.2⟩
end
end
section
open Go.ChangeShapes Go.WideShapes Go.ChangeAt Go.RowKit Go.Deep
structure jI where
 unit:ByteArray
 code:Int
 deriving DecidableEq
abbrev Cs:=Ca ByteArray jI
abbrev jI.val(r:jI):Value:= .agg #[.string r.unit,.int .i64 r.code]
def jI.ok(r:jI):Prop:=r.unit.size<=EW/\(Lit.int .i64 r.code).wf=BR
theorem Tp{v:Bn}{l:Lit}(h:keyOf pG 9 v=Ai l):∃x:ByteArray,x.size<=EW/\v= .string x:=by
 cases v<;>simp[keyOf,underlying9,mapKey]at h
 exact⟨_,h.1,rfl⟩
noncomputable def KS:jX ByteArray where
 t:=209
 k:=9
 vl:=λs=> .string s
 lit:=λs=> .string s.data.toList
 good:=λs=>s.size<=EW
 law:=Maps.string_keyed underlying9
 und:=underlying209
 key:=λ_ h=>WideMaps.keyOf_string_mk underlying9 h
 inj:=λx y h=>by injection h
 inv:=λv l h=>Tp h
theorem vo:pG.cellsOf 9=1:=by kernel_rfl
theorem Dp:pG.cellsOf 3=1:=by kernel_rfl
theorem aNX:(85:E3)<pG.types.size:=of_decide_eq_true kz
theorem aDI:∃n,pG.types.size+1=n+2:=by
 have h:0<pG.types.size:=Nat.lt_of_le_of_lt nZ aNX;generalize pG.types.size=z at h;exact⟨z-1,oz⟩
theorem aET{cs:Array Bn}(h:cs.size=2):∃a b,cs= #[a,b]:=by
 obtain⟨l⟩:=cs
 match l,h with
 | [a,b],_=>exact⟨a,b,rfl⟩
def fP{α:Type}[DecidableEq α](x:α)(l:List α):Bool:=decide (x∈l)
theorem nS{α:Type}[DecidableEq α]{x:α}{l:List α}:fP x l=BR↔x∈l:=by unfold fP;rw[decide_eq_true_eq]
theorem VP{x s:ByteArray}(h:x≠s):(x.toList==s.toList)=false:=by
 rw[beq_eq_false_iff_ne];intro e;rw[ByteArray.toList_eq,ByteArray.toList_eq]at e;exact h (ByteArray.ext (Array.toList_inj.1 e))
instance:Inhabited jI:=⟨⟨⟨#[]⟩,0⟩⟩
structure SlV where
 a:Option EK
 n:Nat
 c:Nat
 deriving Inhabited
abbrev SlV.val(s:SlV):Value:= .slice s.a s.n s.c
def iB(w:Al)(B:Nat)(A:Option EK)(l:List ByteArray):Prop:=
 0<l.length->∃b o,A=Ai ⟨b,o,Ag⟩/\b<B/\∀i (h:i<l.length),w.cell? ⟨b,o+i,Ag⟩=Ai (.string l[i])
def jE(w:Al)(B:Nat)(A:Option EK)(l:List jI):Prop:=
 0<l.length->∃b o,A=Ai ⟨b,o,Ag⟩/\b<B/\∀i (h:i<l.length),w.cell? ⟨b,o+i*2,Ag⟩=Ai (.string l[i].unit)/\w.cell? ⟨b,o+i*2+1,Ag⟩=Ai (.int .i64 l[i].code)
structure fC where
 c:Cs
 n:SlV
 x:SlV
abbrev fC.val(x:fC):Value:= .agg #[.string x.c.unit,.slice x.n.a x.n.n x.n.c,.slice x.x.a x.x.n x.x.c]
structure fC.rd(w:Al)(B:Nat)(x:fC):Prop where
 nl:x.n.n=x.c.needs.length
 nc:x.n.n<=x.n.c
 nm:x.n.c<=EW
 n:jE w B x.n.a x.c.needs
 xl:x.x.n=x.c.excl.length
 xc:x.x.n<=x.x.c
 xm:x.x.c<=EW
 x:iB w B x.x.a x.c.excl
def kr(w:Al)(B:Nat)(A:Option EK)(l:List fC):Prop:=
 0<l.length->∃b o,A=Ai ⟨b,o,Ag⟩/\b<B/\∀i (h:i<l.length),w.cell? ⟨b,o+i*3,Ag⟩=Ai (.string l[i].c.unit)/\w.cell? ⟨b,o+i*3+1,Ag⟩=Ai l[i].n.val/\w.cell? ⟨b,o+i*3+2,Ag⟩=Ai l[i].x.val/\l[i].rd w B
structure OkC(c:Cs):Prop where
 u:c.unit.size<=EW
 n:∀r∈c.needs,r.ok
 x:∀s∈c.excl,s.size<=EW
section
variable {w w':Al} {B B':Nat} {A:Option EK}
theorem iB.nil:iB w B A []:=λh=>absurd h qz
theorem jE.nil:jE w B A []:=λh=>absurd h qz
theorem kr.nil:kr w B A []:=λh=>absurd h qz
theorem iB.dn{l:List ByteArray}(h:iB w B A l)(hB:B<=B')(hk:∀b o,b<B->w'.cell? ⟨b,o,Ag⟩=w.cell? ⟨b,o,Ag⟩):iB w' B' A l:=λhn=>by
 obtain⟨b,o,rfl,gD,hc⟩:=h hn;exact⟨b,o,rfl,oz,λi hi=>(hk b _ gD).trans (hc i hi)⟩
theorem jE.dn{l:List jI}(h:jE w B A l)(hB:B<=B')(hk:∀b o,b<B->w'.cell? ⟨b,o,Ag⟩=w.cell? ⟨b,o,Ag⟩):jE w' B' A l:=λhn=>by
 obtain⟨b,o,rfl,gD,hc⟩:=h hn;exact⟨b,o,rfl,oz,λi hi=>⟨(hk b _ gD).trans (hc i hi).1,(hk b _ gD).trans (hc i hi).2⟩⟩
theorem fC.rd.dn{x:fC}(h:x.rd w B)(hB:B<=B')(hk:∀b o,b<B->w'.cell? ⟨b,o,Ag⟩=w.cell? ⟨b,o,Ag⟩):x.rd w' B':=
 ⟨h.nl,h.nc,h.nm,h.n.dn hB hk,h.xl,h.xc,h.xm,h.x.dn hB hk⟩
theorem kr.dn{l:List fC}(h:kr w B A l)(hB:B<=B')(hk:∀b o,b<B->w'.cell? ⟨b,o,Ag⟩=w.cell? ⟨b,o,Ag⟩):kr w' B' A l:=λhn=>by
 obtain⟨b,o,rfl,gD,hc⟩:=h hn;exact⟨b,o,rfl,oz,λi hi=>⟨(hk b _ gD).trans (hc i hi).1,(hk b _ gD).trans (hc i hi).2.1,(hk b _ gD).trans (hc i hi).2.2.1,(hc i hi).2.2.2.dn hB hk⟩⟩
theorem cZ{B:Nat}(hb:BD B w w'):∀b o,b<B->w'.cell? ⟨b,o,Ag⟩=w.cell? ⟨b,o,Ag⟩:=λb o h=>hb.cell (p:=⟨b,o,Ag⟩) h
theorem iB.below{l:List ByteArray}(h:iB w w.heap.size A l)(hb:BD w.heap.size w w'):iB w' w'.heap.size A l:=h.dn hb.size (cZ hb)
theorem jE.below{l:List jI}(h:jE w w.heap.size A l)(hb:BD w.heap.size w w'):jE w' w'.heap.size A l:=h.dn hb.size (cZ hb)
theorem fC.rd.below{x:fC}(h:x.rd w w.heap.size)(hb:BD w.heap.size w w'):x.rd w' w'.heap.size:=h.dn hb.size (cZ hb)
theorem kr.below{l:List fC}(h:kr w w.heap.size A l)(hb:BD w.heap.size w w'):kr w' w'.heap.size A l:=h.dn hb.size (cZ hb)
theorem iB.keep{l:List ByteArray}(h:iB w B A l)(hb:BD B w w'):iB w' B A l:=h.dn nL (cZ hb)
theorem jE.keep{l:List jI}(h:jE w B A l)(hb:BD B w w'):jE w' B A l:=h.dn nL (cZ hb)
theorem fC.rd.keep{x:fC}(h:x.rd w B)(hb:BD B w w'):x.rd w' B:=h.dn nL (cZ hb)
theorem kr.keep{l:List fC}(h:kr w B A l)(hb:BD B w w'):kr w' B A l:=h.dn nL (cZ hb)
theorem iB.more{l:List ByteArray}(h:iB w B A l)(hB:B<=B'):iB w B' A l:=h.dn hB λ_ _ _=>rfl
theorem jE.more{l:List jI}(h:jE w B A l)(hB:B<=B'):jE w B' A l:=h.dn hB λ_ _ _=>rfl
theorem fC.rd.more{x:fC}(h:x.rd w B)(hB:B<=B'):x.rd w B':=h.dn hB λ_ _ _=>rfl
theorem kr.more{l:List fC}(h:kr w B A l)(hB:B<=B'):kr w B' A l:=h.dn hB λ_ _ _=>rfl
end
def jI.g(r:jI):List G:= [.one (.string r.unit),.one (.int .i64 r.code)]
end
section
open Go.ChangeShapes Go.WideShapes Go.ChangeAt Go.RowKit
attribute [local go_sem] Oper.semAt_some
theorem MC{n:Nat}{P:Program}{row:String}{args:Array Bn}{w:Al}{R:Bn->Al->Prop}(h:Rows P row args w R):RowsIn FE n P row args w R:=λc cs _=>
 let ⟨v,w',r,s⟩:=h c cs;⟨v,w',r,stepsIn_wide.2 s⟩
theorem Py{P:Program}{l n:Nat}{o:Oper}{a:Act}{w:Al}{K:Act->Al->Prop}{Q:Exit->Act->Al->Prop}(ho:∀c,o.op≠ .defer c)(h:o.wp P a w K Q):o.wpIn (FE.inRound l) n P a w K Q:=by
 unfold Oper.wpIn;refine⟨λ_ _=>trivial,?_⟩;rw[Oper.semAt_eq _ _ _ ho];unfold Oper.wp at h;generalize (execOp a.eval o).run P w=r at*
 cases r with
 | ok x w'=>
  cases x with
  | value v=>exact h
  | skip=>exact h
  | defer d=>exact h
  | enter f args=>exact⟨λh=>by simp[FE]at h,CallsIn.inRound l ((callsIn_wide.2 h).mono λe w'' he=>by cases e<;>exact he)⟩
  | row row args=>exact⟨λh=>by simp[FE]at h,MC h⟩
  | _=>exact h.elim
 | halt x w'=>cases x<;>first | exact h | exact h.elim
section
variable {P:Program} {ops:Array Oper} {Q:Exit->Act->Al->Prop} {S:Al->Prop} {md:GZ} {l n:Nat}
theorem uD(hd:∀(i:Nat) (o:Oper),ops[i]?=Ai o->∀c,o.op≠ .defer c)(hQ:¬LetsOut Q):∀(fuel:Nat) (listed:Array Bool) (a:Act) (w:Al),wpAny P md ops Q fuel listed a w->wpAnyIn (FE.inRound l) n P md ops Q fuel listed a w
 | 0,_,_,_,h=>h
 | fuel+1,listed,a,w,h=>by
  refine⟨h.1,λi hi=> ?_⟩;have h2:=wpOp_mono (λa w=>uD hd hQ fuel (listed.setIfInBounds i BR) a w) (h.2 i hi);unfold wpOp at h2;unfold wpOpIn;split
  .rename_i he;simpa [he]using h2
  .rename_i o ho
   simp only[ho]at h2;split
   .rename_i hw
    simp only[hw,if_true]at h2;rcases h2 with h2 | ⟨_,h2⟩
    .exact Py (hd i o ho) h2
    .exact absurd h2 hQ
   .rename_i hw
    simp only[hw]at h2;exact⟨λ_ _=>trivial,h2⟩
def RL(ops:Array Oper):Bool:=ops.all λo=>match o.op with | .defer _=>Bj | _=>BR
theorem JT(h:RL ops=BR)(i:Nat)(o:Oper)(ho:ops[i]?=Ai o)(c:Call):o.op≠ .defer c:=λe=>by
 obtain⟨hlt,rfl⟩:=gE ho;have:=Array.all_eq_true.1 h i hlt;simp[e]at this
end
end
section
open Go.ChangeShapes Go.WideShapes Go.ChangeAt Go.RowKit
section
variable {P:Program} {ops:Array Oper} {Q:Exit->Act->Al->Prop} {md:GZ} {S:Al->Prop} {s:Nat}
def wpAnyS(P:Program)(md:GZ)(ops:Array Oper)(Q:Exit->Act->Al->Prop)(S:Al->Prop)(s:Nat):Nat->Array Bool->Act->Al->Prop
 | 0,listed,a,w=>GP md ops listed= []/\Q .normal a w
 | fuel+1,listed,a,w=>
  (GP md ops listed= []->Q .normal a w)/\
  ∀i∈GP md ops listed,wpOp P ops Q i (λa' w'=>((listed.setIfInBounds i BR).getD s Bj=Bj->S w')/\wpAnyS P md ops Q S s fuel (listed.setIfInBounds i BR) a' w') a w
theorem vr:∀(fuel:Nat) (listed:Array Bool) (a:Act) (w:Al),wpAnyS P md ops Q S s fuel listed a w->wpAny P md ops Q fuel listed a w
 | 0,_,_,_,h=>h
 | fuel+1,_,_,_,h=>⟨h.1,λi hi=>wpOp_mono (λa' w' h'=>vr fuel _ a' w' h'.2) (h.2 i hi)⟩
theorem jA(listed:Array Bool){i j:Nat}(h:i≠j):(listed.setIfInBounds i BR).getD j Bj=listed.getD j false:=getD_set_ne Bj h
theorem wpAnyS_first{i:Nat}{oi:Oper}{v:Bn}(hi:ops[i]?=Ai oi)(VQ:∀(j:Nat) (o:Oper) cs b,ops[j]?=Ai o->o.op≠ .select cs b)
 (hQ:∀c a w,Q (.panic c) (a.put oi.dst v) w->Q (.panic c) a w) (C:List Nat) (hsC:s∈C) (hiC:i∉C) (hs:∀j∈C,∀oj,ops[j]?=Ai oj->∃e∈oj.after,G8 md e=BR/\(e.on=i\/e.on∈C)):
 ∀(fuel:Nat) (listed:Array Bool) (a:Act) (w:Al),
  (∀j oj,ops[j]?=Ai oj->j≠i->listed.getD j BR=Bj->(∀e∈oj.after,G8 md e=BR->e.on≠i)->oi.apart ops oj=BR)->
  i∈GP md ops listed->YieldsIf P ops S oi v a->S w->(∀j∈C,listed.getD j Bj=Bj)->
  wpAnyS P md ops Q S s fuel (listed.setIfInBounds i BR) (a.put oi.dst v) w->wpAnyS P md ops Q S s (fuel+1) listed a w:=by
 intro fuel
 induction fuel with
 | zero=>
  intro listed a w _ hr hy hS hls H;refine⟨λh=>(by rw[h]at hr;cases hr),λj hj=> ?_⟩;by_cases CA:j=i
  .subst CA;exact hy.wpOp hi hS ⟨λ_=>hS,H⟩
  .have:=ready_mono hj CA
   rw[H.1]at this
   cases this
 | succ fuel ih=>
  intro listed a w ME hr hy hS hls H;refine⟨λh=>(by rw[h]at hr;cases hr),λj hj=> ?_⟩;by_cases CA:j=i
  .subst CA;exact hy.wpOp hi hS ⟨λ_=>hS,H⟩
  .have h1:=H.2 j (ready_mono hj CA)
   obtain⟨VR,oj,hoj,aJ⟩:=mem_ready.1 hj;have aAf:∀e∈oj.after,G8 md e=BR->e.on≠i:=λe he hb Vo=>by
    have h1:=aJ e he hb;have h0:=(mem_ready.1 hr).1;rw[Vo]at h1;rcases Ii i listed.size with h' | h'
    .simp[h']at h0 h1;rw[h0]at h1;cases h1
    .simp[GX h']at h1
   have hjC:j∉C:=λhj=>by
    obtain⟨e,he,hb,hon⟩:=hs j hj oj hoj;rcases hon with hon | hon
    .exact aAf e he hb hon
    .have h1:=aJ e he hb
     have h0:=hls e.on hon;rcases Ii e.on listed.size with h' | h'
     .simp[h']at h0 h1;rw[h0]at h1;cases h1
     .simp[GX h']at h1
   have hjs:j≠s:=λe=>hjC (e▸hsC)
   have hsi:s≠i:=λe=>hiC (e▸hsC)
   have h2:=wpOp_putIf hoj (ME j oj hoj CA VR aAf) (λcs b=>VQ i oi cs b hi) (λcs b=>VQ j oj cs b hoj) hQ hy h1;have Pz:∀k ok,ops[k]?=Ai ok->k≠i->(listed.setIfInBounds j BR).getD k BR=Bj->
    (∀e∈ok.after,G8 md e=BR->e.on≠i)->oi.apart ops ok=true:=λk ok hk hki hun jT=>by
    refine ME k ok hk hki ?_ jT;by_cases hjk:j=k
    .subst hjk;exact VR
    .rw[getD_set_ne BR hjk]at hun;exact hun
   have hl':∀x∈C,(listed.setIfInBounds j BR).getD x Bj=false:=λx hx=>by rw[jA _ (show j≠x from λe=>hjC (by rw[e];exact hx))];exact hls x hx
   have Cb:((listed.setIfInBounds i BR).setIfInBounds j BR).getD s Bj=false:=by rw[jA _ hjs,jA _ (Ne.symm hsi)];exact hls s hsC
   refine wpOp_mono (λa' w' h3=>⟨λ_=>h3.2.1 Cb,ih (listed.setIfInBounds j BR) a' w' Pz (ready_mono hr (Ne.symm CA)) h3.1 (h3.2.1 Cb) hl' ?_⟩) h2;rw[Array.setIfInBounds_comm _ _ CA];exact h3.2.2
theorem FM{i:Nat}{oi:Oper}{v:Bn}(hi:ops[i]?=Ai oi)(VQ:∀(j:Nat) (o:Oper) cs b,ops[j]?=Ai o->o.op≠ .select cs b)
 (hQ:∀c a w,Q (.panic c) (a.put oi.dst v) w->Q (.panic c) a w) (hsi:s≠i):
 ∀(fuel:Nat) (listed:Array Bool) (a:Act) (w:Al),
  (∀j oj,ops[j]?=Ai oj->j≠i->listed.getD j BR=Bj->(∀e∈oj.after,G8 md e=BR->e.on≠i)->oi.apart ops oj=BR)->
  i∈GP md ops listed->YieldsIf P ops (λ_=>True) oi v a->(listed.getD s Bj=Bj->S w)->
  wpAnyS P md ops Q S s fuel (listed.setIfInBounds i BR) (a.put oi.dst v) w->wpAnyS P md ops Q S s (fuel+1) listed a w:=by
 intro fuel
 induction fuel with
 | zero=>
  intro listed a w _ hr hy hS H;refine⟨λh=>(by rw[h]at hr;cases hr),λj hj=> ?_⟩;by_cases CA:j=i
  .subst CA;exact hy.wpOp hi trivial ⟨λh=>hS (by rw[jA _ (Ne.symm hsi)]at h;exact h),H⟩
  .have:=ready_mono hj CA
   rw[H.1]at this
   cases this
 | succ fuel ih=>
  intro listed a w ME hr hy hS H;refine⟨λh=>(by rw[h]at hr;cases hr),λj hj=> ?_⟩;by_cases CA:j=i
  .subst CA;exact hy.wpOp hi trivial ⟨λh=>hS (by rw[jA _ (Ne.symm hsi)]at h;exact h),H⟩
  .have h1:=H.2 j (ready_mono hj CA)
   obtain⟨VR,oj,hoj,aJ⟩:=mem_ready.1 hj;have aAf:∀e∈oj.after,G8 md e=BR->e.on≠i:=λe he hb Vo=>by
    have h1:=aJ e he hb;have h0:=(mem_ready.1 hr).1;rw[Vo]at h1;rcases Ii i listed.size with h' | h'
    .simp[h']at h0 h1;rw[h0]at h1;cases h1
    .simp[GX h']at h1
   have h2:=wpOp_putIf hoj (ME j oj hoj CA VR aAf) (λcs b=>VQ i oi cs b hi) (λcs b=>VQ j oj cs b hoj) hQ hy h1;have Pz:∀k ok,ops[k]?=Ai ok->k≠i->(listed.setIfInBounds j BR).getD k BR=Bj->
    (∀e∈ok.after,G8 md e=BR->e.on≠i)->oi.apart ops ok=true:=λk ok hk hki hun jT=>by
    refine ME k ok hk hki ?_ jT;by_cases hjk:j=k
    .subst hjk;exact VR
    .rw[getD_set_ne BR hjk]at hun;exact hun
   have hcv:∀h:(listed.setIfInBounds j BR).getD s Bj=Bj,((listed.setIfInBounds i BR).setIfInBounds j BR).getD s Bj=false:=λh=>by
    rw[Array.setIfInBounds_comm _ _ (Ne.symm CA),jA _ (Ne.symm hsi)];exact h
   refine wpOp_mono (λa' w' h3=>⟨λh=>h3.2.1 (hcv h),ih (listed.setIfInBounds j BR) a' w' Pz (ready_mono hr (Ne.symm CA)) h3.1 (λh=>h3.2.1 (hcv h)) ?_⟩) h2;rw[Array.setIfInBounds_comm _ _ CA];exact h3.2.2
theorem eu{i:Nat}{oi:Oper}{v:Bn}{fuel:Nat}{listed:Array Bool}{a:Act}{w:Al}(hi:ops[i]?=Ai oi)
 (hs:Region.noSelect ops=BR) (hf:Region.free md ops listed i=BR) (hr:(GP md ops listed).contains i=BR) (hw:(s !=i)=BR)
 (hQ:∀c a w,Q (.panic c) (a.put oi.dst v) w->Q (.panic c) a w) (hy:YieldsIf P ops (λ_=>True) oi v a) (hS:S w)
 (h:wpAnyS P md ops Q S s fuel (listed.setIfInBounds i BR) (a.put oi.dst v) w):wpAnyS P md ops Q S s (fuel+1) listed a w:=
 FM hi (Region.noSelect_spec hs) hQ (by simpa using hw) fuel listed a w (Region.free_spec hi hf) (by simpa using hr) hy (λ_=>hS) h
def Dq(md:GZ)(ops:Array Oper)(i:Nat):List Nat:=
 (EO ops.size).foldl (λC j=>match ops[j]? with
  | some o=>if o.after.any (λe=>G8 md e&&(e.on==i||C.contains e.on))then j :: C else C
  | none=>C) []
def waits(md:GZ)(ops:Array Oper)(C:List Nat)(s i:Nat)(listed:Array Bool):Bool:=
 C.contains s&& !C.contains i&&C.all (λj=> !listed.getD j Bj&&match ops[j]? with
  | some o=>o.after.any λe=>G8 md e&&(e.on==i||C.contains e.on)
  | none=>BR)
theorem sO{i:Nat}{oi:Oper}{v:Bn}{fuel:Nat}{listed:Array Bool}{a:Act}{w:Al}(hi:ops[i]?=Ai oi)
 (hs:Region.noSelect ops=BR) (hf:Region.free md ops listed i=BR) (hr:(GP md ops listed).contains i=BR) (hw:waits md ops (Dq md ops i) s i listed=BR)
 (hQ:∀c a w,Q (.panic c) (a.put oi.dst v) w->Q (.panic c) a w) (hy:YieldsIf P ops S oi v a) (hS:S w)
 (h:wpAnyS P md ops Q S s fuel (listed.setIfInBounds i BR) (a.put oi.dst v) w):wpAnyS P md ops Q S s (fuel+1) listed a w:=by
 generalize Dq md ops i=C at hw;simp only[waits,BW,Bool.not_eq_true',EL,List.contains_iff_mem]at hw;obtain⟨⟨h1,h2⟩,h3⟩:=hw;refine wpAnyS_first hi (Region.noSelect_spec hs) hQ C h1 (λe=>by rw[<-List.contains_iff_mem,h2]at e;cases e) (λj hj oj ho=> ?_) fuel listed a w (Region.free_spec hi hf) (by simpa using hr) hy hS (λj hj=>(h3 j hj).1) h;have h4:=(h3 j hj).2;rw[ho]at h4;simp only[Array.any_eq_true']at h4;obtain⟨e,he,hb⟩:=h4;simp only[BW,Bool.or_eq_true,beq_iff_eq,List.contains_iff_mem]at hb;exact⟨e,he,hb.1,hb.2⟩
def dx(P:Program)(md:GZ)(ops:Array Oper)(Q:Exit->Act->Al->Prop)(S:Al->Prop)(s:Nat)(fuel:Nat)(listed:Array Bool)(a:Act)(w:Al)(rs:List Nat):Prop:=
 ∀i∈rs,wpOp P ops Q i (λa' w'=>((listed.setIfInBounds i BR).getD s Bj=Bj->S w')/\wpAnyS P md ops Q S s fuel (listed.setIfInBounds i BR) a' w') a w
theorem dx.nil{fuel:Nat}{listed:Array Bool}{a:Act}{w:Al}:dx P md ops Q S s fuel listed a w []:=λ_ h=>by cases h
theorem dx.cons{fuel:Nat}{listed:Array Bool}{a:Act}{w:Al}{i:Nat}{o:Oper}{rs:List Nat}(ho:ops[i]?=Ai o)
 (h:∀K':Act->Al->Prop,Go.Shut (∀a w,((listed.setIfInBounds i BR).getD s Bj=Bj->S w)->wpAnyS P md ops Q S s fuel (listed.setIfInBounds i BR) a w->K' a w)->if G6 o (yielded ops a.tmps)=BR then Oper.wp P o a w K' Q else K' (a.put o.dst BA) w)
 (hs:dx P md ops Q S s fuel listed a w rs):dx P md ops Q S s fuel listed a w (i :: rs):=λj hj=>by
 rcases BU.1 hj with rfl | hj
 .exact wpOp_step ho (λK' hK=>h K' (λa w hS hW=>hK a w ⟨hS,hW⟩))
 .exact hs j hj
theorem jB{rs:List Nat}{fuel:Nat}{listed:Array Bool}{a:Act}{w:Al}(hr:GP md ops listed=rs)(hne:rs≠ [])
 (h:dx P md ops Q S s fuel listed a w rs):wpAnyS P md ops Q S s (fuel+1) listed a w:=⟨λh0=>absurd (hr▸h0) hne,hr▸h⟩
theorem aL{listed:Array Bool}{a:Act}{w:Al}(hr:GP md ops listed= [])(h:Q .normal a w):∀fuel,wpAnyS P md ops Q S s fuel listed a w
 | 0=>⟨hr,h⟩
 | _+1=>⟨λ_=>h,by rw[hr];simp⟩
theorem nU{l n:Nat}{id:Nat}{a:Act}{w:Al}(S:Al->Prop)(s:Nat)(hm:P.follows .mixedOrders=BR)(hd:RL ops=BR)(hQ:¬LetsOut Q)
 (hS:S w.drew) (h:S w.drew->wpAnyS P .any ops Q S s ops.size (G5 ops.size Bj) a w.drew):(Code.region id ops BR).wpIn (FE.inRound l) n P Q a w:=
 wpIn_region_any hm (uD (JT hd) hQ _ _ _ _ (vr _ _ _ _ (h hS)))
end
end
section
open Go.ChangeShapes Go.WideShapes Go.ChangeAt Go.RowKit
structure Gr(X:Nat->Prop)(w w':Al):Prop where
 os:w'.os=w.os
 tape:w'.tape=w.tape
 output:w'.output=w.output
 size:w.heap.size<=w'.heap.size
 block:∀k,k<w.heap.size->¬X k->w'.heap[k]?=w.heap[k]?
theorem Gr.refl(X:Nat->Prop)(w:Al):Gr X w w:=⟨rfl,rfl,rfl,nL,λ_ _ _=>rfl⟩
theorem Gr.trans{X:Nat->Prop}{a b c:Al}(h:Gr X a b)(k:Gr X b c):Gr X a c:=
 ⟨k.os.trans h.os,k.tape.trans h.tape,k.output.trans h.output,nT h.size k.size,λi hi hx=>(k.block i (EU hi h.size) hx).trans (h.block i hi hx)⟩
theorem Gr.mono{X Y:Nat->Prop}{a b:Al}(h:Gr X a b)(hx:∀k,k<a.heap.size->X k->Y k):Gr Y a b:=
 ⟨h.os,h.tape,h.output,h.size,λi hi hy=>h.block i hi λx=>hy (hx i hi x)⟩
theorem Gr.eO{X:Nat->Prop}{a b:Al}{row:Option Nat}(h:a.grownBy b row)(hx:∀k,row=Ai k->X k):Gr X a b:=
 ⟨h.os,h.tape,h.output,h.size,λi hi hn=>h.block i hi λe=>hn (hx i e.symm)⟩
theorem Gr.ak{X:Nat->Prop}{a b:Al}(h:BD a.heap.size a b):Gr X a b:=⟨h.os,h.tape,h.output,h.size,λi hi _=>h.block i hi⟩
theorem Gr.alloc(X:Nat->Prop)(w:Al)(o:Obj):Gr X w (w.alloc o):= .ak (bN)
theorem Gr.setCell{X:Nat->Prop}(w:Al)(a:EK)(v:Bn)(h:X a.block):Gr X w (w.setCell a v):=
 ⟨rfl,rfl,rfl,by simp[GK],λk _ hx=>Hu w a v k (λe=>hx (e▸h))⟩
theorem Gr.grown{X:Nat->Prop}{w a b:Al}{r:Nat}(h:w.grownBy a (Ai r))(k:Gr X a b)(hx:∀k,k<w.heap.size->X k->k=r):w.grownBy b (Ai r):=
 ⟨k.os.trans h.os,k.tape.trans h.tape,k.output.trans h.output,nT h.size k.size,λi hi hn=>(k.block i (EU hi h.size) (λx=>hn (by rw[hx i hi x]))).trans (h.block i hi hn)⟩
theorem Gr.cell{X:Nat->Prop}{a b:Al}(h:Gr X a b){p:EK}{v:Bn}(hv:a.cell? p=Ai v)(hx:¬X p.block):b.cell? p=Ai v:=
 (GV (h.block p.block (World.block_lt_of_cell? a p hv) hx)).trans hv
theorem Gr.blk{X:Nat->Prop}{a b:Al}(h:Gr X a b){g:Nat}{t:E3}{cs:Array Bn}(hb:ah a g t cs)(hx:¬X g):ah b g t cs:=(h.block g hb.lt hx).trans hb
end
section
open Go.ChangeShapes Go.WideShapes Go.ChangeAt Go.RowKit
def uE(id:Nat):Code->Option Code
 | .region i ops d=>if i=id then Ai (.region i ops d)else Ag
 | .seq a b=>match uE id a with | some c=>Ai c | none=>uE id b
 | .cond _ a b=>match uE id a with | some c=>Ai c | none=>uE id b
 | .block _ b=>uE id b
 | .loop b=>uE id b
 | .scope b=>uE id b
 | .rangeFunc _ _ a b=>match uE id a with | some c=>Ai c | none=>uE id b
 | _=>Ag
theorem aT{P:Program}{id:Nat}{ops:Array Oper}{Q:Exit->Act->Al->Prop}{a:Act}{w:Al}(S:Al->Prop)(s:Nat)(hm:P.follows .mixedOrders=BR)(hS:S w.drew)
 (h:S w.drew->wpAnyS P .any ops Q S s ops.size (G5 ops.size Bj) a w.drew):(Code.region id ops BR).wp P Q a w:=
 wp_region_any hm (vr _ _ _ _ (h hS))
end
section
open Go.ChangeShapes Go.WideShapes Go.ChangeAt Go.RowKit
attribute [local go_sem] Oper.semAt_some
theorem TS{P:Program}{ops:Array Oper}{Q:Exit->Act->Al->Prop}{S:Al->Prop}{md:GZ}{s:Nat}(i:Nat){oi:Oper}{v:Bn}{fuel:Nat}{listed:Array Bool}{a:Act}{w:Al}(hi:ops[i]?=Ai oi)(hS:S w)
 (h:wpAnyS P md ops Q S s fuel (listed.setIfInBounds i BR) (a.put oi.dst v) w) (hx:G6 oi (yielded ops a.tmps)=true:=by rfl) (hy:∀w,S w->(execOp a.eval oi).run P w= .ok (.value v) w:=by
  intro w hSw
  first
  | obtain⟨zh,hS1,jY,CD,vw,CF,MF,Dr,FN,Vp,aNa,mA,aNb⟩:=hSw
  | obtain⟨zh,hS1,jY,CD,vw,CF,MF,Dr,FN,Vp⟩:=hSw
  | obtain⟨zh,hS1,jY,CD,vw,CF,MF,Dr,FN⟩:=hSw
  | obtain⟨zh,hS1,jY,CD,vw,CF,MF,Dr⟩:=hSw
  | obtain⟨zh,hS1,jY,CD,vw,CF,MF⟩:=hSw
  | obtain⟨zh,hS1,jY,CD,vw⟩:=hSw
  | obtain⟨zh,hS1,jY⟩:=hSw
  | obtain⟨zh,hS1⟩:=hSw
  | skip
  go_simp
  first | done | with_reducible rfl)
 (hs:Region.noSelect ops=true:=by kernel_rfl) (hf:Region.free md ops listed i=true:=by kernel_rfl) (hr:(GP md ops listed).contains i=true:=by kernel_rfl) (hw:waits md ops (Dq md ops i) s i listed=true:=by kernel_rfl)
 (hQ:∀c a w,Q (.panic c) (a.put oi.dst v) w->Q (.panic c) a w:=by exact λc a w h=>h):wpAnyS P md ops Q S s (fuel+1) listed a w:=sO hi hs hf hr hw hQ (Or.inl ⟨hx,hy⟩) hS h
theorem TA{P:Program}{ops:Array Oper}{Q:Exit->Act->Al->Prop}{S:Al->Prop}{md:GZ}{s:Nat}(i:Nat){oi:Oper}{v:Bn}{fuel:Nat}{listed:Array Bool}{a:Act}{w:Al}(hi:ops[i]?=Ai oi)(hS:S w)
 (h:wpAnyS P md ops Q S s fuel (listed.setIfInBounds i BR) (a.put oi.dst v) w) (hx:G6 oi (yielded ops a.tmps)=true:=by as_aux_lemma=>kernel_rfl) (hy:∀w,S w->(execOp a.eval oi).run P w= .ok (.value v) w:=by intro w hSw;go_simp;first | done | with_reducible rfl)
 (hs:Region.noSelect ops=true:=by as_aux_lemma=>kernel_rfl) (hf:Region.free md ops listed i=true:=by as_aux_lemma=>kernel_rfl) (hr:(GP md ops listed).contains i=true:=by as_aux_lemma=>kernel_rfl) (hw:waits md ops (Dq md ops i) s i listed=true:=by as_aux_lemma=>kernel_rfl)
 (hQ:∀c a w,Q (.panic c) (a.put oi.dst v) w->Q (.panic c) a w:=by exact λc a w h=>h):wpAnyS P md ops Q S s (fuel+1) listed a w:=sO hi hs hf hr hw hQ (Or.inl ⟨hx,hy⟩) hS h
theorem RQ{P:Program}{md:GZ}{ops:Array Oper}{Q:Exit->Act->Al->Prop}{S:Al->Prop}{s:Nat}(i:Nat){fuel:Nat}{listed:Array Bool}{a:Act}{w:Al}{o:Oper}(ho:ops[i]?=Ai o)
 (h:∀K':Act->Al->Prop,Go.Shut (∀a w,((listed.setIfInBounds i BR).getD s Bj=Bj->S w)->wpAnyS P md ops Q S s fuel (listed.setIfInBounds i BR) a w->K' a w)->if G6 o (yielded ops a.tmps)=BR then Oper.wp P o a w K' Q else K' (a.put o.dst BA) w)
 (hr:GP md ops listed= [i]:=by kernel_rfl):wpAnyS P md ops Q S s (fuel+1) listed a w:=jB hr (by simp) (dx.cons ho h dx.nil)
def dR{α:Type}[DecidableEq α](x:α)(l:List α):Nat:=l.count x
section
variable {κ:Type} [DecidableEq κ]
theorem sP(x y:κ)(l:List κ):dR x (l++ [y])=dR x l+if x=y then 1 else 0:=by
 unfold dR;rw[List.count_append];by_cases e:x=y
 .subst e;simp
 .simp[List.count_cons,e,Ne.symm e,show¬y=x from λh=>e h.symm]
theorem aAg(x:κ)(l:List κ):0<dR x l↔x∈l:=List.count_pos_iff
theorem vA(x:κ)(l:List κ):dR x l<=l.length:=List.count_le_length
theorem JU(x:κ)(l:List κ):decide (0<dR x l)=fP x l:=by
 unfold fP;rw[decide_eq_decide];exact aAg x l
def aH(M:jX κ)(w:Al)(b:Nat)(l:List κ):Prop:=∃n,n<=l.length/\fG M w b n (l.foldl BZ []) λx=>(dR x l:Int)
variable {M:jX κ} {w w':Al} {b:Nat} {l:List κ}
theorem aH.made(w:Al):aH M (w.alloc (.map #[] 0)) w.heap.size []:=⟨0,nL,fG.made w⟩
theorem aH.lt(h:aH M w b l):b<w.heap.size:=let ⟨_,_,h⟩:=h;h.lt
theorem aH.kept{row:Option Nat}(h:aH M w b l)(hg:w.grownBy w' row)(hne:Ai b≠row):aH M w' b l:=let ⟨n,h1,h2⟩:=h;⟨n,h1,h2.kept hg hne⟩
theorem aH.below{B:Nat}(h:aH M w b l)(hb:BD B w w')(hlt:b<B):aH M w' b l:=let ⟨n,h1,h2⟩:=h;⟨n,h1,h2.below hb hlt⟩
theorem aH.next(h:aH M w b l)(hb:BD w.heap.size w w'):aH M w' b l:=h.below hb h.lt
theorem aH.alloc(h:aH M w b l)(o:Obj):aH M (w.alloc o) b l:=let ⟨n,h1,h2⟩:=h;⟨n,h1,h2.alloc o⟩
theorem aH.drew(h:aH M w b l):aH M w.drew b l:=h
theorem aH.setCell(h:aH M w b l){a:EK}(ha:b≠a.block)(u:Bn):aH M (w.setCell a u) b l:=let ⟨n,h1,h2⟩:=h;⟨n,h1,h2.setCell ha u⟩
theorem aH.obj(h:aH M w b l):∃es clock,w.heap[b]?=Ai (.map es clock):=let ⟨_,_,h⟩:=h;h.obj
theorem aH.same(h:aH M w b l)(e:w'.heap[b]?=w.heap[b]?):aH M w' b l:=let ⟨n,h1,h2⟩:=h;⟨n,h1,h2.same e⟩
theorem aH.iH(h:aH M w b l){y:κ}(hy:M.good y):(Instr.lookup M.t (.map (Ai b)) (M.vl y) Bj).run pG w= .ok (.int .i64 (dR y l)) w:=let ⟨_,_,h⟩:=h;h.iH hy
theorem aH.aDL{n:Nat}{y:κ}(hn:n<=l.length)(h:fG M w b (n+1) (if y∈l.foldl BZ []then l.foldl BZ []else l.foldl BZ []++ [y]) (Mv (λx=>(dR x l:Int)) y ((dR y l:Int)+1))):aH M w b (l++ [y]):=by
 refine⟨n+1,qo,?_⟩;rw[List.foldl_append];have e:(λx=>(dR x (l++ [y]):Int))=Mv (λx=>(dR x l:Int)) y ((dR y l:Int)+1):=by
  funext x;rw[sP];unfold Mv;by_cases e:x=y
  .subst e;simp
  .simp[e]
 rw[e];exact h
theorem aH.run_store(h:aH M w b l)(hl:l.length<EW){y:κ}(hy:M.good y):
 ∃w',(Instr.mapUpdate M.t (.map (Ai b)) (M.vl y) (.int .i64 ((dR y l:Int)+1))).run pG w= .ok () w'/\aH M w' b (l++ [y])/\w.grownBy w' (Ai b):=by
 obtain⟨n,h1,h2⟩:=h;have hc:=vA y l;have hm:EW=9223372036854775807:=rfl;obtain⟨w',hr,r1,r2⟩:=h2.run_store oz hy ((dR y l:Int)+1) (WalkArith.wf_i64 oz);exact⟨w',hr,aH.aDL h1 r1,r2⟩
end
end
section
open Go.ChangeShapes Go.WideShapes Go.ChangeAt Go.RowKit
theorem eZ{α:Type}(p:α->Bool)(l:List α):decide (cV p l>=0)=l.any p:=by
 rcases Pu p l with⟨k,h,e,_,hp⟩ | ⟨e,hn⟩
 .rw[e,List.any_eq_true.2 ⟨l[k],CS h,hp⟩];simp
 .rw[e]
  have:l.any p=false:=by
   rw[List.any_eq_false];intro x hx;have:=List.find?_eq_none.1 hn x hx;simpa using this
  rw[this];rfl
def JV(g:Nat)(lb:Array Bn)(p:ByteArray->Bool)(l:List ByteArray)(w:Al):Prop:=
 ∀(W:Al) (r:ByteArray),r∈l->BD w.heap.size w W->CU g (#[.string r]++lb) W (.bool (p r))
theorem PA(g:Nat)(lb:Array Bn)(p:ByteArray->Bool)(eg:∀args w,(EZ g args).run pG w= .ok (.enter g args) w)(l:List ByteArray)(A:Option EK)(c:Nat)(w:Al)
 (hp:JV g lb p l w) (h:iB w w.heap.size A l) (hl:l.length<=9223372036854775807):
 CU 246 #[.slice A l.length c,.func (.func g) #[] lb] w (.int .i64 (cV p l)):=by
 go_enter func246,ntmps246;go_wp2;go_loopw [5,8] (λ_ i wr=>∃k:Nat,k<=l.length/\i= .int .i64 k/\BD w.heap.size w wr/\Hid (∀j (h:j<l.length),j<k->p l[j]=Bj)) (λ_ i _=>l.length-(E8 i).toNat)
 case atStart=>exact⟨0,nZ,rfl,BK _ _,λj _ h=>absurd h oz⟩
 case round=>
  obtain⟨k,hk,rfl,hB,aJ⟩:=hrel;by_cases hlt:k<l.length
  .obtain⟨b,o,rfl,hb,hc⟩:=h.keep hB oz
   have gH:=hc k hlt;have au:=hp wr l[k] (CS hlt) hB;clear hc hp h;have hs:=hB.size;have cD:p l[k]=BR->cV p l=k:=λhq=>nR hlt hq aJ.out
   have cQ:p l[k]=Bj->∀j (h:j<l.length),j<k+1->p l[j]=false:=λhq=>lU (p:=λr=>p r=Bj) aJ.out hq
   have dU:=lz cD;have dH:=lz cQ;clear cD cQ aJ;generalize l[k]=r at gH au dU dH;have c0:=gH;clear gH
   cases hq:p r with
   | true=>
    have cD:=lz (dU.out hq);rw[hq]at au;clear dU dH hq;go_wp2_with (go_at_fn g;refine au.mono ?_;rintro e w' ⟨rfl,hb'⟩);go_ret;exact⟨eT cD.out.symm,hB.trans (hb'.mono hs)⟩
   | false=>
    have cQ:=lz (dH.out hq);rw[hq]at au;clear dU dH hq;go_wp2_with (go_at_fn g;refine au.mono ?_;rintro e w' ⟨rfl,hb'⟩);go_roundw
    case rel=>exact⟨k+1,oz,by go_num,hB.trans (hb'.mono hs),cQ⟩
    case measure=>simp[E8];omega
  .go_wp2
   go_ret;exact⟨eT (nM λj hj=>aJ.out j hj oz).symm,hB⟩
theorem uF(g:Nat)(lb:Array Bn)(p:ByteArray->Bool)(eg:∀args w,(EZ g args).run pG w= .ok (.enter g args) w)(l:List ByteArray)(A:Option EK)(c:Nat)(w:Al)
 (hp:JV g lb p l w) (h:iB w w.heap.size A l) (hl:l.length<=9223372036854775807):
 CU 176 #[.slice A l.length c,.func (.func g) #[] lb] w (.bool (l.any p)):=by
 have hI:=PA g lb p eg l A c w hp h hl;rw[<-eZ];generalize cV p l=q at hI ⊢;clear h hp;go_enter func176,ntmps176;go_wp2_with fail;refine hI.mono ?_;rintro e w1 ⟨rfl,aU⟩;clear hI;go_wp2;go_ret;exact⟨rfl,aU⟩
def CG(g:Nat)(lb:Array Bn)(p:jI->Bool)(l:List jI)(w:Al):Prop:=
 ∀(W:Al) (r:jI),r∈l->BD w.heap.size w W->CU g (#[r.val]++lb) W (.bool (p r))
theorem PB(g:Nat)(lb:Array Bn)(p:jI->Bool)(eg:∀args w,(EZ g args).run pG w= .ok (.enter g args) w)(l:List jI)(A:Option EK)(c:Nat)(w:Al)
 (hp:CG g lb p l w) (h:jE w w.heap.size A l) (hl:l.length<=9223372036854775807):
 CU 232 #[.slice A l.length c,.func (.func g) #[] lb] w (.int .i64 (cV p l)):=by
 go_enter func232,ntmps232;go_wp2;go_loopw [5,8] (λ_ i wr=>∃k:Nat,k<=l.length/\i= .int .i64 k/\BD w.heap.size w wr/\Hid (∀j (h:j<l.length),j<k->p l[j]=Bj)) (λ_ i _=>l.length-(E8 i).toNat)
 case atStart=>exact⟨0,nZ,rfl,BK _ _,λj _ h=>absurd h oz⟩
 case round=>
  obtain⟨k,hk,rfl,hB,aJ⟩:=hrel;by_cases hlt:k<l.length
  .obtain⟨b,o,rfl,hb,hc⟩:=h.keep hB oz
   have gH:=hc k hlt;have au:=hp wr l[k] (CS hlt) hB;clear hc hp h;have hs:=hB.size;have cD:p l[k]=BR->cV p l=k:=λhq=>nR hlt hq aJ.out
   have cQ:p l[k]=Bj->∀j (h:j<l.length),j<k+1->p l[j]=false:=λhq=>lU (p:=λr=>p r=Bj) aJ.out hq
   have dU:=lz cD;have dH:=lz cQ;clear cD cQ aJ;generalize l[k]=r at gH au dU dH;obtain⟨c0,c1⟩:=gH
   cases hq:p r with
   | true=>
    have cD:=lz (dU.out hq);rw[hq]at au;clear dU dH hq;go_wp2_with (go_at_fn g;refine au.mono ?_;rintro e w' ⟨rfl,hb'⟩);go_ret;exact⟨eT cD.out.symm,hB.trans (hb'.mono hs)⟩
   | false=>
    have cQ:=lz (dH.out hq);rw[hq]at au;clear dU dH hq;go_wp2_with (go_at_fn g;refine au.mono ?_;rintro e w' ⟨rfl,hb'⟩);go_roundw
    case rel=>exact⟨k+1,oz,by go_num,hB.trans (hb'.mono hs),cQ⟩
    case measure=>simp[E8];omega
  .go_wp2
   go_ret;exact⟨eT (nM λj hj=>aJ.out j hj oz).symm,hB⟩
theorem uG(g:Nat)(lb:Array Bn)(p:jI->Bool)(eg:∀args w,(EZ g args).run pG w= .ok (.enter g args) w)(l:List jI)(A:Option EK)(c:Nat)(w:Al)
 (hp:CG g lb p l w) (h:jE w w.heap.size A l) (hl:l.length<=9223372036854775807):
 CU 141 #[.slice A l.length c,.func (.func g) #[] lb] w (.bool (l.any p)):=by
 have hI:=PB g lb p eg l A c w hp h hl;rw[<-eZ];generalize cV p l=q at hI ⊢;clear h hp;go_enter func141,ntmps141;go_wp2_with fail;refine hI.mono ?_;rintro e w1 ⟨rfl,aU⟩;clear hI;go_wp2;go_ret;exact⟨rfl,aU⟩
def JW(g:Nat)(lb:Array Bn)(p:fC->Bool)(l:List fC)(w:Al):Prop:=
 ∀(W:Al) (r:fC),r∈l->BD w.heap.size w W->r.rd W W.heap.size->CU g (#[r.val]++lb) W (.bool (p r))
theorem PD(g:Nat)(lb:Array Bn)(p:fC->Bool)(eg:∀args w,(EZ g args).run pG w= .ok (.enter g args) w)(l:List fC)(A:Option EK)(c:Nat)(w:Al)
 (hp:JW g lb p l w) (h:kr w w.heap.size A l) (hl:l.length<=9223372036854775807):
 CU 175 #[.slice A l.length c,.func (.func g) #[] lb] w (.int .i64 (cV p l)):=by
 go_enter func175,ntmps175;go_wp2;go_loopw [5,8] (λ_ i wr=>∃k:Nat,k<=l.length/\i= .int .i64 k/\BD w.heap.size w wr/\Hid (∀j (h:j<l.length),j<k->p l[j]=Bj)) (λ_ i _=>l.length-(E8 i).toNat)
 case atStart=>exact⟨0,nZ,rfl,BK _ _,λj _ h=>absurd h oz⟩
 case round=>
  obtain⟨k,hk,rfl,hB,aJ⟩:=hrel;by_cases hlt:k<l.length
  .obtain⟨b,o,rfl,hb,hc⟩:=h.keep hB oz
   have gH:=hc k hlt;have au:=hp wr l[k] (CS hlt) hB (gH.2.2.2.more (nT nL hB.size));clear hc hp h;have hs:=hB.size;have cD:p l[k]=BR->cV p l=k:=λhq=>nR hlt hq aJ.out
   have cQ:p l[k]=Bj->∀j (h:j<l.length),j<k+1->p l[j]=false:=λhq=>lU (p:=λr=>p r=Bj) aJ.out hq
   have dU:=lz cD;have dH:=lz cQ;clear cD cQ aJ;generalize l[k]=r at gH au dU dH;obtain⟨c0,c1,c2,_⟩:=gH
   cases hq:p r with
   | true=>
    have cD:=lz (dU.out hq);rw[hq]at au;clear dU dH hq;go_wp2_with (go_at_fn g;refine au.mono ?_;rintro e w' ⟨rfl,hb'⟩);go_ret;exact⟨eT cD.out.symm,hB.trans (hb'.mono hs)⟩
   | false=>
    have cQ:=lz (dH.out hq);rw[hq]at au;clear dU dH hq;go_wp2_with (go_at_fn g;refine au.mono ?_;rintro e w' ⟨rfl,hb'⟩);go_roundw
    case rel=>exact⟨k+1,oz,by go_num,hB.trans (hb'.mono hs),cQ⟩
    case measure=>simp[E8];omega
  .go_wp2
   go_ret;exact⟨eT (nM λj hj=>aJ.out j hj oz).symm,hB⟩
theorem jJ(g:Nat)(lb:Array Bn)(p:fC->Bool)(eg:∀args w,(EZ g args).run pG w= .ok (.enter g args) w)(l:List fC)(A:Option EK)(c:Nat)(w:Al)
 (hp:JW g lb p l w) (h:kr w w.heap.size A l) (hl:l.length<=9223372036854775807):
 CU 95 #[.slice A l.length c,.func (.func g) #[] lb] w (.bool (l.any p)):=by
 have hI:=PD g lb p eg l A c w hp h hl;rw[<-eZ];generalize cV p l=q at hI ⊢;clear h hp;go_enter func95,ntmps95;go_wp2_with fail;refine hI.mono ?_;rintro e w1 ⟨rfl,aU⟩;clear hI;go_wp2;go_ret;exact⟨rfl,aU⟩
end
section
open Go.ChangeShapes Go.WideShapes Go.ChangeAt Go.RowKit
attribute [local go_sem] Oper.semAt_some
def jO(b:Int):Bool:=(decide (b>=97)&&decide (b<=122))||(decide (b>=65)&&decide (b<=90))
def lD(b:Int):Bool:=decide (b>=48)&&decide (b<=57)
def mB(b:Int):Bool:=(jO b||lD b)||(b==95)
def wP(b:Int):Bool:=(((((b==123)||(b==125))||(b==59))||(b==44))||(b==46))||(b==58)
def fM(s:ByteArray)(i:Nat):Int:=if h:i<s.size then((s[i]'h).toNat:Int)else 0
theorem jf{s:ByteArray}{i:Nat}(h:i<s.size):((s[i]'h).toNat:Int)=fM s i:=by unfold fM;rw[dif_pos h]
theorem Dt(b:Int)(w:Al):ET pG 254 #[.int .u8 b] w λe w'=>e= .returned (.bool (jO b))/\w=w':=by
 obtain⟨q,hq⟩:∃q,jO b=q:=⟨_,rfl⟩;rw[hq];unfold jO at hq;have Hq:=lz hq;clear hq
 cases h1:decide (b>=97)<;>cases h2:decide (b<=122)<;>cases h3:decide (b>=65)<;>cases h4:decide (b<=90)
 all_goals
  rw[h1,h2,h3,h4]at Hq;go_enter func254,ntmps254;go_wp2;go_ret;exact⟨fT Hq.out,rfl⟩
theorem JX(b:Int)(w:Al):ET pG 255 #[.int .u8 b] w λe w'=>e= .returned (.bool (lD b))/\w=w':=by
 obtain⟨q,hq⟩:∃q,lD b=q:=⟨_,rfl⟩;rw[hq];unfold lD at hq;have Hq:=lz hq;clear hq
 cases h1:decide (b>=48)<;>cases h2:decide (b<=57)
 all_goals
  rw[h1,h2]at Hq;go_enter func255,ntmps255;go_wp2;go_ret;exact⟨fT Hq.out,rfl⟩
theorem CH(b:Int)(w:Al):ET pG 256 #[.int .u8 b] w λe w'=>e= .returned (.bool (mB b))/\w=w':=by
 have hl:=Dt b w;have hd:=JX b w;obtain⟨q,hq⟩:∃q,mB b=q:=⟨_,rfl⟩;rw[hq];unfold mB at hq;have Hq:=lz hq;clear hq
 cases h1:jO b<;>cases h2:lD b<;>cases h3:(b==95)
 all_goals
  rw[h1,h2,h3]at Hq;rw[h1]at hl;rw[h2]at hd;have Hl:=lz hl;have Hd:=lz hd;clear hl hd h1 h2;go_enter func256,ntmps256;go_wp2_with (first | (go_at_call 254;refine Hl.out.mono ?_;rintro e w' ⟨rfl,rfl⟩) | (go_at_call 255;refine Hd.out.mono ?_;rintro e w' ⟨rfl,rfl⟩));go_ret;exact⟨fT Hq.out,rfl⟩
theorem aEU(b:Int)(w:Al):ET pG 253 #[.int .u8 b] w λe w'=>e= .returned (.bool (wP b))/\w=w':=by
 obtain⟨q,hq⟩:∃q,wP b=q:=⟨_,rfl⟩;rw[hq];unfold wP at hq;have Hq:=lz hq;clear hq;have fin:∀q1:Bool,q1=q->ET pG 253 #[.int .u8 b] w (λe w'=>e= .returned (.bool q1)/\w=w')->ET pG 253 #[.int .u8 b] w (λe w'=>e= .returned (.bool q)/\w=w'):=λ_ h=>h▸id
 cases h1:(b==123)
 .cases h2:(b==125)
  .cases h3:(b==59)
   .cases h4:(b==44)
    .cases h5:(b==46)
     .cases h6:(b==58)
      all_goals
       rw[h1,h2,h3,h4,h5,h6]at Hq;go_enter func253,ntmps253;go_wp2;go_ret;exact⟨fT Hq.out,rfl⟩
     .rw[h1,h2,h3,h4,h5]at Hq
      go_enter func253,ntmps253;go_wp2;go_ret;exact⟨fT Hq.out,rfl⟩
    .rw[h1,h2,h3,h4]at Hq
     go_enter func253,ntmps253;go_wp2;go_ret;exact⟨fT (by simpa using Hq.out),rfl⟩
   .rw[h1,h2,h3]at Hq
    go_enter func253,ntmps253;go_wp2;go_ret;exact⟨fT (by simpa using Hq.out),rfl⟩
  .rw[h1,h2]at Hq
   go_enter func253,ntmps253;go_wp2;go_ret;exact⟨fT (by simpa using Hq.out),rfl⟩
 .rw[h1]at Hq
  go_enter func253,ntmps253;go_wp2;go_ret;exact⟨fT (by simpa using Hq.out),rfl⟩
def CJ(s:ByteArray):Nat->Bool
 | 0=>BR
 | k+1=>CJ s k&&mB (fM s k)
theorem PE{s:ByteArray}{n k:Nat}(h:CJ s n=BR)(hk:k<n):mB (fM s k)=true:=by
 induction n with
 | zero=>omega
 | succ n ih=>
  simp only[CJ,BW]at h;by_cases e:k=n
  .subst e;exact h.2
  .exact ih h.1 oz
def MG(s:ByteArray):Bool:=(decide (0<s.size)&&decide (s.size<=24))&&(jO (fM s 0)&&CJ s s.size)
theorem aAh{s:ByteArray}(w:Al)(hn:MG s=BR):ET pG 257 #[.string s] w λe w'=>e= .returned (.bool BR)/\w=w':=by
 simp only[MG,BW,decide_eq_true_eq]at hn;obtain⟨⟨h0,h24⟩,hl,sy⟩:=hn;have hL:=Dt ((s[0]'h0).toNat:Int) w;rw[jf h0,hl,<-jf h0]at hL;have hI:=fun(k:Nat) (hk:k<s.size)=>CH ((s[k]'hk).toNat:Int) w
 have HL:=lz hL;have HI:=lz hI;have VT:=lz sy;clear hL hI sy hl;have e1:((s.size:Int)==0)=false:=by rw[beq_eq_false_iff_ne];omega
 have e2:decide ((s.size:Int)>24)=false:=by simp;omega
 go_enter func257,ntmps257;go_wp2_with (go_at_call 254;refine HL.out.mono ?_;rintro e w' ⟨rfl,rfl⟩);go_loopw [3] (λt wr=>∃k:Nat,k<=s.size/\t= .int .i64 k/\wr=w) (λt _=>s.size-(E8 t).toNat)
 case atStart=>exact⟨0,nZ,rfl,rfl⟩
 case round=>
  obtain⟨k,hk,rfl,rfl⟩:=hrel;by_cases hlt:k<s.size
  .have hI:=HI.out k hlt
   rw[jf hlt,PE VT.out hlt,<-jf hlt]at hI;have HI1:=lz hI;clear hI;go_wp2_with (go_at_call 256;refine HI1.out.mono ?_;rintro e w' ⟨rfl,rfl⟩);go_roundw
   case rel=>exact⟨k+1,oz,by go_num,trivial⟩
   case measure=>simp[E8];omega
  .go_wp2_with fail
   go_ret;exact⟨rfl,rfl⟩
def FP(s:ByteArray):Nat->Nat->Int->Option Int
 | 0,_,_=>Ag
 | f+1,i,n=>
  if i<s.size then
   (if lD (fM s i)=BR then(if 0<i/\n=0 then Ag else(if n*10+(fM s i-48)<=1073741824 then FP s f (i+1) (n*10+(fM s i-48))else Ag))else Ag)
  else(if 0<s.size then Ai n else Ag)
def aIJ(s:ByteArray):Bool:=(FP s 1001 0 0).isSome
def VU(s:ByteArray)(n:Int):Bool:=decide (FP s 1001 0 0=Ai n)
theorem Tq{s:ByteArray}{f i:Nat}{n v:Int}(h:FP s f i n=Ai v)(hi:i<s.size):∃f',f=f'+1/\lD (fM s i)=BR/\¬(0<i/\n=0)/\n*10+(fM s i-48)<=1073741824/\FP s f' (i+1) (n*10+(fM s i-48))=Ai v:=by
 cases f with
 | zero=>cases h
 | succ f=>
  unfold FP at h;rw[if_pos hi]at h;split at h
  .rename_i h1
   split at h
   .cases h
   .rename_i h2
    split at h
    .rename_i h3;exact⟨f,rfl,h1,h2,h3,h⟩
    .cases h
  .cases h
theorem VW{s:ByteArray}{f i:Nat}{n v:Int}(h:FP s f i n=Ai v)(hi:¬i<s.size):0<s.size/\n=v:=by
 cases f with
 | zero=>cases h
 | succ f=>
  unfold FP at h;rw[if_neg hi]at h;split at h
  .rename_i h1;exact⟨h1,ES.inj h⟩
  .cases h
theorem MH{b:Int}(h:lD b=BR):48<=b/\b<=57:=by
 unfold lD at h;simpa using h
theorem VX{s:ByteArray}{n:Int}(w:Al)(h:VU s n=BR):ET pG 258 #[.string s] w λe w'=>e= .returned (.tuple #[.int .i64 n,.bool BR])/\w=w':=by
 have HF:Hid (FP s 1001 0 0=Ai n):=lz (of_decide_eq_true h);clear h;go_enter func258,ntmps258;go_wp2;go_loopw [4,5] (λm t wr=>∃(i f:Nat) (q:Int),i<=s.size/\i+f<=1001/\0<=q/\q<=1073741824/\m= .int .i64 q/\t= .int .i64 i/\Hid (FP s f i q=Ai n)/\wr=w) (λ_ t _=>s.size-(E8 t).toNat)
 case atStart=>exact⟨0,1001,0,nZ,oz,oz,oz,rfl,rfl,HF,rfl⟩
 case round=>
  clear HF;obtain⟨i,f,q,hi,hif,hq0,MI,rfl,rfl,hN,rfl⟩:=hrel;by_cases hlt:i<s.size
  .obtain⟨f',hff,hd,hz,hm,hn⟩:=Tq hN.out hlt
   obtain⟨r1,r2⟩:=MH hd;have hb:=jf hlt;have hD:=JX ((s[i]'hlt).toNat:Int) wr;rw[hb,hd,<-hb]at hD;have HD:=lz hD;rw[<-hb]at r1 r2 hm hn;have HN:=lz hn;have Hz:=lz hz;clear hN hd hD hb hn hz;have e1:IntKind.u8.wrap (((s[i]'hlt).toNat:Int)-48)=((s[i]'hlt).toNat:Int)-48:=by
    show(_:Int)%((2:Int) ^ 8)=_;omega
   have e2:wrap64 (q*10)=q*10:=IntWalk.wrap64_in _ ⟨oz,oz⟩;have e3:wrap64 (q*10+(((s[i]'hlt).toNat:Int)-48))=q*10+(((s[i]'hlt).toNat:Int)-48):=IntWalk.wrap64_in _ ⟨oz,oz⟩;have e4:decide (q*10+(((s[i]'hlt).toNat:Int)-48)>1073741824)=false:=by simp;omega
   have e5:wrap64 ((i:Int)+1)=((i+1:Nat):Int):=by rw[IntWalk.wrap64_in _ ⟨oz,oz⟩];omega
   by_cases h0:0<i
   .have hq:(q==0)=false:=by
     rw[beq_eq_false_iff_ne];exact λc=>Hz.out ⟨h0,c⟩
    go_wp2_with (go_at_call 255;refine HD.out.mono ?_;rintro e w' ⟨rfl,rfl⟩);go_roundw
    case rel=>exact⟨i+1,f',q*10+(((s[i]'hlt).toNat:Int)-48),oz,oz,oz,oz,by rfl,by rfl,HN,trivial⟩
    case measure=>simp[E8,e5];omega
   .go_wp2_with (go_at_call 255;refine HD.out.mono ?_;rintro e w' ⟨rfl,rfl⟩)
    go_roundw
    case rel=>exact⟨i+1,f',q*10+(((s[i]'hlt).toNat:Int)-48),oz,oz,oz,oz,by rfl,by rfl,HN,trivial⟩
    case measure=>simp[E8,e5];omega
  .obtain⟨h1,h2⟩:=VW hN.out hlt
   have e1:decide ((s.size:Int)>0)=true:=by simp;omega
   subst h2;go_wp2_with fail;refine bodyPost_ret (results_tmp2 rfl _ _ _) rfl ?_;exact⟨rfl,rfl⟩

structure Hit(L:List fC)(u:ByteArray) where
 i:Nat
 x:fC
 h:L[i]?=Ai x
 hu:x.c.unit=u
abbrev Hit.enc{L:List fC}{u:ByteArray}(y:Hit L u):Array Value:= #[.int .i64 y.i,y.x.val]
structure RM(B Bl Bu:Nat)(W W':Al):Prop where
 size:W.heap.size<=W'.heap.size
 same:∀k,k<B\/k=Bl\/k=Bu->W'.heap[k]?=W.heap[k]?
theorem RM.refl(B Bl Bu:Nat)(W:Al):RM B Bl Bu W W:=⟨nL,λ_ _=>rfl⟩
theorem RM.trans{B Bl Bu:Nat}{W W' W'':Al}(h:RM B Bl Bu W W')(h':RM B Bl Bu W' W''):RM B Bl Bu W W'':=⟨nT h.size h'.size,λk hk=>(h'.same k hk).trans (h.same k hk)⟩
theorem RM.blk{B Bl Bu:Nat}{W W':Al}(h:RM B Bl Bu W W'){g:Nat}{t:E3}{cs:Array Bn}(hb:ah W g t cs)(hg:g<B\/g=Bl\/g=Bu):ah W' g t cs:=(h.same g hg).trans hb
theorem RM.cell{B Bl Bu:Nat}{W W':Al}(h:RM B Bl Bu W W'):∀b o,b<B->W'.cell? ⟨b,o,Ag⟩=W.cell? ⟨b,o,Ag⟩:=λb o hb=>GV (h.same b (.inl hb))
theorem RM.ak{B Bl Bu:Nat}{W W':Al}(h:BD W.heap.size W W')(hB:B<=W.heap.size)(hl:Bl<W.heap.size)(hu:Bu<W.heap.size):RM B Bl Bu W W':=
 ⟨h.size,λk hk=>h.block k (by rcases hk with hk | rfl | rfl<;>omega)⟩
theorem RM.put{B Bl Bu:Nat}{w:Al}(hB:B<=w.heap.size)(hl:Bl<w.heap.size)(hu:Bu<w.heap.size):∀(W:Al) (l:Nat) (o o':Obj),w.heap.size<=l->W.heap[l]?=Ai o->o.isCells=Bj->o.isWalk=Bj->RM B Bl Bu W (W.putObj l o'):=
 λW l o o' h _ _ _=>⟨qz,λk hk=>EM (by rcases hk with hk | rfl | rfl<;>omega)⟩
structure RS(W4:Al)(Bf:Nat)(t:E3)(v:Bn)(W:Al):Prop where
 os:W.os=W4.os
 tape:W.tape=W4.tape
 output:W.output=W4.output
 size:W4.heap.size<=W.heap.size
 block:∀k,k<W4.heap.size->k≠Bf->W.heap[k]?=W4.heap[k]?
 bf:ah W Bf t #[v]
section
variable {W4 W W':Al} {Bf:Nat} {t:E3} {v v':Bn}
theorem RS.refl(h:ah W4 Bf t #[v]):RS W4 Bf t v W4:=⟨rfl,rfl,rfl,nL,λ_ _ _=>rfl,h⟩
theorem RS.trans(h:RS W4 Bf t v W)(h':RS W Bf t v' W'):RS W4 Bf t v' W':=
 ⟨h'.os.trans h.os,h'.tape.trans h.tape,h'.output.trans h.output,nT h.size h'.size,λk hk hn=>(h'.block k (EU hk h.size) hn).trans (h.block k hk hn),h'.bf⟩
theorem RS.next(h:RS W4 Bf t v W)(hb:BD W.heap.size W W'):RS W4 Bf t v W':=
 ⟨hb.os.trans h.os,hb.tape.trans h.tape,hb.output.trans h.output,nT h.size hb.size,λk hk hn=>(hb.block k (EU hk h.size)).trans (h.block k hk hn),h.bf.below hb h.bf.lt⟩
theorem RS.alloc(h:RS W4 Bf t v W)(o:Obj):RS W4 Bf t v (W.alloc o):=h.next ((BK _ W).alloc nL o)
theorem RS.bX(h:RS W4 Bf t v W)(u:Bn):RS W4 Bf t u (W.setCell ⟨Bf,0,Ag⟩ u):=
 ⟨h.os,h.tape,h.output,by simpa [GK]using h.size,λk hk hn=>(Hu W ⟨Bf,0,Ag⟩ u k (by simpa using hn)).trans (h.block k hk hn),by simpa using h.bf.bX 0 u⟩
theorem RS.own{β:Type}{g:β->Bn}(hlt:Bf<W4.heap.size):OwnFrom W4.heap.size (fun(s:β) W=>RS W4 Bf t (g s) W):=λs X Y row hs hg hr=>
 ⟨hg.os.trans hs.os,hg.tape.trans hs.tape,hg.output.trans hs.output,nT hs.size hg.size,
  λk hk hn=>(hg.block k (EU hk hs.size) (λe=>by have:=(hr k e.symm).1;omega)).trans (hs.block k hk hn),Mu (β:=β) W4.heap.size _ _ _ s X Y row hs.bf hg hr⟩
theorem RS.blk(h:RS W4 Bf t v W){g:Nat}{t':E3}{cs:Array Bn}(hb:ah W4 g t' cs)(hn:g≠Bf):ah W g t' cs:=(h.block g hb.lt hn).trans hb
theorem RS.below{w:Al}{base:Nat}(h:RS W4 Bf t v W)(hb:BD base w W4)(hs:base<=W4.heap.size)(hf:base<=Bf):BD base w W:=
 ⟨h.os.trans hb.os,h.tape.trans hb.tape,h.output.trans hb.output,nT hb.size h.size,λk hk=>(h.block k oz oz).trans (hb.block k hk)⟩
end
def aAl(L:List fC):List ByteArray:=L.map (·.c.unit)
section
variable {P:Program} {a:Act} {w:Al} {Q:Exit->Act->Al->Prop}
end
abbrev Ts(L:List fC):List Cs:=L.map (·.c)
theorem PG{l:List Cs}{out:List ByteArray}{u:ByteArray}(h:Mx l out=Ai u)(hlen:out.length<=l.length)(ho:zf l (l.length+1-out.length) out=Px l):zf l (l.length+1-(out++ [u]).length) (out++ [u])=Px l:=by
 rw[show l.length+1-out.length=(l.length+1-(out++ [u]).length)+1 by simp;omega]at ho;simp only[zf,h]at ho;exact ho
theorem qW{W:Al}{base c:Nat}{A:Option EK}{l:List ByteArray}(h:W.ownsRow base 9 1 (.slice A l.length c) l.length (l.map GI)):iB W W.heap.size A l:=λhn=>by
 obtain⟨g,cap,hv,_,hlt⟩:=h.form hn;have hA:A=Ai ⟨g,0,Ag⟩:=by injection hv
 subst hA;refine⟨g,0,rfl,hlt,λi hi=> ?_⟩;have:=h.cells (g:=g) rfl i (.string l[i]) (by simp[hi])
 rwa[eY]at this
theorem Shut.str{B:Nat}{W W':Al}{A:Option EK}{l:List ByteArray}(h:Shut B W W')(hr:iB W W.heap.size A l):iB W' W'.heap.size A l:=λhn=>by
 obtain⟨b,o,rfl,hb,hc⟩:=hr hn;refine⟨b,o,rfl,EU hb h.size,λi hi=> ?_⟩;obtain⟨ob,ho,cC⟩:=cells_of_cell (hc i hi);exact(GV ((h.cells _ _ ho cC).trans ho.symm)).trans (hc i hi)
structure qx(w:Al)(L:List fC)(out:List ByteArray)(v:Bn)(Ds:List Nat)(W:Al):Prop where
 below:BD w.heap.size w W
 size:w.heap.size+3<=W.heap.size
 box:ah W (w.heap.size+1) 209 #[.map (Ai w.heap.size)]
 listed:aH KS W w.heap.size out
 units:aH KS W (w.heap.size+2) (aAl L)
 own:W.ownsRow (w.heap.size+3) 9 1 v out.length (out.map GI)
 nodup:Ds.Nodup
 marks:∀D∈Ds,w.heap.size+3<=D/\W.heap[D]?=Ai (.deferred (Ai []))
 ord:Iq (Ts L) out
 fuel:zf (Ts L) ((Ts L).length+1-out.length) out=Px (Ts L)
section
variable {w:Al} {L:List fC} {out:List ByteArray} {v:Bn} {Ds:List Nat} {W W':Al}
theorem qx.len(h:qx w L out v Ds W):out.length<=L.length:=by
 have:=VL _ _ h.ord.nodup h.ord.sub;have:=Tm (Ts L);simp at this;omega
theorem qx.next(h:qx w L out v Ds W)(hb:BD W.heap.size W W'):qx w L out v Ds W' where
 below:=h.below.trans (hb.mono h.below.size)
 size:=nT h.size hb.size
 box:=h.box.below hb h.box.lt
 listed:=h.listed.next hb
 units:=h.units.next hb
 own:=h.own.kept (gL (row:=Ag) hb) (by
  rcases h.own.2 with⟨rfl,_⟩ | ⟨g,cap,cur,rfl,_,hh,_⟩
  .exact .inl rfl
  .exact .inr (λe=>by cases e))
 nodup:=h.nodup
 marks:=λD hD=>⟨(h.marks D hD).1,(hb.block D (gE (h.marks D hD).2).1).trans (h.marks D hD).2⟩
 ord:=h.ord
 fuel:=h.fuel
end
theorem qy(n:Nat)(T:Array Bn)(h:T.size=n):∃z:Nat->Bn,T=((EO n).map z).toArray/\∀i,z i=T.getD i undef:=by
 refine⟨λi=>T.getD i BA,?_,λ_=>rfl⟩;apply Array.ext
 .simp[h]
 .intro i h1 h2
  simp[Array.getD,h1]
structure FJ(w:Al)(A:Option EK)(n c:Nat)(v:Bn)(Ds:List Nat)(a:Act):Prop where
 size:a.tmps.size=80
 s0:a.tmps.getD 0 BA= .slice A n c
 s4:a.tmps.getD 4 BA=v
 s5:a.tmps.getD 5 BA= .pointer (Ai ⟨w.heap.size+1,0,Ag⟩)
 s6:a.tmps.getD 6 BA= .map (Ai (w.heap.size+2))
 defers:a.defers=Ds.map sM
structure FL(w:Al)(A:Option EK)(n c:Nat)(v:Bn)(Ds:List Nat)(k:Nat)(a:Act):Prop where
 j:FJ w A n c v Ds a
 s30:a.tmps.getD 30 BA= .slice A n c
 s31:a.tmps.getD 31 BA= .int .i64 n
 s32:a.tmps.getD 32 BA= .int .i64 k
theorem FJ.lit{w:Al}{A:Option EK}{n c:Nat}{v:Bn}{Ds:List Nat}{a:Act}(h:FJ w A n c v Ds a):∃z:Nat->Bn,a={tmps:=List.toArray [.slice A n c,z 1,z 2,z 3,v,.pointer (Ai ⟨w.heap.size+1,0,Ag⟩),.map (Ai (w.heap.size+2)),z 7,z 8,z 9,z 10,z 11,z 12,z 13,z 14,z 15,z 16,z 17,z 18,z 19,z 20,z 21,z 22,z 23,z 24,z 25,z 26,z 27,z 28,z 29,z 30,z 31,z 32,z 33,z 34,z 35,z 36,z 37,z 38,z 39,z 40,z 41,z 42,z 43,z 44,z 45,z 46,z 47,z 48,z 49,z 50,z 51,z 52,z 53,z 54,z 55,z 56,z 57,z 58,z 59,z 60,z 61,z 62,z 63,z 64,z 65,z 66,z 67,z 68,z 69,z 70,z 71,z 72,z 73,z 74,z 75,z 76,z 77,z 78,z 79],defers:=Ds.map sM}:=by
 obtain⟨T,d⟩:=a;obtain⟨h1,h2,h3,h4,h5,h6⟩:=h;simp only at h1 h2 h3 h4 h5 h6;obtain⟨z,hz,hg⟩:=qy 80 T h1;refine⟨z,?_⟩;rw[<-hg]at h2 h3 h4 h5;rw[h6,hz,<-h2,<-h3,<-h4,<-h5];rfl
theorem FL.lit{w:Al}{A:Option EK}{n c:Nat}{v:Bn}{Ds:List Nat}{k:Nat}{a:Act}(h:FL w A n c v Ds k a):∃z:Nat->Bn,a={tmps:=List.toArray [.slice A n c,z 1,z 2,z 3,v,.pointer (Ai ⟨w.heap.size+1,0,Ag⟩),.map (Ai (w.heap.size+2)),z 7,z 8,z 9,z 10,z 11,z 12,z 13,z 14,z 15,z 16,z 17,z 18,z 19,z 20,z 21,z 22,z 23,z 24,z 25,z 26,z 27,z 28,z 29,.slice A n c,.int .i64 n,.int .i64 k,z 33,z 34,z 35,z 36,z 37,z 38,z 39,z 40,z 41,z 42,z 43,z 44,z 45,z 46,z 47,z 48,z 49,z 50,z 51,z 52,z 53,z 54,z 55,z 56,z 57,z 58,z 59,z 60,z 61,z 62,z 63,z 64,z 65,z 66,z 67,z 68,z 69,z 70,z 71,z 72,z 73,z 74,z 75,z 76,z 77,z 78,z 79],defers:=Ds.map sM}:=by
 obtain⟨T,d⟩:=a;obtain⟨⟨h1,h2,h3,h4,h5,h6⟩,h7,h8,h9⟩:=h;simp only at h1 h2 h3 h4 h5 h6 h7 h8 h9;obtain⟨z,hz,hg⟩:=qy 80 T h1;refine⟨z,?_⟩;rw[<-hg]at h2 h3 h4 h5 h7 h8 h9;rw[h6,hz,<-h8,<-h9,<-h3,<-h4,<-h5];rw[show(.slice A n c:Bn)=z 0 from h2.symm];simp only[List.range_eq_range',List.range',List.map];rw[h7,<-h2]
theorem RS.ord{w:Al}{L:List fC}{out:List ByteArray}{v:Bn}{Ds:List Nat}{W4 W:Al}{Bf:Nat}{f f':Bn}(h:RS W4 Bf 4 f W)(hS:qx w L out v Ds W4)(hf:ah W4 Bf 4 #[f'])(hB:w.heap.size+3<=Bf):qx w L out v Ds W where
 below:=h.below hS.below hS.below.size oz
 size:=nT hS.size h.size
 box:=h.blk hS.box oz
 listed:=hS.listed.same (h.block _ hS.listed.lt oz)
 units:=hS.units.same (h.block _ hS.units.lt oz)
 own:=by
  have hg:W4.grownBy W (Ai Bf):=⟨h.os,h.tape,h.output,h.size,λk hk hn=>h.block k hk (λe=>hn (by rw[e]))⟩;refine hS.own.kept hg (.inr ?_);exact aW hS.own hf dz
 nodup:=hS.nodup
 marks:=λD hD=>⟨(hS.marks D hD).1,(h.block D (gE (hS.marks D hD).2).1 (λe=>by
  have:=(hS.marks D hD).2;rw[e,show W4.heap[Bf]?=_ from hf]at this
  cases this)).trans (hS.marks D hD).2⟩
 ord:=hS.ord
 fuel:=hS.fuel
theorem qx.mark{w:Al}{L:List fC}{out:List ByteArray}{v:Bn}{Ds:List Nat}{W:Al}{D lo:Nat}(h:qx w L out v Ds W)(VY:∀E∈Ds,E<lo)(hD:lo<=D)(hw:w.heap.size+3<=D)(hK:W.heap[D]?=Ai (.deferred (Ai []))):qx w L out v (D :: Ds) W:=
 {h with
  nodup:=List.nodup_cons.2 ⟨λhm=>by have:=VY D hm;omega,h.nodup⟩
  marks:=λE hE=>by
   rcases BU.1 hE with rfl | hE
   .exact⟨hw,hK⟩
   .exact h.marks E hE}
theorem aDM:(pG.info? 9).map (λi=>(i.zero,i.size,i.bytes))=Ai (Ai (.string ⟨#[]⟩),1,16):=by kernel_rfl
theorem iQ{w:Al}{base:Nat}{e:E3}{size n g:Nat}{v:Bn}{xs:List Bn}{o:Obj}(h:w.ownsRow base e size v n xs)(hg:w.heap[g]?=Ai o)(hn:o.isCells=Bj):v.ownBlock≠Ai g:=by
 rcases h.2 with⟨rfl,_⟩ | ⟨g',cap,cur,rfl,_,hh,_⟩
 .simp[Jk]
 .intro he
  have:g'=g:=by simpa [Jk]using he
  subst this;rw[hh]at hg;injection hg with hg
  subst hg
  cases hn
theorem qx.step{w:Al}{L:List fC}{out:List ByteArray}{v v':Bn}{Ds:List Nat}{W w1 w2:Al}{u:ByteArray}{o:Obj}(h:qx w L out v Ds W)(hu:Mx (Ts L) out=Ai u)
 (hm:aH KS w1 w.heap.size (out++ [u])) (hg:W.grownBy w1 (Ai w.heap.size)) (hown1:(w1.alloc o).ownsRow (w.heap.size+3) 9 1 v out.length (out.map GI))
 (hown:w2.ownsRow (w.heap.size+3) 9 1 v' (out.length+1) (out.map GI++ [.string u])) (eG:(w1.alloc o).grownBy w2 v.ownBlock):qx w L (out++ [u]) v' Ds w2:=by
 have hs1:=hg.size;have Pb:=eG.size;simp at Pb;have hsz:=h.size;have uH:∀g,g<w.heap.size+3->Ai g≠v.ownBlock:=λg hlt e=>by have:=(hown1.lt g e.symm).1;omega
 have aU:BD w.heap.size w (w1.alloc o):=(h.below.grown hg oz (λj e=>by cases e;omega)).alloc oz _;have Cc:=Tn hu;refine⟨aU.grown eG qo (λg hg=>by have:=(hown1.lt g hg).1;omega),oz,?_,?_,?_,?_,h.nodup,λD hD=> ?_,?_,?_⟩
 .exact((h.box.grown hg qz).alloc o).grown eG (uH _ oz)
 .exact(hm.alloc o).kept eG (uH _ oz)
 .exact((h.units.kept hg qz).alloc o).kept eG (uH _ oz)
 .simpa using hown
 .have hd:=h.marks D hD
  have hlt:=(gE hd.2).1;have e1:w1.heap[D]?=Ai (.deferred (Ai [])):=(hg.block D hlt qo).trans hd.2;have e2:(w1.alloc o).heap[D]?=Ai (.deferred (Ai [])):=(Below.heap_alloc _ _ _ oz).trans e1;exact⟨hd.1,(eG.block D qo (λe=>iQ hown1 e2 rfl e.symm)).trans e2⟩
 .exact h.ord.push Cc.1 Cc.2.1 Cc.2.2
 .exact PG hu (by have:=h.len;simpa using this) h.fuel

end
section
open Go.ChangeShapes Go.WideShapes Go.ChangeAt Go.RowKit
open Go.ChangeMaps (setBlock heap_setBlock_same)
open Go.WideMaps (KeyLaw)
open Go.ChangeMaps Go.WideElems
theorem Du(w:Al)(b:Nat)(o o':Obj):setBlock (setBlock w b o) b o'=setBlock w b o':=by
 simp[setBlock,Array.setIfInBounds_setIfInBounds]
theorem Dv{α:Type}{a b:α}{w w':Al}(h:Result.ok a w=Result.ok b w'):a=b/\w=w':=by cases h;exact⟨rfl,rfl⟩
attribute [local go_sem] Oper.semAt_some
end
section
open Go.ChangeShapes Go.WideShapes Go.ChangeAt Go.RowKit
attribute [local go_sem] Oper.semAt_some
theorem uI(X:Al)(p:EK)(u:Bn):X.grownBy (X.setCell p u) (Ai p.block):=⟨rfl,rfl,rfl,by simp[GK],λk _ hn=>Hu X p u k (λe=>hn (by rw[e]))⟩
structure rS(w1:Al)(acc:List ByteArray)(v:Bn)(Ds:List Nat)(hi:Nat)(W:Al):Prop where
 below:BD w1.heap.size w1 W
 size:w1.heap.size+3<=W.heap.size
 aEV:ah W w1.heap.size 81 #[v]
 VZ:ah W (w1.heap.size+2) 209 #[.map (Ai (w1.heap.size+1))]
 map:aH KS W (w1.heap.size+1) acc
 own:W.ownsRow (w1.heap.size+3) 9 1 v acc.length (acc.map GI)
 nodup:Ds.Nodup
 marks:∀D∈Ds,w1.heap.size+3<=D/\D<hi/\W.heap[D]?=Ai (.deferred (Ai []))
section
variable {w1:Al} {acc:List ByteArray} {v:Bn} {Ds:List Nat} {hi:Nat} {W W':Al}
theorem rS.more(h:rS w1 acc v Ds hi W){hi':Nat}(hh:hi<=hi'):rS w1 acc v Ds hi' W:=
 {h with marks:=λD hD=>⟨(h.marks D hD).1,by have:=(h.marks D hD).2.1;omega,(h.marks D hD).2.2⟩}
theorem rS.grow(h:rS w1 acc v Ds hi W){row:Option Nat}(hg:W.grownBy W' row)(hr:∀r,row=Ai r->w1.heap.size+3<=r/\hi<=r/\(∀o:Obj,W.heap[r]?=Ai o->o.isCells=Bj)):rS w1 acc v Ds hi W' where
 below:=h.below.grown hg (by have:=h.size;omega) (λj e=>by have:=(hr j e).1;omega)
 size:=nT h.size hg.size
 aEV:=h.aEV.grown hg (λe=>by have:=(hr _ e.symm).1;omega)
 VZ:=h.VZ.grown hg (λe=>by have:=(hr _ e.symm).1;omega)
 map:=h.map.kept hg (λe=>by have:=(hr _ e.symm).1;omega)
 own:=h.own.kept hg (by
  rcases h.own.2 with⟨rfl,_⟩ | ⟨g,cap,cur,rfl,_,hh,_⟩
  .exact .inl rfl
  .exact .inr (λe=>by
    have:=(hr g e.symm).2.2 _ hh
    cases this))
 nodup:=h.nodup
 marks:=λD hD=>⟨(h.marks D hD).1,(h.marks D hD).2.1,(hg.block D (gE (h.marks D hD).2.2).1 (λe=>by
  have:=(hr D e.symm).2.1;have:=(h.marks D hD).2.1;omega)).trans (h.marks D hD).2.2⟩
end
theorem rS.mark{w1:Al}{acc:List ByteArray}{v:Bn}{Ds:List Nat}{hi:Nat}{W:Al}{D:Nat}(h:rS w1 acc v Ds hi W)(hs:hi<=W.heap.size)(hw:w1.heap.size+3<=D)(hD:hi<=D)(hK:W.heap[D]?=Ai (.deferred (Ai []))):rS w1 acc v (D :: Ds) W.heap.size W:=
 {h with
  nodup:=List.nodup_cons.2 ⟨λhm=>by have:=(h.marks D hm).2.1;omega,h.nodup⟩
  marks:=λE hE=>by
   rcases BU.1 hE with rfl | hE
   .exact⟨hw,(gE hK).1,hK⟩
   .exact⟨(h.marks E hE).1,by have:=(h.marks E hE).2.1;omega,(h.marks E hE).2.2⟩}
theorem rS.step{w1:Al}{acc:List ByteArray}{v v':Bn}{Ds:List Nat}{hi:Nat}{W wm wo:Al}{u:ByteArray}{o:Obj}(h:rS w1 acc v Ds hi W)
 (hm:aH KS wm (w1.heap.size+1) (acc++ [u])) (hg:W.grownBy wm (Ai (w1.heap.size+1))) (hown1:(wm.alloc o).ownsRow (w1.heap.size+3) 9 1 v acc.length (acc.map GI))
 (hown:wo.ownsRow (w1.heap.size+3) 9 1 v' (acc.length+1) (acc.map GI++ [.string u])) (eG:(wm.alloc o).grownBy wo v.ownBlock):rS w1 (acc++ [u]) v' Ds hi (wo.setCell ⟨w1.heap.size,0,Ag⟩ v'):=by
 have hs1:=hg.size;have Pb:=eG.size;simp at Pb;have hsz:=h.size;have uH:∀g,g<w1.heap.size+3->Ai g≠v.ownBlock:=λg hlt e=>by have:=(hown1.lt g e.symm).1;omega
 have aU:BD w1.heap.size w1 (wm.alloc o):=(h.below.grown hg oz (λj e=>by cases e;omega)).alloc oz _;have dI:BD w1.heap.size w1 wo:=aU.grown eG qo (λg hg=>by have:=(hown1.lt g hg).1;omega);have b9:ah wo w1.heap.size 81 #[v]:=((h.aEV.grown hg qz).alloc o).grown eG (uH _ oz);have b9':=b9.bX 0 v';refine⟨?_,by simp[GK];omega,by simpa using b9',?_,?_,?_,h.nodup,λD hD=> ?_⟩
 .exact dI.setCell nL _
 .exact(((h.VZ.grown hg qz).alloc o).grown eG (uH _ oz)).far qz _
 .exact((hm.alloc o).kept eG (uH _ oz)).setCell qz _
 .have:wo.ownsRow (w1.heap.size+3) 9 1 v' (acc++ [u]).length ((acc++ [u]).map GI):=by simpa using hown
  exact this.kept (uI wo ⟨w1.heap.size,0,Ag⟩ v') (.inr (aW this b9 dz))
 .have hd:=h.marks D hD
  have hlt:=(gE hd.2.2).1;have e1:wm.heap[D]?=Ai (.deferred (Ai [])):=(hg.block D hlt qo).trans hd.2.2;have e2:(wm.alloc o).heap[D]?=Ai (.deferred (Ai [])):=(Below.heap_alloc _ _ _ oz).trans e1;have e3:wo.heap[D]?=Ai (.deferred (Ai [])):=(eG.block D qo (λe=>iQ hown1 e2 rfl e.symm)).trans e2;exact⟨hd.1,hd.2.1,(Hu _ _ _ _ (by show D≠w1.heap.size;omega)).trans e3⟩
structure FA(A:Option EK)(n c g3 g9 g10:Nat)(A2:Option EK)(n2 c2:Nat)(Ds:List Nat)(k:Nat)(a:Act):Prop where
 size:a.tmps.size=49
 s0:a.tmps.getD 0 BA= .slice A n c
 s3:a.tmps.getD 3 BA= .pointer (Ai ⟨g3,0,Ag⟩)
 s9:a.tmps.getD 9 BA= .pointer (Ai ⟨g9,0,Ag⟩)
 s10:a.tmps.getD 10 BA= .pointer (Ai ⟨g10,0,Ag⟩)
 s23:a.tmps.getD 23 BA= .slice A2 n2 c2
 s24:a.tmps.getD 24 BA= .int .i64 n2
 s25:a.tmps.getD 25 BA= .int .i64 k
 defers:a.defers=Ds.map sM
theorem FA.lit{A:Option EK}{n c g3 g9 g10:Nat}{A2:Option EK}{n2 c2:Nat}{Ds:List Nat}{k:Nat}{a:Act}(h:FA A n c g3 g9 g10 A2 n2 c2 Ds k a):∃z:Nat->Bn,a={tmps:=List.toArray [.slice A n c,z 1,z 2,.pointer (Ai ⟨g3,0,Ag⟩),z 4,z 5,z 6,z 7,z 8,.pointer (Ai ⟨g9,0,Ag⟩),.pointer (Ai ⟨g10,0,Ag⟩),z 11,z 12,z 13,z 14,z 15,z 16,z 17,z 18,z 19,z 20,z 21,z 22,.slice A2 n2 c2,.int .i64 n2,.int .i64 k,z 26,z 27,z 28,z 29,z 30,z 31,z 32,z 33,z 34,z 35,z 36,z 37,z 38,z 39,z 40,z 41,z 42,z 43,z 44,z 45,z 46,z 47,z 48],defers:=Ds.map sM}:=by
 obtain⟨T,d⟩:=a;obtain⟨h1,h2,h3,h4,h5,h6,h7,h8,h9⟩:=h;simp only at h1 h2 h3 h4 h5 h6 h7 h8 h9;obtain⟨z,hz,hg⟩:=qy 49 T h1;refine⟨z,?_⟩;rw[<-hg]at h2 h3 h4 h5 h6 h7 h8;rw[h9,hz,<-h2,<-h3,<-h4,<-h5,<-h6,<-h7,<-h8];rfl
theorem iB.at_{w:Al}{B:Nat}{A:Option EK}{l:List ByteArray}(h:iB w B A l){k:Nat}(hk:k<l.length):∃b o,A=Ai ⟨b,o,Ag⟩/\b<B/\w.cell? ⟨b,o+k,Ag⟩=Ai (.string l[k]):=by
 obtain⟨b,o,h1,h2,h3⟩:=h oz;exact⟨b,o,h1,h2,h3 k hk⟩


def jI.cells(r:jI):List Value:= [.string r.unit,.int .i64 r.code]
theorem Dw:∀(l:List jI) (i:Nat) (h:i<l.length),(l.flatMap jI.cells)[i*2]?=Ai (.string l[i].unit)/\(l.flatMap jI.cells)[i*2+1]?=Ai (.int .i64 l[i].code)
 | r :: l,0,_=>⟨rfl,rfl⟩
 | r :: l,i+1,h=>by
  have ih:=Dw l i (by simpa using h);have e:∀j,(List.flatMap jI.cells (r :: l))[j+2]?=(List.flatMap jI.cells l)[j]?:=λj=>by simp[jI.cells]
  rw[show(i+1)*2=i*2+2 from by omega,show i*2+2+1=i*2+1+2 from by omega,e,e];simpa using ih
theorem bO(b o k:Nat):(⟨b,o,Ag⟩:EK).add k=⟨b,o+k,Ag⟩:=by unfold Addr.add;split<;>simp_all
theorem V0{w:Al}{b o:Nat}{l:List ByteArray}(hc:∀i (h:i<l.length),w.cell? ⟨b,o+i,Ag⟩=Ai (.string l[i])):∀j u,(l.map GI)[j]?=Ai u->w.cell? ((⟨b,o,Ag⟩:EK).add j)=Ai u:=by
 intro j u hu;rw[List.getElem?_map,Option.map_eq_some_iff]at hu;obtain⟨s,hs,rfl⟩:=hu;obtain⟨hj,rfl⟩:=List.getElem?_eq_some_iff.1 hs;rw[bO];exact hc j hj
theorem JY{W:Al}{base c:Nat}{A:Option EK}{l:List jI}(h:W.ownsRow base 85 2 (.slice A l.length c) l.length (l.flatMap jI.cells)):jE W W.heap.size A l:=λhn=>by
 obtain⟨g,cap,hv,_,hlt⟩:=h.form hn;have hA:A=Ai ⟨g,0,Ag⟩:=by injection hv
 subst hA;refine⟨g,0,rfl,hlt,λi hi=> ?_⟩;obtain⟨q0,q1⟩:=Dw l i hi;have c0:=h.cells (g:=g) rfl _ _ q0;have c1:=h.cells (g:=g) rfl _ _ q1;rw[eY]at c0 c1;simpa using ai c0 c1
theorem bp{W:Al}{base n:Nat}{e:E3}{size:Nat}{v:Bn}{xs:List Bn}(h:W.ownsRow base e size v n xs):∃A c,v= .slice A n c/\n<=c/\c<=maxLen:=by
 rcases h.2 with⟨rfl,h0⟩ | ⟨g,cap,cur,rfl,_,_,h1,h2,_⟩
 .exact⟨Ag,0,by rw[h0],oz,by simp[EW]⟩
 .exact⟨_,cap,rfl,h1,h2⟩
structure Tok where
 kind:Int
 text:ByteArray
 at_:Int
instance:Inhabited Tok:=⟨⟨0,⟨#[]⟩,0⟩⟩
abbrev Tok.val(t:Tok):Value:= .agg #[.int .i64 t.kind,.string t.text,.int .i64 t.at_]
def Tok.cells(t:Tok):List Value:= [.int .i64 t.kind,.string t.text,.int .i64 t.at_]
theorem aAm:(pG.info? 280).map (λi=>(i.zero,i.size,i.bytes))=Ai (Ai (.agg #[.int .i64 0,.string ⟨#[]⟩,.int .i64 0]),3,32):=by kernel_rfl
theorem Dx:∀(l:List Tok) (i:Nat) (h:i<l.length),(l.flatMap Tok.cells)[i*3]?=Ai (.int .i64 l[i].kind)/\(l.flatMap Tok.cells)[i*3+1]?=Ai (.string l[i].text)/\(l.flatMap Tok.cells)[i*3+2]?=Ai (.int .i64 l[i].at_)
 | r :: l,0,_=>⟨rfl,rfl,rfl⟩
 | r :: l,i+1,h=>by
  have ih:=Dx l i (by simpa using h);have e:∀j,(List.flatMap Tok.cells (r :: l))[j+3]?=(List.flatMap Tok.cells l)[j]?:=λj=>by simp[Tok.cells]
  rw[show(i+1)*3=i*3+3 from by omega,show i*3+3+1=i*3+1+3 from by omega,show i*3+3+2=i*3+2+3 from by omega,e,e,e];simpa using ih
def Ir(w:Al)(B:Nat)(A:Option EK)(l:List Tok):Prop:=
 0<l.length->∃b o,A=Ai ⟨b,o,Ag⟩/\b<B/\∀i (h:i<l.length),w.cell? ⟨b,o+i*3,Ag⟩=Ai (.int .i64 l[i].kind)/\w.cell? ⟨b,o+i*3+1,Ag⟩=Ai (.string l[i].text)/\w.cell? ⟨b,o+i*3+2,Ag⟩=Ai (.int .i64 l[i].at_)
theorem Ir.dn{w w':Al}{B B':Nat}{A:Option EK}{l:List Tok}(h:Ir w B A l)(hB:B<=B')(hk:∀b o,b<B->w'.cell? ⟨b,o,Ag⟩=w.cell? ⟨b,o,Ag⟩):Ir w' B' A l:=λhn=>by
 obtain⟨b,o,rfl,gD,hc⟩:=h hn;exact⟨b,o,rfl,oz,λi hi=>⟨(hk b _ gD).trans (hc i hi).1,(hk b _ gD).trans (hc i hi).2.1,(hk b _ gD).trans (hc i hi).2.2⟩⟩
theorem JZ{W:Al}{base c:Nat}{A:Option EK}{l:List Tok}(h:W.ownsRow base 280 3 (.slice A l.length c) l.length (l.flatMap Tok.cells)):Ir W W.heap.size A l:=λhn=>by
 obtain⟨g,cap,hv,_,hlt⟩:=h.form hn;have hA:A=Ai ⟨g,0,Ag⟩:=by injection hv
 subst hA;refine⟨g,0,rfl,hlt,λi hi=> ?_⟩;obtain⟨q0,q1,q2⟩:=Dx l i hi;have c0:=h.cells (g:=g) rfl _ _ q0;have c1:=h.cells (g:=g) rfl _ _ q1;have c2:=h.cells (g:=g) rfl _ _ q2;rw[eY]at c0 c1 c2;simpa using ai c0 (ai c1 c2)
def dO(s:ByteArray):Nat->Nat->Nat
 | 0,q=>q
 | f+1,q=>if q<s.size then(if mB (fM s q)=BR then dO s f (q+1)else q)else q
theorem wQ{s:ByteArray}{f q:Nat}(h:q<s.size)(hi:mB (fM s q)=BR):dO s (f+1) q=dO s f (q+1):=by
 rw[dO,if_pos h,if_pos hi]
theorem wR{s:ByteArray}{f q:Nat}(hi:mB (fM s q)=Bj):dO s f q=q:=by
 cases f with
 | zero=>rfl
 | succ f=>rw[dO,hi];simp
theorem AB{s:ByteArray}{f q:Nat}(h:¬q<s.size):dO s f q=q:=by
 cases f with
 | zero=>rfl
 | succ f=>rw[dO,if_neg h]
def jG(s:ByteArray):Nat->Nat->List Tok->Option (List Tok)
 | 0,_,_=>Ag
 | f+1,p,out=>
  if p<s.size then
   (if (fM s p==32)=BR then jG s f (p+1) out
    else if ((fM s p==9)||((fM s p==10)||((fM s p==13)||(fM s p==35))))=BR then Ag
    else if wP (fM s p)=BR then jG s f (p+1) (out++ [⟨3,s.extract p (p+1),p⟩])
    else if jO (fM s p)=BR then
     (if MG (s.extract p (dO s s.size (p+1)))=BR then jG s f (dO s s.size (p+1)) (out++ [⟨1,s.extract p (dO s s.size (p+1)),p⟩])else Ag)
    else if lD (fM s p)=BR then
     (if aIJ (s.extract p (dO s s.size (p+1)))=BR then jG s f (dO s s.size (p+1)) (out++ [⟨2,s.extract p (dO s s.size (p+1)),p⟩])else Ag)
    else Ag)
  else Ai out
theorem RN{s:ByteArray}{f p:Nat}{out ts:List Tok}(h:jG s f p out=Ai ts):∃f',f=f'+1:=by
 cases f with
 | zero=>cases h
 | succ f=>exact⟨f,rfl⟩
theorem aAn{s:ByteArray}{f p:Nat}{out ts:List Tok}(h:jG s f p out=Ai ts)(hp:¬p<s.size):out=ts:=by
 obtain⟨f,rfl⟩:=RN h;rw[jG,if_neg hp]at h;exact ES.inj h
theorem Tt{s:ByteArray}{f p:Nat}{out ts:List Tok}(h:jG s (f+1) p out=Ai ts)(hp:p<s.size)(hb:(fM s p==32)=BR):jG s f (p+1) out=Ai ts:=by
 rw[jG,if_pos hp,if_pos hb]at h;exact h
theorem Iu{s:ByteArray}{f p:Nat}{out ts:List Tok}(h:jG s (f+1) p out=Ai ts)(hp:p<s.size)(hb:(fM s p==32)=Bj):(fM s p==9)=Bj/\(fM s p==10)=Bj/\(fM s p==13)=Bj/\(fM s p==35)=false:=by
 rw[jG,if_pos hp,if_neg (by rw[hb];simp)]at h
 cases h1:(fM s p==9)<;>cases h2:(fM s p==10)<;>cases h3:(fM s p==13)<;>cases h4:(fM s p==35)<;>simp[h1,h2,h3,h4]at h⊢
theorem Dy{s:ByteArray}{f p:Nat}{out ts:List Tok}(h:jG s (f+1) p out=Ai ts)(hp:p<s.size)(hb:(fM s p==32)=Bj):
 (if wP (fM s p)=BR then jG s f (p+1) (out++ [⟨3,s.extract p (p+1),p⟩])
  else if jO (fM s p)=BR then
   (if MG (s.extract p (dO s s.size (p+1)))=BR then jG s f (dO s s.size (p+1)) (out++ [⟨1,s.extract p (dO s s.size (p+1)),p⟩])else Ag)
  else if lD (fM s p)=BR then
   (if aIJ (s.extract p (dO s s.size (p+1)))=BR then jG s f (dO s s.size (p+1)) (out++ [⟨2,s.extract p (dO s s.size (p+1)),p⟩])else Ag)
  else Ag)=Ai ts:=by
 obtain⟨h1,h2,h3,h4⟩:=Iu h hp hb;rw[jG,if_pos hp,if_neg (by rw[hb];simp),h1,h2,h3,h4]at h;simpa using h
theorem V2{s:ByteArray}{f p:Nat}{out ts:List Tok}(h:jG s (f+1) p out=Ai ts)(hp:p<s.size)(hb:(fM s p==32)=Bj)(hs:wP (fM s p)=BR):jG s f (p+1) (out++ [⟨3,s.extract p (p+1),p⟩])=Ai ts:=by
 have:=Dy h hp hb
 rwa[if_pos hs]at this
theorem V4{s:ByteArray}{f p:Nat}{out ts:List Tok}(h:jG s (f+1) p out=Ai ts)(hp:p<s.size)(hb:(fM s p==32)=Bj)(hs:wP (fM s p)=Bj)(hl:jO (fM s p)=BR):
 MG (s.extract p (dO s s.size (p+1)))=BR/\jG s f (dO s s.size (p+1)) (out++ [⟨1,s.extract p (dO s s.size (p+1)),p⟩])=Ai ts:=by
 have:=Dy h hp hb;rw[if_neg (by rw[hs];simp),if_pos hl]at this;split at this
 .exact⟨by assumption,this⟩
 .cases this
theorem aAo{s:ByteArray}{f p:Nat}{out ts:List Tok}(h:jG s (f+1) p out=Ai ts)(hp:p<s.size)(hb:(fM s p==32)=Bj)(hs:wP (fM s p)=Bj)(hl:jO (fM s p)=Bj):
 lD (fM s p)=BR/\(∃n,VU (s.extract p (dO s s.size (p+1))) n=BR)/\jG s f (dO s s.size (p+1)) (out++ [⟨2,s.extract p (dO s s.size (p+1)),p⟩])=Ai ts:=by
 have:=Dy h hp hb;rw[if_neg (by rw[hs];simp),if_neg (by rw[hl];simp)]at this;split at this
 .split at this
  .rename_i h1 h2
   obtain⟨n,hn⟩:=Option.isSome_iff_exists.1 h2;exact⟨h1,⟨n,dT hn⟩,this⟩
  .cases this
 .cases this
