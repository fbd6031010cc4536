import Derived.Test.YtchfcgilpjkmhaaGreatDoorY5
import Derived.Test.YtchfcgilpjkmhaaGreatDoorY0
import Derived.Test.YtchfcgilpjkmhaaGreatDoorY1
set_option maxRecDepth 100000
set_option linter.unusedSimpArgs false
set_option linter.unusedVariables false
set_option linter.unusedSectionVars false
namespace Go.Proofs.YtchfcgilpjkmhaaGreatDoor
open Go.ChangeShapes Go.WideShapes Go.ChangeAt Go.RowKit
attribute [local go_sem] Oper.semAt_some
open Go.Act renaming put → zP
open List renaming setIfInBounds_toArray → zA, set_cons_zero → zB, set_cons_succ → zC
theorem info42:(Tryz.prog.info? 66).map (fun i=>(i.zero,i.size,i.bytes))=some (some (.agg #[.string ⟨#[]⟩,.int .i64 0,.slice none 0 0]),3,48):=by kernel_rfl
theorem step_append_own{P:Program}{ops:Array Oper}{o:Oper}{a:Act}{w:World}{K:Act→World→Prop}{Q:Exit→Act→World→Prop}{E:Prop}
 (hg:o.guard=none) (s x:Operand) (t:TypeId) (hop:o.op=Op.call {callee:=Callee.builtin Builtin.append,args:= #[s,x],argTypes:= #[t,t]})
 (base:Nat) (e:TypeId) (i:TypeInfo) (z:Value) (size bytes:Nat) (h1:P.underlying t=some (.slice e)) (h2:P.info? e=some i) (h3:i.zero=some z) (h4:i.size=size) (h5:i.bytes=bytes) (h6:z.cells.size=size) (h7:0<size)
 (v:Value) (k:Nat) (xs:List Value) (hs:a.eval s=v) (hown:w.ownsRow base e size v k xs) (ad:Addr) (m c:Nat) (news:List Value) (hx:a.eval x= .slice (some ad) m c) (hn:news.length=m*size)
 (hc:∀j u,news[j]?=some u→w.cell? (ad.add j)=some u) (h1c:∀u∈news,u.oneCell'=true) (b1:k+m≤maxLen) (b2:(k+m)*bytes≤140737488355328) (b3:base≤w.heap.size)
 (hK:∀v' w',w'.ownsRow base e size v' (k+m) (xs++news)→w.grownBy w' v.ownBlock→K (a.put o.dst v') w'):
 if Region.wanted o (yielded ops a.tmps)=true then Oper.wp P o a w K Q else E:=by
 have hw:Region.wanted o (yielded ops a.tmps)=true:=by simp[Region.wanted,hg]
 rw[if_pos hw];obtain⟨v',w',hrun,r1,r2,r3⟩:=run_append_own (P:=P) w base t o.type e i z size bytes h1 h2 h3 h4 h5 h6 h7 v k xs hown ad m c news hn hc h1c b1 b2 b3;unfold Oper.wp;simp[execOp,hop,resolve,invoke,builtin,hs,hx,hrun,Result.andThen];exact hK v' w' r1 r2
theorem find_first{α:Type}{l pre:List α}{y:α}{p:α→Bool}(h:pre++ [y] <+: l)(h1:∀z∈pre,p z=false)(h2:p y=true):l.find? p=some y:=by
 obtain⟨t,rfl⟩:=h;rw[List.find?_append,List.find?_append,List.find?_eq_none.2 (fun z hz=>by rw[h1 z hz];simp)];simp[h2]
structure Ver where
 unit:ByteArray
 cause:Nat
 reps:List Rep
structure VerV where
 d:Ver
 s:SlV
abbrev VerV.val(x:VerV):Value:= .agg #[.string x.d.unit,.int .i64 x.d.cause,.slice x.s.a x.s.n x.s.c]
def VerV.cells(x:VerV):List Value:= [.string x.d.unit,.int .i64 x.d.cause,.slice x.s.a x.s.n x.s.c]
def RdVer(w:World)(B:Nat)(A:Option Addr)(l:List VerV):Prop:=
 0<l.length→∃b o,A=some ⟨b,o,none⟩∧b<B∧∀i (h:i<l.length),w.cell? ⟨b,o+i*3,none⟩=some (.string l[i].d.unit)∧w.cell? ⟨b,o+i*3+1,none⟩=some (.int .i64 l[i].d.cause)∧w.cell? ⟨b,o+i*3+2,none⟩=some (.slice l[i].s.a l[i].s.n l[i].s.c)∧
  l[i].s.n=l[i].d.reps.length∧RdRep w B l[i].s.a l[i].d.reps
theorem cellsV_get:∀(l:List VerV) (i:Nat) (h:i<l.length),(l.flatMap VerV.cells)[i*3]?=some (.string l[i].d.unit)∧(l.flatMap VerV.cells)[i*3+1]?=some (.int .i64 l[i].d.cause)∧(l.flatMap VerV.cells)[i*3+2]?=some (.slice l[i].s.a l[i].s.n l[i].s.c)
 | r :: l,0,_=>⟨rfl,rfl,rfl⟩
 | r :: l,i+1,h=>by
  have ih:=cellsV_get l i (by simpa using h);have e:∀j,(List.flatMap VerV.cells (r :: l))[j+3]?=(List.flatMap VerV.cells l)[j]?:=fun j=>by simp[VerV.cells]
  rw[show(i+1)*3=i*3+3 from by omega,show i*3+3+1=i*3+1+3 from by omega,show i*3+3+2=i*3+2+3 from by omega,e,e,e];simpa using ih
def verOf(L:List CsV)(reps:List Rep)(us:List ByteArray)(u:ByteArray):List Ver:=match (upTo L u L.length).find? (fun y=>holdB reps us y.x.c)with
 | some y=> [⟨u,y.i,y.x.c.needs⟩]
 | none=> []
def verL(L:List CsV)(reps:List Rep)(us l:List ByteArray):List Ver:=l.flatMap (verOf L reps us)
theorem verL_snoc(L:List CsV)(reps:List Rep)(us l:List ByteArray)(u:ByteArray):verL L reps us (l++ [u])=verL L reps us l++verOf L reps us u:=by simp[verL]
theorem verL_len(L:List CsV)(reps:List Rep)(us:List ByteArray):∀l:List ByteArray,(verL L reps us l).length≤l.length
 | []=>by simp[verL]
 | u :: l=>by
  have ih:=verL_len L reps us l;have e:verL L reps us (u :: l)=verOf L reps us u++verL L reps us l:=by simp[verL]
  have h1:(verOf L reps us u).length≤1:=by unfold verOf;split<;>simp
  rw[e,List.length_append,List.length_cons];omega
theorem own_apart{w:World}{b1 b2 e1 e2 s1 s2 n1 n2:Nat}{v1 v2:Value}{x1 x2:List Value}(h1:w.ownsRow b1 e1 s1 v1 n1 x1)(h2:w.ownsRow b2 e2 s2 v2 n2 x2)(hne:e1≠e2):v1.ownBlock=none∨v1.ownBlock≠v2.ownBlock:=by
 rcases h1.2 with⟨rfl,_⟩ | ⟨g,cap,cur,rfl,_,hh,_⟩
 ·exact .inl rfl
 ·refine .inr fun e=> ?_
  exact own_blk_ne h2 (show Blk w g e1 cur from hh) (Ne.symm hne) e.symm
structure VerSt(w2:World)(vs:List VerV)(v:Value)(Ds:List Nat)(hi:Nat)(W:World):Prop where
 below:Below w2.heap.size w2 W
 size:w2.heap.size+1≤W.heap.size
 box:Blk W w2.heap.size 58 #[v]
 own:W.ownsRow (w2.heap.size+1) 66 3 v vs.length (vs.flatMap VerV.cells)
 subs:∀x∈vs,W.ownsRow (w2.heap.size+1) 41 2 (.slice x.s.a x.s.n x.s.c) x.d.reps.length (x.d.reps.flatMap Rep.cells)
 len:∀x∈vs,x.s.n=x.d.reps.length
 nodup:Ds.Nodup
 marks:∀D∈Ds,w2.heap.size+1≤D∧D<hi∧W.heap[D]?=some (.deferred (some []))
theorem own_base{w:World}{b b' e s n:Nat}{v:Value}{xs:List Value}(h:w.ownsRow b e s v n xs)(hb:b'≤b):w.ownsRow b' e s v n xs:=by
 refine⟨h.1,?_⟩;rcases h.2 with h2 | ⟨g,cap,cur,h1,h2,h3⟩
 ·exact .inl h2
 ·exact .inr ⟨g,cap,cur,h1,Nat.le_trans hb h2,h3⟩
theorem own_keep{w w':World}{row:Option Nat}{b e s n:Nat}{v:Value}{xs:List Value}(h:w.ownsRow b e s v n xs)(hg:w.grownBy w' row)(hr:∀r,row=some r→∀o:Obj,w.heap[r]?=some o→o.isCells=false):w'.ownsRow b e s v n xs:=
 h.kept hg (by
  rcases h.2 with⟨rfl,_⟩ | ⟨g,cap,cur,rfl,_,hh,_⟩
  ·exact .inl rfl
  ·exact .inr (fun e=>by
    have:=hr g e.symm _ hh
    cases this))
section
variable {w2:World} {vs:List VerV} {v:Value} {Ds:List Nat} {hi:Nat} {W W':World}
theorem VerSt.more(h:VerSt w2 vs v Ds hi W){hi':Nat}(hh:hi≤hi'):VerSt w2 vs v Ds hi' W:=
 {h with marks:=fun D hD=>⟨(h.marks D hD).1,by have:=(h.marks D hD).2.1;omega,(h.marks D hD).2.2⟩}
theorem VerSt.grow(h:VerSt w2 vs v Ds hi W){row:Option Nat}(hg:W.grownBy W' row)(hr:∀r,row=some r→w2.heap.size+1≤r∧hi≤r∧(∀o:Obj,W.heap[r]?=some o→o.isCells=false)):VerSt w2 vs v Ds hi W' where
 below:=h.below.grown hg (by have:=h.size;omega) (fun j e=>by have:=(hr j e).1;omega)
 size:=Nat.le_trans h.size hg.size
 box:=h.box.grown hg (fun e=>by have:=(hr _ e.symm).1;omega)
 own:=own_keep h.own hg (fun r e=>(hr r e).2.2)
 subs:=fun x hx=>own_keep (h.subs x hx) hg (fun r e=>(hr r e).2.2)
 len:=h.len
 nodup:=h.nodup
 marks:=fun D hD=>⟨(h.marks D hD).1,(h.marks D hD).2.1,(hg.block D (Array.getElem?_eq_some_iff.1 (h.marks D hD).2.2).1 (fun e=>by
  have:=(hr D e.symm).2.1;have:=(h.marks D hD).2.1;omega)).trans (h.marks D hD).2.2⟩
theorem VerSt.mark{D:Nat}(h:VerSt w2 vs v Ds hi W)(hs:hi≤W.heap.size)(hw:w2.heap.size+1≤D)(hD:hi≤D)(hK:W.heap[D]?=some (.deferred (some []))):VerSt w2 vs v (D :: Ds) W.heap.size W:=
 {h with
  nodup:=List.nodup_cons.2 ⟨fun hm=>by have:=(h.marks D hm).2.1;omega,h.nodup⟩
  marks:=fun E hE=>by
   rcases List.mem_cons.1 hE with rfl | hE
   ·exact⟨hw,(Array.getElem?_eq_some_iff.1 hK).1,hK⟩
   ·exact⟨(h.marks E hE).1,by have:=(h.marks E hE).2.1;omega,(h.marks E hE).2.2⟩}
theorem VerSt.step{Wc wo:World}{v':Value}{x:VerV}{o:Obj}(h:VerSt w2 vs v Ds hi Wc)(hsub:Wc.ownsRow (w2.heap.size+1) 41 2 (.slice x.s.a x.s.n x.s.c) x.d.reps.length (x.d.reps.flatMap Rep.cells))(hlen:x.s.n=x.d.reps.length)
 (hown:wo.ownsRow (w2.heap.size+1) 66 3 v' (vs.length+1) (vs.flatMap VerV.cells++x.cells)) (hg2:(Wc.alloc o).grownBy wo v.ownBlock):VerSt w2 (vs++ [x]) v' Ds hi (wo.setCell ⟨w2.heap.size,0,none⟩ v'):=by
 have hs2:=hg2.size;simp at hs2;have hsz:=h.size;have hown1:=h.own.alloc o;have hnb:∀g,g<w2.heap.size+1→some g≠v.ownBlock:=fun g hlt e=>by have:=(hown1.lt g e.symm).1;omega
 have hb1:Below w2.heap.size w2 (Wc.alloc o):=h.below.alloc (by omega) _;have hb2:Below w2.heap.size w2 wo:=hb1.grown hg2 (by simp;omega) (fun g hg=>by have:=(hown1.lt g hg).1;omega);have b9:Blk wo w2.heap.size 58 #[v]:=(h.box.alloc o).grown hg2 (hnb _ (by omega));have b9':=b9.set_ 0 v';have hset:wo.grownBy (wo.setCell ⟨w2.heap.size,0,none⟩ v') (some w2.heap.size):=grown_setCell wo ⟨w2.heap.size,0,none⟩ v';refine⟨hb2.setCell (Nat.le_refl _) _,by simp[World.setCell];omega,by simpa using b9',?_,fun y hy=> ?_,fun y hy=> ?_,h.nodup,fun D hD=> ?_⟩
 ·have:wo.ownsRow (w2.heap.size+1) 66 3 v' (vs++ [x]).length ((vs++ [x]).flatMap VerV.cells):=by simpa using hown
  exact this.kept hset (.inr (own_blk_ne this b9 (by decide)))
 ·have hy1:Wc.ownsRow (w2.heap.size+1) 41 2 (.slice y.s.a y.s.n y.s.c) y.d.reps.length (y.d.reps.flatMap Rep.cells):=by
   rcases List.mem_append.1 hy with hy | hy
   ·exact h.subs y hy
   ·simp at hy;subst hy;exact hsub
  have hy2:=(hy1.alloc o).kept hg2 (own_apart (hy1.alloc o) hown1 (by decide));exact hy2.kept hset (.inr (own_blk_ne hy2 b9 (by decide)))
 ·rcases List.mem_append.1 hy with hy | hy
  ·exact h.len y hy
  ·simp at hy;subst hy;exact hlen
 ·have hd:=h.marks D hD
  have hlt:=(Array.getElem?_eq_some_iff.1 hd.2.2).1;have e2:(Wc.alloc o).heap[D]?=some (.deferred (some [])):=(Below.heap_alloc _ _ _ (by omega)).trans hd.2.2;have e3:wo.heap[D]?=some (.deferred (some [])):=(hg2.block D (by simp;omega) (fun e=>own_blk_def hown1 e2 rfl e.symm)).trans e2;exact⟨hd.1,hd.2.1,(Below.heap_setCell _ _ _ _ (by show D≠w2.heap.size;omega)).trans e3⟩
theorem VerSt.rd{A:Option Addr}{c:Nat}(h:VerSt w2 vs (.slice A vs.length c) Ds hi W){B:Nat}(hsh:Shut B W W'):RdVer W' W'.heap.size A vs:=fun hn=>by
 obtain⟨g,cap,hv,_,hlt⟩:=h.own.form hn;have hA:A=some ⟨g,0,none⟩:=by injection hv
 subst hA;have hcl:∀b i (u:Value),W.cell? ⟨b,i,none⟩=some u→W'.cell? ⟨b,i,none⟩=some u:=fun b i u hc=>by
  obtain⟨ob,ho,hcl⟩:=cells_of_cell hc;exact(World.cell?_of_block ((hsh.cells _ _ ho hcl).trans ho.symm)).trans hc
 refine⟨g,0,rfl,Nat.lt_of_lt_of_le hlt hsh.size,fun i hi=> ?_⟩;obtain⟨q0,q1,q2⟩:=cellsV_get vs i hi;have c0:=h.own.cells (g:=g) rfl _ _ q0;have c1:=h.own.cells (g:=g) rfl _ _ q1;have c2:=h.own.cells (g:=g) rfl _ _ q2;rw[add_none]at c0 c1 c2;have hm:=List.getElem_mem hi;refine⟨by simpa using hcl _ _ _ c0,by simpa using hcl _ _ _ c1,by simpa using hcl _ _ _ c2,h.len _ hm,fun hp=> ?_⟩;have hs:=h.subs _ hm;rw[h.len _ hm]at hs;obtain⟨b,o,e,hb,hc⟩:=rdRep_of_own hs hp;exact⟨b,o,e,Nat.lt_of_lt_of_le hb hsh.size,fun j hj=>⟨hcl _ _ _ (hc j hj).1,hcl _ _ _ (hc j hj).2⟩⟩
end
theorem accused2_c(L:List CsV)(reps:List Rep)(b:Nat)(A:Option Addr)(c:Nat)(w:World)(h:RdCs w w.heap.size A L)(ok:∀x∈L,OkC x.c)(hl:L.length≤100000)(hm:CntMap KR w b reps):
 Calls Tryz.prog 38 #[.slice A L.length c,.map (some b)] w fun e w'=>∃A' c' mv acc,e= .returned (.tuple #[.slice A' acc.length c',.map mv,.int .i64 (if okV (csOf L)=true then 0 else 400)])∧RdStr w' w'.heap.size A' acc∧Below w.heap.size w w'∧acc=(if okV (csOf L)=true then accV (csOf L) reps else[])∧
  (acc≠ []→∃b',mv=some b'∧CntMap KS w' b' acc):=by
 refine(accused_c L reps b A c w h ok hl hm).mono ?_;rintro e w' ⟨hb,he⟩
 cases hk:okV (csOf L)with
 | true=>
  rw[hk]at he;simp only[if_true]at he ⊢;obtain⟨A',c',b',rfl,h1,h2⟩:=he;exact⟨A',c',some b',_,rfl,h1,hb,rfl,fun _=>⟨b',rfl,h2⟩⟩
 | false=>
  rw[hk]at he;simp only[Bool.false_eq_true,if_false]at he ⊢;subst he;exact⟨none,0,none,[],rfl,RdStr.nil,hb,rfl,fun h=>absurd rfl h⟩
def verV(L:List CsV)(reps:List Rep):List Ver:=if okV (csOf L)=true then verL L reps (accV (csOf L) reps) (accV (csOf L) reps)else[]
structure FV(A:Option Addr)(n c g6 g8:Nat)(cd:Int)(g10:Nat)(A2:Option Addr)(n2 c2:Nat)(Ds:List Nat)(k:Nat)(a:Act):Prop where
 size:a.tmps.size=51
 s0:a.tmps.getD 0 undef= .slice A n c
 s6:a.tmps.getD 6 undef= .pointer (some ⟨g6,0,none⟩)
 s8:a.tmps.getD 8 undef= .pointer (some ⟨g8,0,none⟩)
 s9:a.tmps.getD 9 undef= .int .i64 cd
 s10:a.tmps.getD 10 undef= .pointer (some ⟨g10,0,none⟩)
 s24:a.tmps.getD 24 undef= .slice A2 n2 c2
 s25:a.tmps.getD 25 undef= .int .i64 n2
 s26:a.tmps.getD 26 undef= .int .i64 k
 defers:a.defers=Ds.map markD
theorem FV.lit{A:Option Addr}{n c g6 g8:Nat}{cd:Int}{g10:Nat}{A2:Option Addr}{n2 c2:Nat}{Ds:List Nat}{k:Nat}{a:Act}(h:FV A n c g6 g8 cd g10 A2 n2 c2 Ds k a):∃z:Nat→Value,a={tmps:=List.toArray [.slice A n c,z 1,z 2,z 3,z 4,z 5,.pointer (some ⟨g6,0,none⟩),z 7,.pointer (some ⟨g8,0,none⟩),.int .i64 cd,.pointer (some ⟨g10,0,none⟩),z 11,z 12,z 13,z 14,z 15,z 16,z 17,z 18,z 19,z 20,z 21,z 22,z 23,.slice A2 n2 c2,.int .i64 n2,.int .i64 k,z 27,z 28,z 29,z 30,z 31,z 32,z 33,z 34,z 35,z 36,z 37,z 38,z 39,z 40,z 41,z 42,z 43,z 44,z 45,z 46,z 47,z 48,z 49,z 50],defers:=Ds.map markD}:=by
 obtain⟨T,d⟩:=a;obtain⟨h1,h2,h3,h4,h5,h6,h7,h8,h9,h10⟩:=h;simp only at h1 h2 h3 h4 h5 h6 h7 h8 h9 h10;obtain⟨z,hz,hg⟩:=frame_of 51 T h1;refine⟨z,?_⟩;rw[←hg]at h2 h3 h4 h5 h6 h7 h8 h9;rw[h10,hz,←h2,←h3,←h4,←h5,←h6,←h7,←h8,←h9];rfl
set_option maxHeartbeats 4000000 in
theorem Verdicts_c(L:List CsV)(reps:List Rep)(A:Option Addr)(c:Nat)(A1:Option Addr)(c1:Nat)(w:World)(h:RdCs w w.heap.size A L)(ok:∀x∈L,OkC x.c)(hl:L.length≤100000)(hn:∀x∈L,x.c.needs.length≤1000)
 (hr:RdRep w w.heap.size A1 reps) (okr:∀r∈reps,r.ok) (hl2:reps.length<maxLen):
 Calls Tryz.prog 15 #[.slice A L.length c,.slice A1 reps.length c1] w fun e w'=>∃A' c' vs,e= .returned (.tuple #[.slice A' vs.length c',.int .i64 (if okV (csOf L)=true then 0 else 400)])∧RdVer w' w'.heap.size A' vs∧vs.map VerV.d=verV L reps∧Below w.heap.size w w':=by
 have hof:=of_c reps A1 c1 w hr okr hl2;obtain⟨cd,hcd⟩:∃cd:Int,cd=if okV (csOf L)=true then 0 else 400:=⟨_,rfl⟩;obtain⟨acc,hacc⟩:∃acc,acc=if okV (csOf L)=true then accV (csOf L) reps else[]:=⟨_,rfl⟩;have hvv:verV L reps=verL L reps acc acc:=by
  unfold verV;rw[hacc];split<;>simp[verL]
 have hau:∀x∈acc,x.size≤maxLen:=fun x hx=>by
  rw[hacc]at hx;split at hx
  ·have h1:=acc_sub (csOf L) reps x hx
   rw[mem_units]at h1;obtain⟨c,hc,rfl⟩:=h1;obtain⟨y,hy,rfl⟩:=List.mem_map.1 hc;exact(ok y hy).u
  ·cases hx
 have hal:acc.length≤100000:=by
  rw[hacc];split
  ·have:=accL_len (csOf L) reps (orderV (csOf L)) []
   have h2:=order_len (csOf L);have h3:=len_units (csOf L);simp at this h3;unfold accV;omega
  ·simp
 have hac:=fun w1 b (hh:RdCs w1 w1.heap.size A L) (hm:CntMap KR w1 b reps)=>accused2_c L reps b A c w1 hh ok hl hm
 rw[←hcd]at hac ⊢;rw[←hacc]at hac;have H:=lz h;have Hok:=lz ok;have Hn:=lz hn;have Hof:=lz hof;have Hvv:=lz hvv;have Hau:=lz hau;have Hac:=lz hac;clear h ok hn hr okr hof hvv hau hac hcd hacc;refine(callsIn_wide (n:=9)).1 ?_;refine callsIn_of_wp_marks Tryz.func15 rfl trivial ?_ rfl;simp only[Tryz.ntmps15,List.size_toArray,List.length_cons,List.length_nil,Nat.reduceAdd,Nat.reduceSub,Array.replicate_succ,Array.replicate_zero,List.push_toArray,List.append_toArray,List.nil_append,List.cons_append];refine wpIn_wide.2 ?_;go_wp2_with fail;refine Hof.out.mono ?_;rintro e w1 ⟨rfl,hm1,hb1⟩;have hsz1:=hb1.size;have hm2:=hm1.alloc (.cells #[.map (some w.heap.size)] 101);have Hb6:=lz (Blk.new w1 101 #[.map (some w.heap.size)]);have hb2:=hb1.alloc hb1.size (.cells #[.map (some w.heap.size)] 101);have Hac2:=lz (Hac.out (w1.alloc (.cells #[.map (some w.heap.size)] 101)) w.heap.size ((H.out.keep hb2).more hb2.size) hm2);have Hm2:=lz hm2;have Hb2:=lz hb2;clear hm1 hb1 hm2 hb2 Hac Hof;go_wp2_with fail;refine Hac2.out.mono ?_;rintro e w2a ⟨A2,c2,mv,acc2,rfl,hrd,hb3,hae,hmv⟩;subst hae;generalize acc2=acc at *;obtain⟨w2,hw2⟩:∃w2,w2=w2a.alloc (.cells #[.map mv] 113):=⟨_,rfl⟩;have hz2:w2.heap.size=w2a.heap.size+1:=by rw[hw2];simp
 have hs3:=hb3.size;simp at hs3;have hb4:Below (w1.alloc (.cells #[.map (some w.heap.size)] 101)).heap.size (w1.alloc (.cells #[.map (some w.heap.size)] 101)) w2:=by rw[hw2];exact hb3.alloc hb3.size _
 have hB2:Below w.heap.size w w2:=Hb2.out.trans (hb4.mono Hb2.out.size);have hM2:CntMap KR w2 w.heap.size reps:=Hm2.out.next hb4
 have h6:Blk w2 w1.heap.size 101 #[.map (some w.heap.size)]:=Hb6.out.below hb4 (by simp);have h8:Blk w2 w2a.heap.size 113 #[.map mv]:=by rw[hw2];exact Blk.new w2a _ _
 have hrd2:RdStr w2 w2.heap.size A2 acc:=by rw[hw2];exact hrd.below ((Below.refl _ w2a).alloc (Nat.le_refl _) _)
 have hmv2:acc≠ []→∃b',mv=some b'∧b'<w2.heap.size∧CntMap KS w2 b' acc:=fun hne=>by
  obtain⟨b',h1,h2⟩:=hmv hne;refine⟨b',h1,by have:=h2.lt;omega,?_⟩;rw[hw2];exact h2.alloc _
 have hst:VerSt w2 [] (.slice none 0 0) [] w2.heap.size (w2.alloc (.cells #[.slice none 0 0] 58)):=
  ⟨(Below.refl _ w2).alloc (Nat.le_refl _) _,by simp,Blk.new w2 _ _,World.ownsRow_nil _ _ _ _,fun x h=>absurd h (by simp),fun x h=>absurd h (by simp),List.nodup_nil,fun D h=>absurd h (by simp)⟩
 have HB2:=lz hB2;have HM2:=lz hM2;have H6:=lz h6;have H8:=lz h8;have Hrd:=lz hrd2;have Hmv:=lz hmv2;have Hst:=lz hst;have hlt0:=HM2.out.lt;clear hb4 hB2 hM2 h6 h8 hrd2 hmv2 hst Hac2 hrd hb3 hmv Hm2 Hb6 Hb2;go_wp2_with fail;rw[←hw2];refine wp_loop (fun a wr=>∃(k:Nat) (vs:List VerV) (v:Value) (Ds:List Nat),k≤acc.length∧vs.map VerV.d=verL L reps acc (acc.take k)∧VerSt w2 vs v Ds wr.heap.size wr∧FV A L.length c w1.heap.size w2a.heap.size cd (w2a.heap.size+1) A2 acc.length c2 Ds k a) (fun a _=>acc.length-(intOf (a.tmps.getD 26 undef)).toNat) ?h0 ?round
 case h0=>exact⟨0,[],_,[],Nat.zero_le _,rfl,Hst.out.more (by simp),⟨rfl,rfl,rfl,rfl,rfl,rfl,rfl,rfl,rfl,rfl⟩⟩
 case round=>
  clear Hst hw2;rintro a w3 ⟨k,vs,v,Ds,hk,hvs,hS,hF⟩;obtain⟨z,rfl⟩:=hF.lit;clear hF;by_cases hlt:k<acc.length
  ·obtain⟨bo,oo,rfl,hbo,hco⟩:=(Hrd.out.keep hS.below).at_ hlt
   have hne:acc≠ []:=fun e=>by rw[e]at hlt;simp at hlt
   obtain⟨b',rfl,hbl,hm'⟩:=Hmv.out hne;have hu:acc[k].size≤maxLen:=Hau.out _ (List.getElem_mem hlt);have htk:acc.take (k+1)=acc.take k++ [acc[k]]:=List.take_succ_eq_append_getElem hlt;have hbw:bo<w3.heap.size:=World.block_lt_of_cell? w3 _ hco;have hnx:=verL_snoc L reps acc (acc.take k) acc[k];rw[←htk,←hvs]at hnx;have Hnx:=lz hnx;have hvl:vs.length≤100000:=by
    have h1:=verL_len L reps acc (acc.take k);have h2:=congrArg List.length hvs;simp at h1 h2;omega
   have HM':=lz hm';have HS:=lz hS;have hsz3:=hS.size;clear htk hnx hS hvs hm' hne;generalize acc[k]=u at *;go_wp2_with fail;refine(all_c _ _ _ _ _).mono ?_;rintro e w4 ⟨rfl,hw4⟩;have hB4:Below w3.heap.size w3 w4:=by rw[hw4];exact(((Below.refl _ w3).alloc (Nat.le_refl _) _).alloc (by simp) _).alloc (by simp;omega) _
   have hz4:w4.heap.size=w3.heap.size+3:=by rw[hw4];simp
   have hb12:Blk w4 w3.heap.size 9 #[.string u]:=by rw[hw4];exact((Blk.new w3 _ _).alloc _).alloc _
   have hbl:Blk w4 (w3.heap.size+1) 97 #[.slice A L.length c]:=by
    rw[hw4];have:=Blk.new (w3.alloc (.cells #[.string u] 9)) 97 #[.slice A L.length c];rw[World.size_alloc]at this;exact this.alloc _
   have hbu:Blk w4 (w3.heap.size+2) 9 #[.string u]:=by
    rw[hw4];have:=Blk.new ((w3.alloc (.cells #[.string u] 9)).alloc (.cells #[.slice A L.length c] 97)) 9 #[.string u];rw[World.size_alloc,World.size_alloc]at this;exact this
   have hS4:VerSt w2 vs v Ds w4.heap.size w4:=(HS.out.grow (below_grown (row:=none) hB4) (fun r e=>by cases e)).more (by omega);have hwb:=(HB2.out.trans (hS4.below.mono HB2.out.size));have HL4:=lz (H.out.keep hwb);have HS4:=lz hS4;have H12:=lz hb12;have Hbl:=lz hbl;have Hbu:=lz hbu;have Hz4:=lz hz4;have hs22:=HB2.out.size;clear hw4 hB4 hb12 hbl hbu hS4 hwb hz4 HS hco;go_wp2_with fail;have hz4:=Hz4.out;refine(wpIn_wide (n:=9)).1 ?_;refine wpIn_rangeFunc_ownH (F:=Fence.wide) rfl (by omega) (gf:=111) (lb:= #[.pointer (some ⟨w3.heap.size+1,0,none⟩),.pointer (some ⟨w3.heap.size+2,0,none⟩)]) rfl trivial (enters_of Tryz.func111 kz rfl)
    (encs:=Hit.enc (L:=L) (u:=u)) (all1_seq L u A c w.heap.size (w3.heap.size+1) (w3.heap.size+2) (9-1) w4 (by omega) (by omega) (by omega) (by omega) Hbl.out Hbu.out HL4.out (by omega))
    (fun h1 h2=>h1.trans h2) (KpA.put (by omega) (by omega) (by omega)) (Below.refl _ _) (fun _=>rfl)
    (fun pre W=>Below w4.heap.size w4 W∧∀y∈pre,holdB reps acc y.x.c=false)
    (fun cd pre W=>cd=Code.exit 2∧∃v' x,VerSt w2 (vs++ [x]) v' Ds w4.heap.size W∧∃p y,pre=p++ [y]∧(∀z∈p,holdB reps acc z.x.c=false)∧holdB reps acc y.x.c=true∧x.d=(⟨u,y.i,y.x.c.needs⟩:Ver))
    (fun _ X Y row hs hg hr=>⟨hs.1.grown hg hs.1.size (fun j e=>(hr j e).1),hs.2⟩)
    (fun _ _ X Y row hs hg hr=>by
     obtain⟨h1,v',x,h2,h3⟩:=hs;exact⟨h1,v',x,h2.grow hg (fun r e=>by obtain⟨q1,o,q2,q3⟩:=hr r e;have:=HS4.out.size;exact⟨by omega,q1,fun o' ho'=>by rw[q2]at ho';cases ho';exact q3⟩),h3⟩)
    ⟨Below.refl _ _,fun y h=>absurd h (by simp)⟩
    (fun y a' W=>∃Bx,w4.heap.size≤Bx∧Blk W Bx 48 #[.string y.x.c.unit,.slice y.x.n.a y.x.n.n y.x.n.c,.slice y.x.x.a y.x.x.n y.x.x.c]∧a'={tmps:=((((List.toArray [.slice A L.length c,z 1,z 2,z 3,z 4,z 5,.pointer (some ⟨w1.heap.size,0,none⟩),z 7,.pointer (some ⟨w2a.heap.size,0,none⟩),.int .i64 cd,.pointer (some ⟨w2a.heap.size+1,0,none⟩),z 11,.pointer (some ⟨w3.heap.size,0,none⟩),z 13,z 14,z 15,z 16,z 17,z 18,z 19,z 20,z 21,z 22,z 23,.slice (some ⟨bo,oo,none⟩) acc.length c2,.int .i64 acc.length,.int .i64 k,.bool true,.pointer (some ⟨bo,oo+k,none⟩),.string u,.slice A L.length c,.string u,.func (.func 111) #[] #[.pointer (some ⟨w3.heap.size+1,0,none⟩),.pointer (some ⟨w3.heap.size+2,0,none⟩)],z 33,z 34,z 35,z 36,z 37,z 38,z 39,z 40,z 41,z 42,z 43,z 44,z 45,z 46,z 47,z 48,z 49,z 50]).setIfInBounds 33 (.int .i64 y.i)).setIfInBounds 34 y.x.val).setIfInBounds 13 (.int .i64 y.i)).setIfInBounds 14 (.pointer (some ⟨Bx,0,none⟩)),defers:= []})
    (fun y a' s X Y row hs hg hr=>by obtain⟨Bx,h1,h2,h3⟩:=hs;exact⟨Bx,h1,ownFrom_blk (β:=Unit) w4.heap.size _ _ _ s X Y row h2 hg hr,h3⟩) ?assign ?body ?done ?stop
   case assign=>
    intro l pre y W K hI hK;have hs4:=hI.1.size;dsimp only[Hit.enc,CsV.val];gi_wp2;exact hK _ _ ((KeepsOthers.alloc _ _).from _) (KpA.of_below ((Below.refl _ W).alloc (Nat.le_refl _) _) (by omega) (by omega) (by omega)) ⟨hI.1.alloc hs4 _,hI.2⟩ ⟨W.heap.size,hs4,by simpa using Blk.new W 48 _,rfl⟩
   case body=>
    rintro l pre y a' W hl ⟨r,hr⟩ hI ⟨Bx,hBx,hbx,rfl⟩ hlt2;simp only[List.setIfInBounds_toArray,List.set_cons_succ,List.set_cons_zero];have hSW:VerSt w2 vs v Ds w4.heap.size W:=HS4.out.grow (below_grown (row:=none) hI.1) (fun r e=>by cases e);have hsW:=hI.1.size;have c6:=(H6.out.below hSW.below (by omega)).cell 0;have c8:=(H8.out.below hSW.below (by omega)).cell 0;have H12W:=lz (H12.out.below hI.1 (by omega));have hwW:=HB2.out.trans (hSW.below.mono HB2.out.size);have hx:=(rd_of (H.out.keep hwW) y.h).more (B':=W.heap.size) (by omega);have hok:=Hok.out y.x (List.mem_of_getElem? y.h);have hny:=Hn.out y.x (List.mem_of_getElem? y.h);have Hcall:=lz (holds_c reps acc w.heap.size b' y.x W hx hok (HM2.out.below hSW.below (by omega)) (HM'.out.below hSW.below hbl));have HSW:=lz hSW;have HI:=lz hI;have Hbx:=lz hbx;have Hx:=lz hx;have r0:=hbx.cell 0;have r1:=hbx.cell 1;have r2:=hbx.cell 2;clear hSW hwW hx hok hI hbx;gi_wp2_with fail;refine round_call Hcall.out ?_;rintro e W2 ⟨rfl,hb2⟩;have HIb:=lz (HI.out.1.trans (hb2.mono hsW));have hs2:=hb2.size;have HS2:=lz (HSW.out.grow (below_grown (row:=none) hb2) (fun r e=>by cases e));have H122:=lz (H12W.out.below hb2 (by omega));have Hbx2:=lz (Hbx.out.below hb2 Hbx.out.lt);have Hx2:=lz (Hx.out.below hb2);have HKp:Hid (KpA w.heap.size (w3.heap.size+1) (w3.heap.size+2) W W2):=lz (KpA.of_below hb2 (by omega) (by omega) (by omega));have HK:=lz (keepsB (B:=w4.heap.size) hb2);clear Hcall hb2 HSW H12W r0 r1 r2 Hbx Hx c6 c8
    cases hq:holdB reps acc y.x.c with
    | false=>
     gi_wp2;exact⟨HK.out,HKp.out,HIb.out,fun y' hy'=>by
      rcases List.mem_append.1 hy' with hy' | hy'
      ·exact HI.out.2 y' hy'
      ·simp at hy';subst hy';exact hq⟩
    | true=>
     have Hq:=lz hq;have hb10:Blk W2.drew (w2a.heap.size+1) 58 #[v]:=by rw[←hz2];exact HS2.out.box
     have hHeld:W2.drew.cell? ⟨w2a.heap.size+1,0,none⟩=some v∧W2.drew.cell? ⟨w3.heap.size,0,none⟩=some (.string u)∧W2.drew.cell? ⟨Bx,1,none⟩=some (.slice y.x.n.a y.x.c.needs.length y.x.n.c):=⟨hb10.cell 0,H122.out.cell 0,by rw[←Hx2.out.nl];exact Hbx2.out.cell 1⟩;clear hq HKp hb10;gi_wp2_with fail;refine wpIn_region_roundS (fun W'=>W'.cell? ⟨w2a.heap.size+1,0,none⟩=some v∧W'.cell? ⟨w3.heap.size,0,none⟩=some (.string u)∧W'.cell? ⟨Bx,1,none⟩=some (.slice y.x.n.a y.x.c.needs.length y.x.n.c)) 9 kz kz ?hq hHeld (fun hHeld=> ?_)
     case hq=>rintro⟨_,_,h⟩;exact h
     refine wpAnyS_take (i:=0) (v:= ?_) rfl kz kz kz kz (fun c a w h=>h) (Or.inl ⟨by rfl,?_⟩) hHeld ?_;rotate_left
     ·intro w hSw
      (try obtain⟨hSw1,hSw2,hSw3⟩:=hSw)
      exact gz
     simp only[zP,zA,zB,zC];refine wpAnyS_take (i:=1) (v:= ?_) rfl kz kz kz kz (fun c a w h=>h) (Or.inl ⟨by rfl,?_⟩) hHeld ?_;rotate_left
     ·intro w hSw
      (try obtain⟨hSw1,hSw2,hSw3⟩:=hSw)
      exact gz
     simp only[zP,zA,zB,zC];refine wpAnyS_take (i:=2) (v:= ?_) rfl kz kz kz kz (fun c a w h=>h) (Or.inl ⟨by rfl,?_⟩) hHeld ?_;rotate_left
     ·intro w hSw
      (try obtain⟨hSw1,hSw2,hSw3⟩:=hSw)
      exact gz
     simp only[zP,zA,zB,zC];refine wpAnyS_take (i:=3) (v:= ?_) rfl kz kz kz kz (fun c a w h=>h) (Or.inl ⟨by rfl,?_⟩) hHeld ?_;rotate_left
     ·intro w hSw
      (try obtain⟨hSw1,hSw2,hSw3⟩:=hSw)
      exact gz
     simp only[zP,zA,zB,zC];refine wpAnyS_take (i:=4) (v:= ?_) rfl kz kz kz kz (fun c a w h=>h) (Or.inl ⟨by rfl,?_⟩) hHeld ?_;rotate_left
     ·intro w hSw
      (try obtain⟨hSw1,hSw2,hSw3⟩:=hSw)
      exact gz
     simp only[zP,zA,zB,zC];have Hcl:=lz (cloneRep_c y.x.c.needs y.x.n.a y.x.n.c W2.drew (Hx2.out.n) (by omega));refine RQ 5 rfl fun K hK=> ?_;go_simp;refine Hcl.out.mono ?_;rintro e W5 ⟨A5,c5,rfl,hn5,hm5,hown5,hb5⟩;have hc5:=fun(p:Addr) (x:Value) (hp:W2.drew.cell? p=some x)=>(hb5.cell (p:=p) (World.block_lt_of_cell? _ _ hp)).trans hp
     have hHeld5:=And.intro (hc5 _ _ hHeld.1) (And.intro (hc5 _ _ hHeld.2.1) (hc5 _ _ hHeld.2.2));have hS5:VerSt w2 vs v Ds w4.heap.size W5:=(HS2.out.grow (below_grown (row:=none) (W':=W2.drew) (Below.refl _ W2).drew) (fun r e=>by cases e)).grow (below_grown (row:=none) hb5) (fun r e=>by cases e);have HS5:=lz hS5;have Hown5:=lz hown5;have Hb5:=lz hb5;have hs5:=hb5.size;have hs25:W2.heap.size≤W5.heap.size:=hs5;obtain⟨i0,hi0,hz0,hz1,hz3⟩:=info_parts info42;refine hK.out _ _ (fun _=>hHeld5) ?_;clear hK hHeld hc5 hS5 hown5 hb5 Hcl;refine wpAnyS_take (i:=6) (v:= ?_) rfl kz kz kz kz (fun c a w h=>h) (Or.inl ⟨by rfl,?_⟩) hHeld5 ?_;rotate_left
     ·intro w hSw
      (try obtain⟨hSw1,hSw2,hSw3⟩:=hSw)
      exact gz
     simp only[zP,zA,zB,zC];refine RQ 7 rfl fun K hK=> ?_;go_simp;have hHeld6:(W5.alloc (.cells #[.string u,.int .i64 y.i,.slice A5 y.x.c.needs.length c5] 66)).cell? ⟨w2a.heap.size+1,0,none⟩=some v∧(W5.alloc (.cells #[.string u,.int .i64 y.i,.slice A5 y.x.c.needs.length c5] 66)).cell? ⟨w3.heap.size,0,none⟩=some (.string u)∧(W5.alloc (.cells #[.string u,.int .i64 y.i,.slice A5 y.x.c.needs.length c5] 66)).cell? ⟨Bx,1,none⟩=some (.slice y.x.n.a y.x.c.needs.length y.x.n.c):=
      ⟨(World.cell?_alloc_lt _ _ _ (World.block_lt_of_cell? _ _ hHeld5.1)).trans hHeld5.1,(World.cell?_alloc_lt _ _ _ (World.block_lt_of_cell? _ _ hHeld5.2.1)).trans hHeld5.2.1,(World.cell?_alloc_lt _ _ _ (World.block_lt_of_cell? _ _ hHeld5.2.2)).trans hHeld5.2.2⟩
     refine hK.out _ _ (fun _=>hHeld6) ?_;clear hK;refine RQ 8 rfl fun K hK=> ?_;refine step_append_own (by rfl) (.tmp 39) (.tmp 46) 58 (by rfl) (w2.heap.size+1) 66 i0 (.agg #[.string ⟨#[]⟩,.int .i64 0,.slice none 0 0]) 3 48 Tryz.underlying58 hi0 hz0 hz1 hz3 rfl (by decide) v vs.length _ rfl (HS5.out.own.alloc _) ⟨W5.heap.size,0,none⟩ 1 1 [.string u,.int .i64 y.i,.slice A5 y.x.c.needs.length c5] rfl rfl ?c1 ?c2 ?c3 ?c4 ?c5 ?_
     case c1=>
      intro j u' hj;rw[addr_add_none,Nat.zero_add,(Blk.new W5 66 #[.string u,.int .i64 y.i,.slice A5 y.x.c.needs.length c5]).cell j];simpa using hj
     case c2=>intro u' hu';simp at hu';rcases hu' with rfl | rfl | rfl<;>rfl
     case c3=>unfold maxLen;omega
     case c4=>omega
     case c5=>have:=HS5.out.size;simp;omega
     intro v6 wo hown6 hg6;obtain⟨g6,cp6,rfl,_⟩:=hown6.form (by omega);have hown1:=HS5.out.own.alloc (.cells #[.string u,.int .i64 y.i,.slice A5 y.x.c.needs.length c5] 66);have hso:=hg6.size;simp at hso;have b9o:=(HS5.out.box.alloc (.cells #[.string u,.int .i64 y.i,.slice A5 y.x.c.needs.length c5] 66)).grown hg6 (fun e=>by have:=(hown1.lt _ e.symm).1;omega);have HS6:=HS5.out.step (x:=⟨⟨u,y.i,y.x.c.needs⟩,⟨A5,y.x.c.needs.length,c5⟩⟩) (own_base Hown5.out (by have:=HS2.out.size;show w2.heap.size+1≤W2.heap.size;omega)) rfl hown6 hg6;rw[hz2]at b9o HS6;have b12o:Blk wo w3.heap.size 9 #[.string u]:=by
      have h1:Blk W5 w3.heap.size 9 #[.string u]:=Blk.below (w:=W2.drew) H122.out Hb5.out (by show w3.heap.size<W2.heap.size;exact H122.out.lt);exact(h1.alloc _).grown hg6 (fun e=>own_blk_ne hown1 (h1.alloc _) (by decide) e.symm)
     have bxo:Blk wo Bx 48 #[.string y.x.c.unit,.slice y.x.n.a y.x.n.n y.x.n.c,.slice y.x.x.a y.x.x.n y.x.x.c]:=by
      have h1:Blk W5 Bx 48 #[.string y.x.c.unit,.slice y.x.n.a y.x.n.n y.x.n.c,.slice y.x.x.a y.x.x.n y.x.x.c]:=Blk.below (w:=W2.drew) Hbx2.out Hb5.out (by show Bx<W2.heap.size;exact Hbx2.out.lt);exact(h1.alloc _).grown hg6 (fun e=>own_blk_ne hown1 (h1.alloc _) (by decide) e.symm)
     have hHeld7:wo.cell? ⟨w2a.heap.size+1,0,none⟩=some v∧wo.cell? ⟨w3.heap.size,0,none⟩=some (.string u)∧wo.cell? ⟨Bx,1,none⟩=some (.slice y.x.n.a y.x.c.needs.length y.x.n.c):=⟨b9o.cell 0,b12o.cell 0,by rw[←Hx2.out.nl];exact bxo.cell 1⟩;have f9:=b9o.frozen 0;have c9:=hHeld7.1;have hK5:KeepsFrom w4.heap.size W (wo.setCell ⟨w2a.heap.size+1,0,none⟩ (.slice (some ⟨g6,0,none⟩) (vs.length+1) cp6)):=
      HK.out.trans ((keepsB (W':=W2.drew) (Below.refl _ W2).drew).trans ((keepsB Hb5.out).trans (((KeepsOthers.alloc _ _).from _).trans ((keeps_own hown1 hg6).trans (keeps_set b9o _)))))
     have hvo:∃p y',pre++ [y]=p++ [y']∧(∀z∈p,holdB reps acc z.x.c=false)∧holdB reps acc y'.x.c=true∧(⟨u,y.i,y.x.c.needs⟩:Ver)=(⟨u,y'.i,y'.x.c.needs⟩:Ver):=⟨pre,y,rfl,HI.out.2,Hq.out,rfl⟩;have HR:=lz (And.intro hK5 (And.intro HS6 hvo));refine hK.out _ _ (fun _=>hHeld7) ?_;clear hK HS6 hK5 hvo b9o b12o bxo hown1 hown6 hg6 Hown5 Hb5 HS5;refine RQ 9 rfl fun K hK=> ?_;go_simp;refine hK.out _ _ (fun h=>absurd h (by decide)) ?_;refine wpAnyS_done kz ?_ _;clear hK;gi_wp2_with fail;exact⟨HR.out.1,rfl,_,_,HR.out.2.1,HR.out.2.2⟩
   case done=>
    rintro D ys W hD rfl hI hK;have hno:verOf L reps acc u= []:=by
     unfold verOf;rw[List.find?_eq_none.2 (fun z hz=>by rw[hI.2 z hz];simp)]
    have hd:=Hnx.out;rw[hno,List.append_nil]at hd;have hsW:=hI.1.size;have HSW:Hid (VerSt w2 vs v (D :: Ds) W.heap.size W):=lz ((HS4.out.grow (below_grown (row:=none) hI.1) (fun r e=>by cases e)).mark hsW (by have:=HS4.out.size;omega) (by omega) hK);have Hd:=lz hd;clear hI hno hK hd;go_wp2_with fail;exact⟨⟨k+1,vs,v,D :: Ds,by omega,Hd.out.symm,HSW.out,⟨rfl,rfl,rfl,rfl,rfl,rfl,rfl,rfl,by simp,rfl⟩⟩,by simp[intOf];omega⟩
   case stop=>
    rintro D c' pre W hD hpre ⟨rfl,v',x,hS',p,y,rfl,h1,h2,h3⟩ hK;have hvo:verOf L reps acc u= [x.d]:=by
     unfold verOf;rw[find_first hpre h1 h2,h3]
    have hd:=Hnx.out;rw[hvo]at hd;have hd2:(vs++ [x]).map VerV.d=verL L reps acc (acc.take (k+1)):=by rw[List.map_append,hd];rfl
    have HSW:=lz (hS'.mark (by have:=(Array.getElem?_eq_some_iff.1 hK).1;omega) (by have:=HS4.out.size;omega) hD hK);have Hd:=lz hd2;clear hS' h1 h2 h3 hK hd hd2 hvo hpre;gi_wp2_with fail;go_wp2_with fail;exact⟨⟨k+1,vs++ [x],v',D :: Ds,by omega,Hd.out,HSW.out,⟨rfl,rfl,rfl,rfl,rfl,rfl,rfl,rfl,by simp,rfl⟩⟩,by simp[intOf];omega⟩
  ·obtain rfl:k=acc.length:=by omega
   rw[List.take_length,←Hvv.out]at hvs;obtain⟨Av,cv,rfl,_⟩:=own_caps hS.own;have c10:=hz2▸hS.box.cell 0;have HS:=lz hS;have Hvs:=lz hvs;clear hS hvs;go_wp2_with fail;refine leaves_marks Ds w3 (w2.heap.size+1) HS.out.nodup (fun D hD=>⟨(HS.out.marks D hD).1,(HS.out.marks D hD).2.2⟩) fun W' hSh=> ?_
   exact⟨.tuple #[.slice Av vs.length cv,.int .i64 cd],by simp[results,Tryz.f15,go_sem],Av,cv,vs,rfl,HS.out.rd hSh,Hvs.out,(HB2.out.trans (HS.out.below.mono HB2.out.size)).trans (hSh.below.mono (by have:=HB2.out.size;omega))⟩
end Go.Proofs.YtchfcgilpjkmhaaGreatDoor
