import Derived.Test.YtmdgooofdmpcjaaGreatDoorY0
set_option maxRecDepth 100000
set_option linter.unusedSimpArgs false
set_option linter.unusedVariables false
set_option linter.unusedSectionVars false
open Go.Proofs.Tryz renaming prog → pG
open Option renaming none->Ag,some->Ai
open Go.Proofs.Tryz
namespace Go.Proofs.YtmdgooofdmpcjaaGreatDoor
open Go renaming TypeId->E3,Value->Bn,World->Al,undef->BA
section
open Go.ChangeShapes Go.WideShapes Go.ChangeAt Go.RowKit
attribute [local go_sem] Oper.semAt_some
theorem mC{P:Program}{ops:Array Oper}{o:Oper}{a:Act}{w:Al}{K:Act->Al->Prop}{Q:Exit->Act->Al->Prop}{E:Prop}
 (hg:o.guard=Ag) (s x:Operand) (t:E3) (hop:o.op=Op.call {callee:=Callee.builtin Builtin.append,args:= #[s,x],argTypes:= #[t,t]})
 (base:Nat) (e:E3) (i:TypeInfo) (z:Bn) (size bytes:Nat) (h1:P.underlying t=Ai (.slice e)) (h2:P.info? e=Ai i) (h3:i.zero=Ai z) (h4:i.size=size) (h5:i.bytes=bytes) (h6:z.cells.size=size) (h7:0<size)
 (v:Bn) (k:Nat) (xs:List Bn) (hs:a.eval s=v) (hown:w.ownsRow base e size v k xs) (ad:Addr) (m c:Nat) (news:List Bn) (hx:a.eval x= .slice (Ai ad) m c) (hn:news.length=m*size)
 (hc:∀j u,news[j]?=Ai u->w.cell? (ad.add j)=Ai u) (h1c:∀u∈news,u.oneCell'=true) (b1:k+m<=maxLen) (b2:(k+m)*bytes<=140737488355328) (b3:base<=w.heap.size)
 (hK:∀v' w',w'.ownsRow base e size v' (k+m) (xs++news)->w.grownBy w' v.ownBlock->K (a.put o.dst v') w'):
 if Region.wanted o (yielded ops a.tmps)=true then Oper.wp P o a w K Q else E:=by
 have hw:Region.wanted o (yielded ops a.tmps)=true:=by simp[Region.wanted,hg]
 rw[if_pos hw];obtain⟨v',w',hrun,r1,r2,r3⟩:=run_append_own (P:=P) w base t o.type e i z size bytes h1 h2 h3 h4 h5 h6 h7 v k xs hown ad m c news hn hc h1c b1 b2 b3;unfold Oper.wp;simp[execOp,hop,resolve,invoke,builtin,hs,hx,hrun,Result.andThen];exact hK v' w' r1 r2
structure Ver where
 unit:ByteArray
 cause:Nat
 aUA:List jI
structure V6 where
 d:Ver
 s:SlV
abbrev V6.val(x:V6):Value:= .agg #[.string x.d.unit,.int .i64 x.d.cause,.slice x.s.a x.s.n x.s.c]
def V6.cells(x:V6):List Value:= [.string x.d.unit,.int .i64 x.d.cause,.slice x.s.a x.s.n x.s.c]
theorem nV{w:Al}{b b' e s n:Nat}{v:Bn}{xs:List Bn}(h:w.ownsRow b e s v n xs)(hb:b'<=b):w.ownsRow b' e s v n xs:=by
 refine⟨h.1,?_⟩;rcases h.2 with h2 | ⟨g,cap,cur,h1,h2,h3⟩
 .exact .inl h2
 .exact .inr ⟨g,cap,cur,h1,nT hb h2,h3⟩
theorem lV{w w':Al}{row:Option Nat}{b e s n:Nat}{v:Bn}{xs:List Bn}(h:w.ownsRow b e s v n xs)(hg:w.grownBy w' row)(hr:∀r,row=Ai r->∀o:Obj,w.heap[r]?=Ai o->o.isCells=false):w'.ownsRow b e s v n xs:=
 h.kept hg (by
  rcases h.2 with⟨rfl,_⟩ | ⟨g,cap,cur,rfl,_,hh,_⟩
  .exact .inl rfl
  .exact .inr (λe=>by
    have:=hr g e.symm _ hh
    cases this))
section
variable {w2:Al} {vs:List V6} {v:Bn} {Ds:List Nat} {hi:Nat} {W W':Al}
end
structure FV(A:Option Addr)(n c g6 g8:Nat)(cd:Int)(g10:Nat)(A2:Option Addr)(n2 c2:Nat)(Ds:List Nat)(k:Nat)(a:Act):Prop where
 size:a.tmps.size=51
 s0:a.tmps.getD 0 BA= .slice A n c
 s6:a.tmps.getD 6 BA= .pointer (Ai ⟨g6,0,Ag⟩)
 s8:a.tmps.getD 8 BA= .pointer (Ai ⟨g8,0,Ag⟩)
 s9:a.tmps.getD 9 BA= .int .i64 cd
 s10:a.tmps.getD 10 BA= .pointer (Ai ⟨g10,0,Ag⟩)
 s24:a.tmps.getD 24 BA= .slice A2 n2 c2
 s25:a.tmps.getD 25 BA= .int .i64 n2
 s26:a.tmps.getD 26 BA= .int .i64 k
 defers:a.defers=Ds.map sM
theorem FV.lit{A:Option Addr}{n c g6 g8:Nat}{cd:Int}{g10:Nat}{A2:Option Addr}{n2 c2:Nat}{Ds:List Nat}{k:Nat}{a:Act}(h:FV A n c g6 g8 cd g10 A2 n2 c2 Ds k a):∃z:Nat->Bn,a={tmps:=List.toArray [.slice A n c,z 1,z 2,z 3,z 4,z 5,.pointer (Ai ⟨g6,0,Ag⟩),z 7,.pointer (Ai ⟨g8,0,Ag⟩),.int .i64 cd,.pointer (Ai ⟨g10,0,Ag⟩),z 11,z 12,z 13,z 14,z 15,z 16,z 17,z 18,z 19,z 20,z 21,z 22,z 23,.slice A2 n2 c2,.int .i64 n2,.int .i64 k,z 27,z 28,z 29,z 30,z 31,z 32,z 33,z 34,z 35,z 36,z 37,z 38,z 39,z 40,z 41,z 42,z 43,z 44,z 45,z 46,z 47,z 48,z 49,z 50],defers:=Ds.map sM}:=by
 obtain⟨T,d⟩:=a;obtain⟨h1,h2,h3,h4,h5,h6,h7,h8,h9,h10⟩:=h;simp only at h1 h2 h3 h4 h5 h6 h7 h8 h9 h10;obtain⟨z,hz,hg⟩:=qy 51 T h1;refine⟨z,?_⟩;rw[<-hg]at h2 h3 h4 h5 h6 h7 h8 h9;rw[h10,hz,<-h2,<-h3,<-h4,<-h5,<-h6,<-h7,<-h8,<-h9];rfl
theorem V7{κ:Type}[DecidableEq κ]{x:κ}{ks got:List κ}(hk:fP x ks=true)(h:false=(fP x ks&& !fP x got)):x∈got:=by
 rw[hk]at h
 cases hg:fP x got
 .rw[hg]at h;cases h
 .exact nS.1 hg
theorem V8{κ:Type}[DecidableEq κ]{x:κ}{ks got:List κ}(h:true=(fP x ks&& !fP x got)):x∈ks/\x∉got:=by
 cases hk:fP x ks
 .rw[hk]at h;cases h
 .cases hg:fP x got
  .exact⟨nS.1 hk,λhc=>by rw[nS.2 hc]at hg;cases hg⟩
  .rw[hk,hg]at h;cases h
theorem V9{κ:Type}[DecidableEq κ]{x z:κ}{ks got:List κ}{a b:Bool}(h:a=(fP z ks&& !fP z got))(hb:b=decide (z=x)):(a&& !b)=(fP z ks&& !fP z (got++ [x])):=by
 subst h hb;rw[Bool.and_assoc];congr 1;by_cases h1:z∈got<;>by_cases h2:z=x<;>simp[fP,h1,h2]
section
variable {κ:Type} [DecidableEq κ] {M:jX κ}
def FQ(M:jX κ)(w:Al)(b r:Nat)(ks:List κ)(f:κ->Int)(got:List κ)(cnt:Nat):Prop:=
 ∃n D left,w.ranges pG M.k (plainElem pG 3) b r n D left cnt/\FK M ks f D/\(∀x,M.good x->left (M.lit x)=(fP x ks&& !fP x got))/\got.Nodup/\∀x∈got,x∈ks
variable {w w':Al} {b r n:Nat} {ks got:List κ} {f:κ->Int} {cnt:Nat}
theorem FQ.lt(h:FQ M w b r ks f got cnt):r<w.heap.size:=let ⟨_,_,_,h,_⟩:=h;h.lt
theorem FQ.nodup(h:FQ M w b r ks f got cnt):got.Nodup:=let ⟨_,_,_,_,_,_,h,_⟩:=h;h
theorem FQ.sub(h:FQ M w b r ks f got cnt):∀x∈got,x∈ks:=let ⟨_,_,_,_,_,_,_,h⟩:=h;h
theorem FQ.kept{row:Option Nat}(h:FQ M w b r ks f got cnt)(hg:w.grownBy w' row)(hb:Ai b≠row)(hr:Ai r≠row):FQ M w' b r ks f got cnt:=let ⟨n,D,left,h1,h2⟩:=h;⟨n,D,left,h1.kept hg hb hr,h2⟩
theorem FQ.alloc(h:FQ M w b r ks f got cnt)(o:Obj):FQ M (w.alloc o) b r ks f got cnt:=let ⟨n,D,left,h1,h2⟩:=h;⟨n,D,left,h1.alloc o,h2⟩
theorem FQ.same(h:FQ M w b r ks f got cnt)(hb:w'.heap[b]?=w.heap[b]?)(hr:w'.heap[r]?=w.heap[r]?):FQ M w' b r ks f got cnt:=by
 obtain⟨n,D,left,⟨es,clock,since,seen,c0,h1,h2,h3,h4,h5,h6⟩,h7⟩:=h;exact⟨n,D,left,⟨es,clock,since,seen,c0,hb.trans h1,h2,h3,h4,hr.trans h5,h6⟩,h7⟩
theorem FQ.obj(h:FQ M w b r ks f got cnt):∃o,w.heap[r]?=Ai o/\o.isWalk=true:=by
 obtain⟨n,D,left,⟨es,clock,since,seen,c0,h1,h2,h3,h4,h5,h6⟩,h7⟩:=h;exact⟨_,h5,rfl⟩
theorem fG.range(h:fG M w b n ks f):∃w' cnt,(Instr.range M.t (.map (Ai b))).run pG w= .ok (.pointer (Ai ⟨w.heap.size,0,Ag⟩)) w'/\FQ M w' b w.heap.size ks f [] cnt/\w.grownBy w' Ag/\w'.heap.size=w.heap.size+1:=by
 obtain⟨D,h1,h2⟩:=h;obtain⟨w',hr,r1,r2,r3⟩:=h1.range M.law M.und;refine⟨w',_,hr,⟨n,D,_,r1,h2,λx hx=> ?_,List.nodup_nil,λx h=>absurd h qz⟩,r2,r3⟩;rw[h2.has x hx];simp[fP]
theorem FQ.next(h:FQ M w b r ks f got cnt)(ty:E3):
 ((∀x∈ks,x∈got)/\(Instr.next (.pointer (Ai ⟨r,0,Ag⟩)) false ty).run pG w= .ok (.tuple #[.bool false]) w)\/
 ∃x c w' cnt',M.good x/\x∈ks/\x∉got/\(Instr.next (.pointer (Ai ⟨r,0,Ag⟩)) false ty).run pG w= .ok (.tuple #[.bool true,M.vl x,.int .i64 c]) w'/\FQ M w' b r ks f (got++ [x]) cnt'/\cnt'<cnt/\w.grownBy w' (Ai r)/\w'.heap.size=w.heap.size/\
  (Instr.entry (.pointer (Ai ⟨r,0,Ag⟩))).run pG w'= .ok (.tuple #[M.vl x,.int .i64 c]) w':=by
 obtain⟨n,D,left,h1,h2,h3,h4,h5⟩:=h;rcases h1.next M.law ty with⟨h0,hl,hrun⟩ | ⟨key,v,kl,y,w',cnt',hkey,hlk,hv,hat,hrun,hrg,hlt,hgr,hsz,hen⟩
 .refine .inl ⟨λx hx=> ?_,hrun⟩
  have h6:=(hl (M.lit x)).symm.trans (h3 x (h2.good x hx));exact V7 (nS.2 hx) h6
 .obtain⟨x,hx,rfl⟩:=M.inv key kl hkey
  obtain rfl:M.lit x=kl:=Option.some.inj ((M.key x hx).symm.trans hkey);obtain⟨c,rfl,_⟩:=plainElem_int_inv underlying3 hv;have Vq:=V8 (hlk.symm.trans (h3 x hx));have hxk:=Vq.1;have hxg:=Vq.2;refine .inr ⟨x,c,w',cnt',hx,hxk,hxg,hrun,⟨n,D,_,hrg,h2,λz hz=> ?_,?_,?_⟩,hlt,hgr,hsz,hen⟩
  .have hs:(M.lit z).sameKey (M.lit x)=decide (z=x):=by
    rw[Bool.eq_iff_iff,WideAt.sameKey_iff (jX.isKey hx),decide_eq_true_eq];exact⟨λe=>jX.RI hz hx e,λe=>congrArg M.lit e⟩
   exact V9 (h3 z hz) hs
  .rw[List.nodup_append]
   exact⟨h4,qz,λa ha b hb=>by simp at hb;subst hb;exact λe=>hxg (e▸ha)⟩
  .intro z hz
   rcases List.mem_append.1 hz with hz | hz
   .exact h5 z hz
   .simp at hz;subst hz;exact hxk
end
structure Iw(w:Al)(xs:List jI)(v:Bn)(W:Al):Prop where
 below:Below w.heap.size w W
 size:w.heap.size+1<=W.heap.size
 box:ah W w.heap.size 80 #[v]
 own:W.ownsRow (w.heap.size+1) 85 2 v xs.length (xs.flatMap jI.cells)
theorem Iw.grow{w W W':Al}{xs:List jI}{v:Bn}(h:Iw w xs v W){row:Option Nat}(hg:W.grownBy W' row)(hr:∀r,row=Ai r->w.heap.size+1<=r/\(∀o:Obj,W.heap[r]?=Ai o->o.isCells=false)):Iw w xs v W':=
 ⟨h.below.grown hg (by have:=h.size;omega) (λj e=>by have:=(hr j e).1;omega),nT h.size hg.size,h.box.grown hg (λe=>by have:=(hr _ e.symm).1;omega),lV h.own hg (λr e=>(hr r e).2)⟩
theorem Iw.step{w W wo:Al}{xs:List jI}{v v':Bn}{x:jI}{o:Obj}(h:Iw w xs v W)(hown:wo.ownsRow (w.heap.size+1) 85 2 v' (xs.length+1) (xs.flatMap jI.cells++x.cells))(eG:(W.alloc o).grownBy wo v.ownBlock):Iw w (xs++ [x]) v' (wo.setCell ⟨w.heap.size,0,Ag⟩ v'):=by
 have Pb:=eG.size;simp at Pb;have hsz:=h.size;have hown1:=h.own.alloc o;have uH:∀g,g<w.heap.size+1->Ai g≠v.ownBlock:=λg hlt e=>by have:=(hown1.lt g e.symm).1;omega
 have dI:Below w.heap.size w wo:=(h.below.alloc oz o).grown eG qo (λg hg=>by have:=(hown1.lt g hg).1;omega);have b9:ah wo w.heap.size 80 #[v]:=(h.box.alloc o).grown eG (uH _ oz);have b9':=b9.bX 0 v';refine⟨dI.setCell nL _,by simp[World.setCell];omega,by simpa using b9',?_⟩;have:wo.ownsRow (w.heap.size+1) 85 2 v' (xs++ [x]).length ((xs++ [x]).flatMap jI.cells):=by simpa using hown
 exact this.kept (uI wo ⟨w.heap.size,0,Ag⟩ v') (.inr (aW this b9 dz))
theorem J2{W W':Al}(h:Below W.heap.size W W'):KeepsOthers W W':=⟨h.size,λk o hk _=>(h.block k (gE hk).1).trans hk⟩
theorem Dz{base:Nat}{e:E3}{size n:Nat}{v:Bn}{xs:List Bn}{X Y:Al}(hown:X.ownsRow base e size v n xs)(hg:X.grownBy Y v.ownBlock):KeepsOthers X Y:=
 ⟨hg.size,λk o hk ho=>(hg.block k (gE hk).1 (λe=>iQ hown hk ho e.symm)).trans hk⟩
theorem nW{g:Nat}{t:E3}{cs:Array Bn}{X:Al}(hb:ah X g t cs)(u:Bn):KeepsOthers X (X.setCell ⟨g,0,Ag⟩ u):=
 ⟨by simp[World.setCell],λk o hk ho=>(Below.heap_setCell X ⟨g,0,Ag⟩ u k (λe=>by
  have e:k=g:=e;subst e;rw[show X.heap[k]?=_ from hb]at hk
  cases hk;cases ho)).trans hk⟩
