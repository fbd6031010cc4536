import Derived.Test.YtmdgooofdmpcjaaGreatDoorY9
set_option maxRecDepth 100000
set_option maxHeartbeats 8000000
set_option linter.unusedSimpArgs false
set_option linter.unusedVariables false
set_option linter.unusedSectionVars false
open Go.Proofs.Tryz renaming prog → pG
open Array renaming getElem?_setIfInBounds_ne->Dm,getElem?_setIfInBounds_self_of_lt->GF
open Bool renaming false->Bj,true->BR
open List renaming getD_eq_getElem?_getD->E1,getElem?_eq_getElem->EN,getElem?_eq_none->Ic,getElem_mem->CS,length_cons->Ia,mem_append->E2,mem_append_left->BP,mem_append_right->EJ,mem_cons->BU,mem_cons_of_mem->EX,mem_cons_self->BS,mem_filter->JJ,mem_map->GR,nil_append->GY,pairwise_cons->Jl,range->EO,replicate->Fe,take_succ_eq_append_getElem->Dl
open Option renaming none->Ag,some->Ai
open Go.Proofs.Tryz
namespace Go.Proofs.YtmdgooofdmpcjaaGreatDoor
open Go renaming Calls->ET,Value->Bn,World->Al,bodyPost_ret->GJ,maxLen->EW,undef->BA,wpQuiet_nil->E5
open IntWalk renaming i64_in->Ih
open RowKit renaming Below->BD,intOf->E8
open RowKit.Below renaming heap_setCell->Hu,refl->BK
open Value renaming int->GL
section
open Go.ChangeShapes Go.WideShapes Go.ChangeAt Go.RowKit
attribute [local go_sem] Oper.semAt_some
abbrev aC.cl(p:aC):Array Value:= #[.string p.nm,.int .i64 p.pe,.int .i64 p.le,.int .i64 p.mem,.slice p.aG.a p.aG.l.length p.aG.c,.int .i64 p.ev,.int .i64 p.bo,.slice p.aX.a p.aX.l.length p.aX.c,.slice p.aq.a p.aq.l.length p.aq.c,.slice p.procs.a p.procs.l.length p.procs.c]
abbrev aC.bk(p:aC)(W:Al)(g:Nat):Prop:=ah W g 71 p.cl
abbrev gu.bk(x:gu)(W:Al)(g:Nat):Prop:=ah W g 169 #[.int .u8 x.op,.int .i64 x.a,.int .i64 x.b,.int .i64 x.d]
theorem WS(n v:Int)(g:Nat)(w:Al)(h:w.cell? ⟨g,0,Ag⟩=Ai (.int .i64 n)):
 CU 164 #[.int .i64 v,.pointer (Ai ⟨g,0,Ag⟩)] w (.bool (decide (v<n))):=by
 go_enter func164,ntmps164;go_wp2;go_ret;exact⟨rfl,BK _ _⟩
theorem ng(n:Int)(w:Al):
 ET pG 163 #[.int .i64 n] w λe w'=>e= .returned (.func (.func 164) #[] #[.pointer (Ai ⟨w.heap.size,0,Ag⟩)])/\w'=w.alloc (.cells #[.int .i64 n] 3):=by
 go_enter func163,ntmps163;go_wp2;go_ret;exact⟨rfl,rfl⟩
theorem Sd(o:Bool)(g:Nat)(w:Al):
 ET pG 161 #[.bool o,.pointer (Ai ⟨g,0,Ag⟩)] w λe w'=>e= .returned (.func (.func 162) #[] #[.pointer (Ai ⟨g,0,Ag⟩),.pointer (Ai ⟨w.heap.size,0,Ag⟩)])/\w'=w.alloc (.cells #[.bool o] 4):=by
 go_enter func161,ntmps161;go_wp2;go_ret;exact⟨rfl,rfl⟩
theorem aEq(v:Int)(w:Al):
 CU 165 #[.int .i64 v] w (.bool (dJ 1 2000 v)):=by
 have hc:=dG 1 2000 v w;rw[show([v].all (dJ 1 2000))=dJ 1 2000 v by simp]at hc;generalize dJ 1 2000 v=q at *;have Hc:=lz hc;clear hc;go_enter func165,ntmps165;go_wp2_with fail;refine Hc.out.mono ?_;rintro e w1 ⟨rfl,hb⟩;have HB:=lz hb;clear hb Hc;go_wp2;go_ret;exact⟨rfl,HB.out⟩
def tj(p:aC)(o:Bool)(v:Int):Bool:=match p.aq.l[v.toNat]? with | some q=>q.out==o | none=>Bj
theorem aBR(p:aC)(o:Bool)(k:Nat)(g gb:Nat)(w:Al)(hb:p.bk w g)(ho:w.cell? ⟨gb,0,Ag⟩=Ai (.bool o))(hr:fu w w.heap.size p.aq.a p.aq.l):
 CU 162 #[.int .i64 (k:Int),.pointer (Ai ⟨g,0,Ag⟩),.pointer (Ai ⟨gb,0,Ag⟩)] w (.bool (tj p o k)):=by
 have wu:=hb.lt;have aUZ:gb<w.heap.size:=World.block_lt_of_cell? w _ ho;have k8:w.cell? ⟨g,8,Ag⟩=Ai (.slice p.aq.a p.aq.l.length p.aq.c):=hb.cell 8;obtain⟨ps,BX⟩:=ez p.aq;have HF:=lz (show tj p o k=match ps.l[k]? with | some q=>q.out==o | none=>Bj by rw[BX];rfl);rw[<-BX]at k8 hr;by_cases hlt:k<ps.l.length
 .obtain⟨b,oo,ha,hb',hc⟩:=hr oz
  have gH:=hc k hlt;have HF2:=lz (show tj p o k=(ps.l[k].out==o)by rw[HF.out,EN hlt]);generalize ps.l[k]=r at *;obtain⟨c0,c1,c2,c3,c4,c5,_⟩:=gH;have e1:decide (k<ps.l.length)=true:=dT hlt;have e2:decide ((k:Int)<(ps.l.length:Int))=true:=dT oz;rw[ha]at k8;clear hb hc hr ha BX HF;go_enter func162,ntmps162;go_wp2_with fail;have iR:=bn w;refine aB kz kz ?_;repeat (go_big_quiet_step (fail))
  refine E5 ?_;intro _ hw';obtain⟨xx,hw''⟩:=hw';subst hw'';have qB:=lz xx.h;generalize xx.w=W2 at *;go_wp2;go_ret;exact⟨by rw[HF2.out];rfl,qB.out⟩
 .have e1:decide (k<ps.l.length)=false:=dF hlt
  have e2:decide ((k:Int)<(ps.l.length:Int))=false:=dF oz;have HF2:=lz (show tj p o k=Bj by rw[HF.out,Ic oz]);clear hb hr BX HF;go_enter func162,ntmps162;go_wp2_with fail;have iR:=bn w;refine aB kz kz ?_;repeat (go_big_quiet_step (fail))
  refine E5 ?_;intro _ hw';obtain⟨xx,hw''⟩:=hw';subst hw'';have qB:=lz xx.h;generalize xx.w=W2 at *;go_wp2;go_ret;exact⟨by rw[HF2.out];rfl,qB.out⟩
def lOk(p:aC)(a v:Int):Bool:=match p.aq.l[a.toNat]? with | some q=>dJ 1 q.sz v | none=>Bj
theorem aEr(p:aC)(x:gu)(k:Nat)(hx:x.a=k)(v:Int)(g gp:Nat)(w:Al)(gP:x.bk w g)(hb:p.bk w gp)(hr:fu w w.heap.size p.aq.a p.aq.l):
 CU 166 #[.int .i64 v,.pointer (Ai ⟨g,0,Ag⟩),.pointer (Ai ⟨gp,0,Ag⟩)] w (.bool (lOk p k v)):=by
 have k8:w.cell? ⟨gp,8,Ag⟩=Ai (.slice p.aq.a p.aq.l.length p.aq.c):=hb.cell 8;have k1:w.cell? ⟨g,1,Ag⟩=Ai (.int .i64 (k:Int)):=hx▸gP.cell 1;obtain⟨ps,BX⟩:=ez p.aq;have HF:=lz (show lOk p k v=match ps.l[k]? with | some q=>dJ 1 q.sz v | none=>Bj by rw[BX];rfl);rw[<-BX]at k8 hr;by_cases hlt:k<ps.l.length
 .obtain⟨b,oo,ha,hb',hc⟩:=hr oz
  have gH:=hc k hlt;have HF2:=lz (show lOk p k v=dJ 1 ps.l[k].sz v by rw[HF.out,EN hlt]);generalize ps.l[k]=r at *;obtain⟨c0,c1,c2,c3,c4,c5,_⟩:=gH;have e1:decide (k<ps.l.length)=true:=dT hlt;have e2:decide ((k:Int)<(ps.l.length:Int))=true:=dT oz;rw[ha]at k8;have au:=dG 1 r.sz v w;rw[show([v].all (dJ 1 r.sz))=dJ 1 r.sz v by simp,<-HF2.out]at au;have Hc:=lz au;clear hb gP hx hc hr ha BX HF au HF2;go_enter func166,ntmps166;go_wp2_with fail;refine Hc.out.mono ?_;rintro e w1 ⟨rfl,hb⟩;have HB:=lz hb;clear hb Hc;go_wp2;go_ret;exact⟨rfl,HB.out⟩
 .have e1:decide (k<ps.l.length)=false:=dF hlt
  have e2:decide ((k:Int)<(ps.l.length:Int))=false:=dF oz;have HF2:=lz (show lOk p k v=Bj by rw[HF.out,Ic oz]);clear hb gP hx hr BX HF;go_enter func166,ntmps166;go_wp2;go_ret;exact⟨by rw[HF2.out];rfl,BK _ _⟩
def AZ(v:Bn):Option (DataW Bn×List MemPlace):=Ai (.held v,[])
theorem aEs:Maps.Keyed pG 21:=Maps.int_keyed (q:= .i32) kz
theorem aDX:pG.underlying 214=Ai (.map 21 206):=by kernel_rfl
abbrev kI(n:Int):Lit:= .int .i32 n
theorem WT(n:Int)(h:(kI n).wf=BR):keyOf pG 21 (.int .i32 n)=Ai (kI n):=Maps.keyOf_int_mk kz h
def j4(w:Al)(b n:Nat)(D:DataW Bn):Prop:=w.ownsMap pG 21 AZ b n D/\Maps.IsMap D
theorem j4.made(w:Al):j4 (w.alloc (.map #[] 0)) w.heap.size 0 (.map []):=⟨World.ownsMap_made _ _ _ _,Maps.isMap_empty⟩
theorem j4.lt{w:Al}{b n:Nat}{D:DataW Bn}(h:j4 w b n D):b<w.heap.size:=h.1.lt
theorem j4.kept{w w':Al}{b n:Nat}{D:DataW Bn}{row:Option Nat}(h:j4 w b n D)(hg:w.grownBy w' row)(hne:Ai b≠row):j4 w' b n D:=⟨h.1.kept hg hne,h.2⟩
theorem j4.put{w:Al}{b n:Nat}{D:DataW Bn}(h:j4 w b n D)(hn:n<EW)(k:Int)(hk:(kI k).wf=BR)(v:Bn):
 ∃w',(Instr.mapUpdate 214 (.map (Ai b)) (.int .i32 k) v).run pG w= .ok () w'/\j4 w' b (n+1) (D.put (kI k) (.held v))/\w.grownBy w' (Ai b):=by
 obtain⟨w',h1,h2,h3⟩:=h.1.update aEs aDX hn (WT k hk) (show AZ v=Ai (.held v,[])from rfl);exact⟨w',h1,⟨h2,h.2.put _ _⟩,h3⟩
abbrev ni:DataW Value:= .held Value.nilFunc
theorem j4.look{w:Al}{b n:Nat}{D:DataW Bn}(h:j4 w b n D)(k:Int)(hk:(kI k).wf=BR){v:Bn}(hv:D.atKey (kI k) ni= .held v):
 (Instr.lookup 214 (.map (Ai b)) (.int .i32 k) Bj).run pG w= .ok v w:=by
 obtain⟨v',ps,h1,h2⟩:=h.1.lookup aEs aDX (z:=Value.nilFunc) kz (show AZ Value.nilFunc=Ai (ni,[])from rfl) (WT k hk);rw[hv]at h2
 cases h2
 exact h1
theorem aBS{D:DataW Bn}(h:Maps.IsMap D)(k:Int)(hk:(kI k).wf=BR)(v:Bn):(D.put (kI k) (.held v)).atKey (kI k) ni= .held v:=
 Maps.atKey_put_same h (aEs.key (WT k hk)) _ _
theorem WU{D:DataW Bn}{k j:Int}(hn:j≠k)(v:Bn):(D.put (kI k) (.held v)).atKey (kI j) ni=D.atKey (kI j) ni:=
 Maps.atKey_put_other (λe=>hn (by injection e)) _ _
structure aI where
 f:Nat
 t:Nat
 l:Nat
deriving DecidableEq
structure aQ where
 d:List Int
 p:List aI
 q:List Nat
def aI.less(e o:aI):Bool:=decide (e.f<o.f)||(e.f==o.f&&decide (e.l<o.l))
def aQ.at(s:aQ)(n:Nat):Int:=s.d.getD n (-1)
def aI.zero:aI:=⟨0,0,0⟩
def aQ.relax(k:Int)(s:aQ)(e:aI):aQ:=
 if s.at e.t<0 then⟨s.d.set e.t (k+1),s.p.set e.t e,s.q++ [e.t]⟩
 else if s.at e.t≠k+1\/e.less (s.p.getD e.t aI.zero)=Bj then s
 else⟨s.d,s.p.set e.t e,s.q⟩
def Ph(E:List aI)(n:Nat):List aI:=E.filter λe=>e.f==n
def aQ.step(E:List aI)(n:Nat)(s:aQ):aQ:=(Ph E n).foldl (aQ.relax (s.at n)) s
def aQ.run(E:List aI):Nat->aQ->aQ
 | 0,s=>s
 | k+1,s=>match s.q with
  | []=>s
  | n :: q=>aQ.run E k (aQ.step E n ⟨s.d,s.p,q⟩)
def aQ.init(N src:Nat):aQ:=⟨(Fe N (-1:Int)).set src 0,Fe N aI.zero,[src]⟩
def bfs(E:List aI)(N src:Nat):aQ:=aQ.run E (N+1) (aQ.init N src)
structure aQ.Ui(E:List aI)(N src n:Nat)(k:Int)(D:List aI)(s:aQ):Prop where
 len:s.d.length=N
 Gi:s.p.length=N
 k0:0<=k
 kn:s.at n=k
 low:∀x,-1<=s.at x
 q0:∀x∈s.q,0<=s.at x
 qk:∀x∈s.q,k<=s.at x
 qs:s.q.Pairwise λx y=>s.at x<=s.at y
 top:∀y,s.at y<=k+1
 old:∀a,0<=s.at a->a∉s.q->a≠n->∀e∈E,e.f=a->0<=s.at e.t/\s.at e.t<=s.at a+1
 now:∀e∈D,0<=s.at e.t/\s.at e.t<=k+1
 pos:∀b,0<s.at b->∃e∈E,e.t=b/\0<=s.at e.f/\s.at b=s.at e.f+1/\s.p[b]?=Ai e
 zero:∀b,s.at b=0↔b=src
theorem gQ{α:Type}(l:List α)(i j:Nat)(x z:α)(h:i<l.length):(l.set i x).getD j z=if j=i then x else l.getD j z:=by
 simp only[E1,List.getElem?_set];by_cases e:i=j
 .subst e;simp[h]
 .simp[e,Ne.symm e]
theorem aQ.zK{E:List aI}{N src n:Nat}{k:Int}{D:List aI}{s:aQ}{e:aI}(h:aQ.Ui E N src n k D s)(he:e∈E)(hf:e.f=n)(ht:e.t<N):
 aQ.Ui E N src n k (D++ [e]) (s.relax k e):=by
 have hl:=h.len;unfold aQ.relax;by_cases h1:s.at e.t<0
 .rw[if_pos h1]
  have at':∀j,aQ.at ⟨s.d.set e.t (k+1),s.p.set e.t e,s.q++ [e.t]⟩ j=if j=e.t then k+1 else s.at j:=λj=>gQ _ _ _ _ _ oz
  have Vt:=h.k0;have hnt:n≠e.t:=λc=>by have:=h.kn;rw[c]at this;omega
  refine⟨by simpa using hl,by simpa using h.Gi,Vt,by rw[at',if_neg hnt];exact h.kn,λx=> ?_,λx hx=> ?_,λx hx=> ?_,?_,λy=> ?_,λa ha hq hn e' jm PS=> ?_,λe' jm=> ?_,λb hb=> ?_,λb=> ?_⟩
  .rw[at'];split
   .omega
   .exact h.low x
  .rw[at'];split
   .omega
   .rcases E2.1 hx with hx | hx
    .exact h.q0 x hx
    .simp at hx;contradiction
  .rw[at'];split
   .omega
   .rcases E2.1 hx with hx | hx
    .exact h.qk x hx
    .simp at hx;contradiction
  .rw[List.pairwise_append]
   refine⟨?_,qz,λa ha b hb=> ?_⟩
   .refine h.qs.imp_of_mem fun{a b} ha hb hab=> ?_
    rw[at',at'];have Pj:a≠e.t:=λc=>by have:=h.q0 a ha;rw[c]at this;omega
    have uH:b≠e.t:=λc=>by have:=h.q0 b hb;rw[c]at this;omega
    rw[if_neg Pj,if_neg uH];exact hab
   .simp at hb;subst hb
    have Pj:a≠e.t:=λc=>by have:=h.q0 a ha;rw[c]at this;omega
    rw[at',at',if_neg Pj,if_pos rfl];exact h.top a
  .rw[at'];split
   .omega
   .exact h.top y
  .have Pj:a≠e.t:=λc=>hq (by simp[c])
   rw[at',if_neg Pj]at ha;have:=h.old a ha (λc=>hq (BP _ c)) hn e' jm PS;rw[at',at',if_neg Pj];split
   .rename_i c;rw[c]at this;omega
   .exact this
  .rw[at']
   split
   .omega
   .rename_i c
    rcases E2.1 jm with jm | jm
    .exact h.now e' jm
    .simp at jm;rw[jm]at c;exact absurd rfl c
  .rw[at']at hb⊢
   by_cases c:b=e.t
   .refine⟨e,he,c.symm,?_,?_,?_⟩
    .rw[at',hf,if_neg hnt,h.kn];exact Vt
    .rw[if_pos c,at',hf,if_neg hnt,h.kn]
    .rw[c];simp[h.Gi,ht]
   .rw[if_neg c]at hb⊢
    obtain⟨e',jm,Sg,PS,hd,hp⟩:=h.pos b hb;have hne:e'.f≠e.t:=λx=>by rw[x]at PS;omega
    exact⟨e',jm,Sg,by rw[at',if_neg hne];exact PS,by rw[at',if_neg hne];exact hd,by
     show(s.p.set e.t e)[b]?=_;rw[List.getElem?_set_ne (Ne.symm c)];exact hp⟩
  .rw[at']
   split
   .rename_i c;subst c
    constructor
    .intro;omega
    .intro c;have:=(h.zero e.t).2 c;omega
   .exact h.zero b
 .rw[if_neg h1]
  have hD:∀e'∈D++ [e],0<=s.at e'.t/\s.at e'.t<=k+1:=λe' jm=>by
   rcases E2.1 jm with jm | jm
   .exact h.now e' jm
   .simp at jm;subst jm;exact⟨oz,h.top _⟩
  split
  .exact{h with now:=hD}
  .rename_i h2
   have h3:s.at e.t=k+1:=Classical.byContradiction λc=>h2 (.inl c)
   refine⟨hl,by simpa using h.Gi,h.k0,h.kn,h.low,h.q0,h.qk,h.qs,h.top,h.old,hD,λb hb=> ?_,h.zero⟩;by_cases c:b=e.t
   .refine⟨e,he,c.symm,?_,?_,?_⟩
    .show 0<=s.at e.f;rw[hf,h.kn];exact h.k0
    .show s.at b=s.at e.f+1;rw[hf,h.kn,c,h3]
    .rw[c];simp[h.Gi,ht]
   .obtain⟨e',jm,Sg,PS,hd,hp⟩:=h.pos b hb
    exact⟨e',jm,Sg,PS,hd,by show(s.p.set e.t e)[b]?=_;rw[List.getElem?_set_ne (Ne.symm c)];exact hp⟩
theorem aQ.xY{E:List aI}{N src n:Nat}{k:Int}:∀(L D:List aI) (s:aQ),aQ.Ui E N src n k D s->(∀e∈L,e∈E/\e.f=n/\e.t<N)->aQ.Ui E N src n k (D++L) (L.foldl (aQ.relax k) s)
 | [],D,s,h,_=>by simpa using h
 | e :: L,D,s,h,hL=>by
  have:=aQ.xY L (D++ [e]) (s.relax k e) (aQ.zK h (hL e qz).1 (hL e qz).2.1 (hL e qz).2.2) (λe' jm=>hL e' (by simp[jm]));simpa using this
structure aQ.Inv(E:List aI)(N src:Nat)(s:aQ):Prop where
 len:s.d.length=N
 Gi:s.p.length=N
 low:∀x,-1<=s.at x
 q0:∀x∈s.q,0<=s.at x
 qs:s.q.Pairwise λx y=>s.at x<=s.at y
 top:∀x∈s.q,∀y,s.at y<=s.at x+1
 old:∀a,0<=s.at a->a∉s.q->∀e∈E,e.f=a->0<=s.at e.t/\s.at e.t<=s.at a+1
 pos:∀b,0<s.at b->∃e∈E,e.t=b/\0<=s.at e.f/\s.at b=s.at e.f+1/\s.p[b]?=Ai e
 zero:∀b,s.at b=0↔b=src
theorem aQ.Eb{E:List aI}{N src n:Nat}{d:List Int}{p:List aI}{q:List Nat}(hE:∀e∈E,e.t<N)(h:aQ.Inv E N src ⟨d,p,n :: q⟩):aQ.Inv E N src (aQ.step E n ⟨d,p,q⟩):=by
 have hk:=h.q0 n qz;have hat:∀x,aQ.at ⟨d,p,n :: q⟩ x=aQ.at ⟨d,p,q⟩ x:=λ_=>rfl
 have Vu:=Jl.1 h.qs;have m0:aQ.Ui E N src n (aQ.at ⟨d,p,q⟩ n) [] ⟨d,p,q⟩:=
  ⟨h.len,h.Gi,hk,rfl,h.low,λx hx=>h.q0 x (by simp[hx]),λx hx=>Vu.1 x hx,Vu.2,λy=>h.top n qz y,
   λa ha hq hn e he hf=>h.old a ha (λc=>by rcases BU.1 c with c | c;exact hn c;exact hq c) e he hf,(λe he=>by cases he),h.pos,h.zero⟩
 have m1:=aQ.xY (Ph E n) [] _ m0 (λe he=>by
  have:=JJ.1 he;exact⟨this.1,by simpa using this.2,hE e this.1⟩)
 simp only[GY]at m1;refine⟨m1.len,m1.Gi,m1.low,m1.q0,m1.qs,λx hx y=> ?_,λa ha hq e he hf=> ?_,m1.pos,m1.zero⟩
 .have:=m1.qk x hx;have:=m1.top y
  show aQ.at (List.foldl _ _ _) y<=aQ.at (List.foldl _ _ _) x+1;omega
 .by_cases c:a=n
  .have:=m1.now e (JJ.2 ⟨he,by simp[hf,c]⟩)
   have hkn:=m1.kn;show 0<=aQ.at (List.foldl _ _ _) _/\aQ.at (List.foldl _ _ _) _<=aQ.at (List.foldl _ _ _) _+1;rw[c,hkn];exact this
  .exact m1.old a ha hq c e he hf
def aQ.left(s:aQ):Nat:=s.q.length+s.d.countP λx=>decide (x<0)
theorem ow:∀(d:List Int) (i:Nat) (k:Int),i<d.length->d.getD i (-1)<0->0<=k->(d.set i k).countP (λx=>decide (x<0))+1=d.countP λx=>decide (x<0)
 | [],i,k,h,_,_=>by simp at h
 | x :: d,0,k,h,hx,hk=>by
  simp at hx;simp[List.countP_cons,hx,Int.not_lt.2 hk]
 | x :: d,i+1,k,h,hx,hk=>by
  have:=ow d i k (by simpa using h) (by simpa using hx) hk;simp only[List.set_cons_succ,List.countP_cons];omega
theorem aQ.Qg{E:List aI}{N src n:Nat}{k:Int}{D:List aI}{s:aQ}{e:aI}(h:aQ.Ui E N src n k D s)(ht:e.t<N):(s.relax k e).left=s.left:=by
 unfold aQ.relax;split
 .rename_i h1
  have:=ow s.d e.t (k+1) (by rw[h.len];exact ht) h1 (by have:=h.k0;omega);simp[aQ.left];omega
 .split<;>rfl
theorem aQ.qd{E:List aI}{N src n:Nat}{k:Int}:∀(L D:List aI) (s:aQ),aQ.Ui E N src n k D s->(∀e∈L,e∈E/\e.f=n/\e.t<N)->(L.foldl (aQ.relax k) s).left=s.left
 | [],D,s,h,_=>rfl
 | e :: L,D,s,h,hL=>by
  have h1:=hL e qz;have:=aQ.qd L (D++ [e]) (s.relax k e) (aQ.zK h h1.1 h1.2.1 h1.2.2) (λe' jm=>hL e' (by simp[jm]));rw[List.foldl_cons,this];exact aQ.Qg h h1.2.2
theorem aQ.IQ{E:List aI}{N src n:Nat}{d:List Int}{p:List aI}{q:List Nat}(hE:∀e∈E,e.t<N)(h:aQ.Inv E N src ⟨d,p,n :: q⟩):(aQ.step E n ⟨d,p,q⟩).left+1=aQ.left ⟨d,p,n :: q⟩:=by
 have Vu:=Jl.1 h.qs;have m0:aQ.Ui E N src n (aQ.at ⟨d,p,q⟩ n) [] ⟨d,p,q⟩:=
  ⟨h.len,h.Gi,h.q0 n qz,rfl,h.low,λx hx=>h.q0 x (by simp[hx]),λx hx=>Vu.1 x hx,Vu.2,λy=>h.top n qz y,
   λa ha hq hn e he hf=>h.old a ha (λc=>by rcases BU.1 c with c | c;exact hn c;exact hq c) e he hf,(λe he=>by cases he),h.pos,h.zero⟩
 have:=aQ.qd (Ph E n) [] _ m0 (λe he=>by
  have:=JJ.1 he;exact⟨this.1,by simpa using this.2,hE e this.1⟩)
 unfold aQ.step;rw[this];simp[aQ.left];omega
theorem aQ.Sh{E:List aI}{N src:Nat}(hE:∀e∈E,e.t<N):∀(k:Nat) (s:aQ),aQ.Inv E N src s->s.left<=k->aQ.Inv E N src (aQ.run E k s)/\(aQ.run E k s).q= []
 | 0,s,h,hk=>by
  have:s.q.length=0:=by unfold aQ.left at hk;omega
  exact⟨h,List.length_eq_zero_iff.1 this⟩
 | k+1,⟨d,p,[]⟩,h,hk=>⟨h,rfl⟩
 | k+1,⟨d,p,n :: q⟩,h,hk=>by
  have h1:=aQ.IQ hE h;have h2:(aQ.step E n ⟨d,p,q⟩).left+1<=k+1:=by rw[h1];exact hk
  exact aQ.Sh hE k _ (aQ.Eb hE h) (Nat.le_of_succ_le_succ h2)
theorem Qh(N:Nat):(Fe N (-1:Int)).countP (λx=>decide (x<0))=N:=by
 rw[List.countP_replicate];simp
theorem aQ.qF{E:List aI}{N src:Nat}(hs:src<N):aQ.Inv E N src (aQ.init N src)/\(aQ.init N src).left<=N+1:=by
 have hat:∀j,(aQ.init N src).at j=if j=src then 0 else(Fe N (-1:Int)).getD j (-1):=λj=>gQ _ _ _ _ _ (by simpa using hs)
 have hr:∀j,(Fe N (-1:Int)).getD j (-1)= -1:=λj=>by
  rw[E1,List.getElem?_replicate];split<;>rfl
 have hat':∀j,(aQ.init N src).at j=if j=src then 0 else-1:=λj=>by rw[hat,hr]
 refine⟨⟨by simp[aQ.init],by simp[aQ.init],λx=>by rw[hat'];split<;>omega,λx hx=> ?_,by simp[aQ.init],λx hx y=> ?_,λa ha hq=> ?_,λb hb=> ?_,λb=> ?_⟩,?_⟩
 .simp[aQ.init]at hx;rw[hat',if_pos hx];omega
 .simp[aQ.init]at hx;rw[hat',hat',if_pos hx];split<;>omega
 .rw[hat']at ha
  split at ha
  .rename_i c;exact absurd (by simp[aQ.init,c]) hq
  .omega
 .rw[hat']at hb;split at hb<;>omega
 .rw[hat'];split
  .simp[*]
  .simp[*]
 .have:=ow (Fe N (-1:Int)) src 0 (by simpa using hs) (by rw[hr];omega) oz
  rw[Qh]at this;simp[aQ.left,aQ.init];omega
theorem Si{E:List aI}{N src:Nat}(hE:∀e∈E,e.t<N)(hs:src<N):aQ.Inv E N src (bfs E N src)/\(bfs E N src).q= []:=
 aQ.Sh hE _ _ (aQ.qF hs).1 (aQ.qF (E:=E) hs).2
def aI.ren(f:Nat->Nat)(e:aI):aI:=⟨e.f,e.t,f e.l⟩
structure aQ.Ren(f:Nat->Nat)(s s':aQ):Prop where
 d:s'.d=s.d
 q:s'.q=s.q
 pl:s'.p.length=s.p.length
 p:∀b,0<s.at b->s'.p.getD b aI.zero=(s.p.getD b aI.zero).ren f
def uQ(p:List aI)(src:Nat):Nat->Nat->List aI
 | 0,_=> []
 | k+1,n=>if n=src then[]else(p.getD n aI.zero) :: uQ p src k (p.getD n aI.zero).f
def dM(met:List Nat):List aI->List aI
 | []=> []
 | e :: L=>if e.t∈met then[]else e :: dM (e.t :: met) L
def jj(s:aQ)(src:Nat):List Nat->List aI->List aI
 | [],out=>out
 | m :: ms,out=>jj s src ms (out++dM (out.map (·.t)) (uQ s.p src (s.at m).toNat m))
theorem uR:∀(L:List aI) (met:List Nat),((dM met L).map (·.t)).Nodup/\∀x∈(dM met L).map (·.t),x∉met
 | [],_=>⟨by simp[dM],by simp[dM]⟩
 | e :: L,met=>by
  unfold dM;split
  .exact⟨qz,qz⟩
  .rename_i c
   obtain⟨h1,h2⟩:=uR L (e.t :: met);refine⟨?_,?_⟩
   .rw[List.map_cons,List.nodup_cons]
    exact⟨λx=>h2 _ x qz,h1⟩
   .intro x hx
    rw[List.map_cons]at hx;rcases BU.1 hx with rfl | hx
    .exact c
    .exact λy=>h2 x hx (by simp[y])
def aI.before(s:aQ)(a b:aI):Prop:=s.at a.t<s.at b.t\/s.at a.t=s.at b.t/\a.t<b.t
theorem pU{α:Type}{r:α->α->Prop}(hr:∀a b,r a b->¬r b a):∀(l m:List α),l.Perm m->l.Pairwise r->m.Pairwise r->l=m
 | [],m,h,_,_=>(List.nil_perm.1 h).symm
 | a :: l,[],h,_,_=>absurd (List.perm_nil.1 h) qz
 | a :: l,b :: m,h,hl,hm=>by
  obtain⟨ha,hl'⟩:=Jl.1 hl;obtain⟨hb,Kw⟩:=Jl.1 hm;have hab:a=b:=by
   have h1:a∈b :: m:=h.subset qz;have h2:b∈a :: l:=h.symm.subset qz;rcases BU.1 h1 with c | c
   .exact c
   .rcases BU.1 h2 with d | d
    .exact d.symm
    .exact absurd (hb a c) (hr _ _ (ha b d))
  subst hab;rw[pU hr l m (List.perm_cons a |>.1 h) hl' Kw]
def aI.cells(e:aI):List Value:= [.int .i64 e.f,.int .i64 e.t,.int .i64 e.l]
abbrev aI.val(e:aI):Value:= .agg #[.int .i64 e.f,.int .i64 e.t,.int .i64 e.l]
theorem aBV:(pG.info? 107).map (λi=>(i.zero,i.size,i.bytes))=Ai (Ai (.agg #[.int .i64 0,.int .i64 0,.int .i64 0]),3,24):=by kernel_rfl
def iq(w:Al)(B:Nat)(A:Option Addr)(l:List aI):Prop:=
 0<l.length->∃b o,A=Ai ⟨b,o,Ag⟩/\b<B/\∀i (h:i<l.length),w.cell? ⟨b,o+i*3,Ag⟩=Ai (.int .i64 l[i].f)/\w.cell? ⟨b,o+i*3+1,Ag⟩=Ai (.int .i64 l[i].t)/\w.cell? ⟨b,o+i*3+2,Ag⟩=Ai (.int .i64 l[i].l)
theorem Gj{W:Al}{base cp:Nat}{A:Option Addr}{l:List aI}(h:W.ownsRow base 107 3 (.slice A l.length cp) l.length (l.flatMap aI.cells)):iq W W.heap.size A l:=λhn=>by
 obtain⟨b,cap,hv,_,hlt⟩:=h.form hn;have hA:A=Ai ⟨b,0,Ag⟩:=by injection hv
 subst hA;refine⟨b,0,rfl,hlt,λi hi=> ?_⟩;have c0:=h.cells (g:=b) rfl _ _ (aS aI.cells 3 (λ_=>rfl) l i 0 hi oz);have c1:=h.cells (g:=b) rfl _ _ (aS aI.cells 3 (λ_=>rfl) l i 1 hi oz);have c2:=h.cells (g:=b) rfl _ _ (aS aI.cells 3 (λ_=>rfl) l i 2 hi oz);rw[eY]at c0 c1 c2;simpa using ai c0 (ai c1 c2)
theorem Uk:Maps.Keyed pG 3:=Maps.int_keyed (q:= .i64) kz
theorem aIe:pG.underlying 104=Ai (.map 3 187):=by kernel_rfl
abbrev kE(n:Int):Lit:= .int .i64 n
theorem zL(n:Int)(h:(kE n).wf=BR):keyOf pG 3 (.int .i64 n)=Ai (kE n):=Maps.keyOf_int_mk kz h
theorem x9(n:Nat)(h:n<1000):(kE (n:Int)).wf=true:=WalkArith.wf_i64 oz
def gT(w:Al)(b n:Nat)(D:DataW Bn):Prop:=w.ownsMap pG 3 AZ b n D/\Maps.IsMap D
theorem gT.made(w:Al):gT (w.alloc (.map #[] 0)) w.heap.size 0 (.map []):=⟨World.ownsMap_made _ _ _ _,Maps.isMap_empty⟩
theorem gT.lt{w:Al}{b n:Nat}{D:DataW Bn}(h:gT w b n D):b<w.heap.size:=h.1.lt
theorem gT.kept{w w':Al}{b n:Nat}{D:DataW Bn}{row:Option Nat}(h:gT w b n D)(hg:w.grownBy w' row)(hne:Ai b≠row):gT w' b n D:=⟨h.1.kept hg hne,h.2⟩
theorem gT.gr{X:Nat->Prop}{w w':Al}{b n:Nat}{D:DataW Bn}(h:gT w b n D)(hg:Gr X w w')(hb:¬X b):gT w' b n D:=by
 have hlt:=h.1.lt;obtain⟨⟨es,clock,h1,h2⟩,h3⟩:=h;exact⟨⟨es,clock,(hg.block b hlt hb).trans h1,h2⟩,h3⟩
theorem gT.put{w:Al}{b n:Nat}{D:DataW Bn}(h:gT w b n D)(hn:n<EW)(k:Int)(hk:(kE k).wf=BR)(v:Bn):
 ∃w',(Instr.mapUpdate 104 (.map (Ai b)) (.int .i64 k) v).run pG w= .ok () w'/\gT w' b (n+1) (D.put (kE k) (.held v))/\w.grownBy w' (Ai b):=by
 obtain⟨w',h1,h2,h3⟩:=h.1.update Uk aIe hn (zL k hk) (show AZ v=Ai (.held v,[])from rfl);exact⟨w',h1,⟨h2,h.2.put _ _⟩,h3⟩
abbrev Ul:DataW Value:= .held (.slice Ag 0 0)
theorem gT.look{w:Al}{b n:Nat}{D:DataW Bn}(h:gT w b n D)(k:Int)(hk:(kE k).wf=BR){v:Bn}(hv:D.atKey (kE k) Ul= .held v):
 (Instr.lookup 104 (.map (Ai b)) (.int .i64 k) Bj).run pG w= .ok v w:=by
 obtain⟨v',ps,h1,h2⟩:=h.1.lookup Uk aIe (z:= .slice Ag 0 0) kz (show AZ (.slice Ag 0 0)=Ai (Ul,[])from rfl) (zL k hk);rw[hv]at h2
 cases h2
 exact h1
theorem WW{D:DataW Bn}(h:Maps.IsMap D)(k:Int)(hk:(kE k).wf=BR)(v:Bn):(D.put (kE k) (.held v)).atKey (kE k) Ul= .held v:=
 Maps.atKey_put_same h (Uk.key (zL k hk)) _ _
theorem Um{D:DataW Bn}{k j:Int}(hn:j≠k)(v:Bn):(D.put (kE k) (.held v)).atKey (kE j) Ul=D.atKey (kE j) Ul:=
 Maps.atKey_put_other (λe=>hn (by injection e)) _ _
structure uj(W:Al)(base mb:Nat)(n:Nat)(D:DataW Bn)(vf:Nat->Bn)(F:Nat->List aI):Prop where
 map:gT W mb n D
 hb:base<=mb
 at_:∀k:Nat,k<12->D.atKey (kE (k:Int)) Ul= .held (vf k)
 own:∀k:Nat,k<12->W.ownsRow base 107 3 (vf k) (F k).length ((F k).flatMap aI.cells)
 far:∀k j:Nat,k<12->j<12->k≠j->∀g,(vf k).ownBlock=Ai g->(vf j).ownBlock≠Ai g
theorem uj.made(w:Al):uj (w.alloc (.map #[] 0)) w.heap.size w.heap.size 0 (.map []) (λ_=> .slice Ag 0 0) (λ_=> []):=
 ⟨gT.made w,nL,λ_ _=>rfl,λ_ _=>World.ownsRow_nil _ _ _ _,λ_ _ _ _ _ g h=>by cases h⟩
theorem uj.gr{X:Nat->Prop}{W W':Al}{base mb n:Nat}{D:DataW Bn}{vf:Nat->Bn}{F:Nat->List aI}(h:uj W base mb n D vf F)(hg:Gr X W W')(hm:¬X mb)(hX:∀k,k<12->∀g,(vf k).ownBlock=Ai g->¬X g):uj W' base mb n D vf F:=
 ⟨h.map.gr hg hm,h.hb,h.at_,λk hk=>cO (h.own k hk) hg (hX k hk),h.far⟩
theorem uj.below{W W':Al}{base mb n:Nat}{D:DataW Bn}{vf:Nat->Bn}{F:Nat->List aI}(h:uj W base mb n D vf F)(hb:BD W.heap.size W W'):uj W' base mb n D vf F:=
 h.gr (X:=λk=>W.heap.size<=k) (Gr.ak hb) (by have:=h.map.lt;omega) (λk hk g hg=>by have:=((h.own k hk).lt g hg).2;omega)
theorem uj.blk{W W':Al}{base mb n b:Nat}{D:DataW Bn}{vf:Nat->Bn}{F:Nat->List aI}{t:TypeId}{cs:Array Bn}(h:uj W base mb n D vf F)(hg:Gr (· =b) W W')(hb:ah W b t cs)(ht:107≠t):uj W' base mb n D vf F:=by
 refine h.gr hg (λe=> ?_) (λk hk g Nv e=>aW (h.own k hk) hb ht (e▸Nv));obtain⟨⟨es,clock,h1,_⟩,_⟩:=h.map;subst e;unfold ah at hb;rw[h1]at hb;cases hb
def aBW(F:Nat->List aI)(e:aI):Nat->List aI:=λk=>if k=e.f then F k++ [e]else F k
theorem uj.add{W W1 W2:Al}{base mb n:Nat}{D:DataW Bn}{vf:Nat->Bn}{F:Nat->List aI}{e:aI}{v:Bn}{o:Obj}(h:uj W base mb n D vf F)(he:e.f<12)
 (hown:W1.ownsRow base 107 3 v ((F e.f).length+1) ((F e.f).flatMap aI.cells++e.cells)) (hG:(W.alloc o).grownBy W1 (vf e.f).ownBlock) (Gl:∀g,v.ownBlock=Ai g->(vf e.f).ownBlock=Ai g\/W.heap.size<=g)
 (hm:gT W2 mb (n+1) (D.put (kE (e.f:Int)) (.held v))) (AX:W1.grownBy W2 (Ai mb)):uj W2 base mb (n+1) (D.put (kE (e.f:Int)) (.held v)) (λk=>if k=e.f then v else vf k) (aBW F e):=by
 have h0:=h.below (W':=W.alloc o) (bN);have hg1:Gr (λk=>(vf e.f).ownBlock=Ai k) (W.alloc o) W1:=Gr.eO hG (λk e=>e);have eG:Gr (· =mb) W1 W2:=Gr.eO AX (λk e=>by cases e;rfl);have D8:∀{X:Al} {x:Bn} {m:Nat} {xs:List Bn},X.ownsRow base 107 3 x m xs->(∃es clock,X.heap[mb]?=Ai (.map es clock))->x.ownBlock≠Ai mb:=by
  intro X x m xs hx ⟨es,clock,hc⟩ hb;rcases hx.2 with⟨rfl,_⟩ | ⟨g',cap',cur,rfl,_,hh,_⟩
  .cases hb
  .cases hb
   rw[hc]at hh;cases hh
 have aNz:∃es clock,(W.alloc o).heap[mb]?=Ai (.map es clock):=let ⟨⟨es,clock,h1,_⟩,_⟩:=h0.map;⟨es,clock,h1⟩;have aDY:∃es clock,W1.heap[mb]?=Ai (.map es clock):=by
  obtain⟨es,clock,hh⟩:=aNz;exact⟨es,clock,(hg1.block mb h0.map.lt (D8 (h0.own e.f he) ⟨es,clock,hh⟩)).trans hh⟩
 have aIf:∀k,k<12->k≠e.f->W1.ownsRow base 107 3 (vf k) (F k).length ((F k).flatMap aI.cells):=λk hk hne=>
  cO (h0.own k hk) hg1 (λg hg=>λe'=>h.far k e.f hk he hne g hg e')
 refine⟨hm,h.hb,λk hk=> ?_,λk hk=> ?_,λk j hk hj hkj g hg=> ?_⟩
 .by_cases c:k=e.f
  .subst c
   rw[if_pos rfl];exact WW h.map.2 _ (x9 _ oz) v
  .rw[if_neg c,Um (λx=>c oz)]
   exact h.at_ k hk
 .unfold aBW
  by_cases c:k=e.f
  .subst c
   rw[if_pos rfl,if_pos rfl];have:=cO hown eG (λg hg e'=>D8 hown aDY (e'▸hg));simpa using this
  .rw[if_neg c,if_neg c]
   exact cO (aIf k hk c) eG (λg hg e'=>D8 (aIf k hk c) aDY (e'▸hg))
 .by_cases c:k=e.f
  .subst c
   rw[if_pos rfl]at hg;rw[if_neg (λx=>hkj x.symm)];intro hj';rcases Gl g hg with hg | hg
   .exact h.far _ j hk hj hkj g hg hj'
   .have:=((h.own j hj).lt g hj').2;omega
  .rw[if_neg c]at hg
   by_cases d:j=e.f
   .subst d
    rw[if_pos rfl];intro hj';rcases Gl g hj' with Nv | Nv
    .exact h.far k _ hk hj hkj g hg Nv
    .have:=((h.own k hk).lt g hg).2;omega
   .rw[if_neg d]
    exact h.far k j hk hj hkj g hg
structure sB(W:Al)(b mb:Nat)(qv:Bn)(src n:Nat)(d:List Int)(p:List aI)(cs:Array Bn):Prop where
 blk:ah W b 110 cs
 size:cs.size=52
 c0:cs[0]?=Ai qv
 c1:cs[1]?=Ai (.map (Ai mb))
 c2:cs[2]?=Ai (.int .i64 src)
 c51:cs[51]?=Ai (.int .i64 n)
 dl:d.length=12
 pl:p.length=12
 dc:∀i,i<12->cs[3+i]?=Ai (.int .i64 (d.getD i (-1)))
 pc:∀i,i<12->∀j,j<3->cs[15+i*3+j]?=(p.getD i aI.zero).cells[j]?
section
variable {W W':Al} {b mb:Nat} {qv:Bn} {src n:Nat} {d:List Int} {p:List aI} {cs:Array Bn}
theorem sB.move(h:sB W b mb qv src n d p cs)(hb:ah W' b 110 cs):sB W' b mb qv src n d p cs:={h with blk:=hb}
theorem sB.aEt(h:sB W b mb qv src n d p cs)(v:Bn):sB (W.setCell ⟨b,0,Ag⟩ v) b mb v src n d p (cs.setIfInBounds 0 v):=by
 have hs:=h.size;refine⟨h.blk.bX 0 v,by simpa using hs,?_,?_,?_,?_,h.dl,h.pl,λi hi=> ?_,λi hi j hj=> ?_⟩
 .rw[GF oz]
 .rw[Dm oz];exact h.c1
 .rw[Dm oz];exact h.c2
 .rw[Dm oz];exact h.c51
 .rw[Dm oz];exact h.dc i hi
 .rw[Dm oz];exact h.pc i hi j hj
theorem sB.WX(h:sB W b mb qv src n d p cs)(k:Nat)(hk:k<12)(v:Int):sB (W.setCell ⟨b,3+k,Ag⟩ (.int .i64 v)) b mb qv src n (d.set k v) p (cs.setIfInBounds (3+k) (.int .i64 v)):=by
 have hs:=h.size;refine⟨h.blk.bX (3+k) _,by simpa using hs,?_,?_,?_,?_,by simpa using h.dl,h.pl,λi hi=> ?_,λi hi j hj=> ?_⟩
 .rw[Dm oz];exact h.c0
 .rw[Dm oz];exact h.c1
 .rw[Dm oz];exact h.c2
 .rw[Dm oz];exact h.c51
 .rw[gQ _ _ _ _ _ (by rw[h.dl];exact hk)]
  by_cases c:i=k
  .subst c
   rw[GF oz,if_pos rfl]
  .rw[Dm oz,if_neg c];exact h.dc i hi
 .rw[Dm oz];exact h.pc i hi j hj
theorem sB.aBX(h:sB W b mb qv src n d p cs)(k:Nat)(hk:k<12)(e:aI):sB (((W.setCell ⟨b,15+k*3,Ag⟩ (.int .i64 e.f)).setCell ⟨b,15+k*3+1,Ag⟩ (.int .i64 e.t)).setCell ⟨b,15+k*3+2,Ag⟩ (.int .i64 e.l)) b mb qv src n d (p.set k e)
 (((cs.setIfInBounds (15+k*3) (.int .i64 e.f)).setIfInBounds (15+k*3+1) (.int .i64 e.t)).setIfInBounds (15+k*3+2) (.int .i64 e.l)):=by
 have hs:=h.size;have far:∀i,(i<15+k*3\/15+k*3+2<i)->(((cs.setIfInBounds (15+k*3) (.int .i64 e.f)).setIfInBounds (15+k*3+1) (.int .i64 e.t)).setIfInBounds (15+k*3+2) (.int .i64 e.l))[i]?=cs[i]?:=λi hi=>by
  rw[Dm oz,Dm oz,Dm oz]
 refine⟨((h.blk.bX _ _).bX _ _).bX _ _,by simpa using hs,?_,?_,?_,?_,h.dl,by simpa using h.pl,λi hi=> ?_,λi hi j hj=> ?_⟩
 .rw[far _ oz];exact h.c0
 .rw[far _ oz];exact h.c1
 .rw[far _ oz];exact h.c2
 .rw[far _ oz];exact h.c51
 .rw[far _ oz];exact h.dc i hi
 .rw[gQ _ _ _ _ _ (by rw[h.pl];exact hk)]
  by_cases c:i=k
  .subst c
   rw[if_pos rfl]
   match j,hj with
   | 0,_=>
    rw[Dm oz,Dm oz];show(cs.setIfInBounds (15+i*3) (.int .i64 e.f))[15+i*3]?=_;rw[GF oz];rfl
   | 1,_=>
    rw[Dm oz,GF qo];rfl
   | 2,_=>
    rw[GF qo];rfl
  .rw[if_neg c,far _ oz];exact h.pc i hi j hj
theorem sB.k0(h:sB W b mb qv src n d p cs):W.cell? ⟨b,0,Ag⟩=Ai qv:=(h.blk.cell 0).trans h.c0
theorem sB.k1(h:sB W b mb qv src n d p cs):W.cell? ⟨b,1,Ag⟩=Ai (.map (Ai mb)):=(h.blk.cell 1).trans h.c1
theorem sB.k2(h:sB W b mb qv src n d p cs):W.cell? ⟨b,2,Ag⟩=Ai (.int .i64 src):=(h.blk.cell 2).trans h.c2
theorem sB.k51(h:sB W b mb qv src n d p cs):W.cell? ⟨b,51,Ag⟩=Ai (.int .i64 n):=(h.blk.cell 51).trans h.c51
theorem sB.kd(h:sB W b mb qv src n d p cs)(i:Nat)(hi:i<12):W.cell? ⟨b,3+i,Ag⟩=Ai (.int .i64 (d.getD i (-1))):=(h.blk.cell _).trans (h.dc i hi)
theorem sB.kf(h:sB W b mb qv src n d p cs)(i:Nat):W.frozen? ⟨b,i,Ag⟩=false:=h.blk.frozen i
def pO(W:Al)(base:Nat)(v:Bn)(L:List Nat):Prop:=
 (v= .slice Ag 0 0/\L= [])\/∃g off cap ds,v= .slice (Ai ⟨g,off,Ag⟩) L.length cap/\base<=g/\ah W g 3 ds/\L.length<=cap/\cap<=EW/\off+cap<=ds.size/\∀j (h:j<L.length),ds[off+j]?=Ai (.int .i64 (L[j]:Nat))
theorem pO.gr{X:Nat->Prop}{base:Nat}{v:Bn}{L:List Nat}(h:pO W base v L)(hg:Gr X W W')(hX:∀g ds,base<=g->ah W g 3 ds->¬X g):pO W' base v L:=by
 rcases h with h | ⟨g,off,cap,ds,h1,h2,h3,h4⟩
 .exact .inl h
 .exact .inr ⟨g,off,cap,ds,h1,h2,hg.blk h3 (hX g ds h2 h3),h4⟩
theorem pO.below{base:Nat}{v:Bn}{L:List Nat}(h:pO W base v L)(hb:BD W.heap.size W W'):pO W' base v L:=
 h.gr (X:=λk=>W.heap.size<=k) (Gr.ak hb) (λg ds _ hd e=>by have:=hd.lt;omega)
theorem pO.far{base B:Nat}{v:Bn}{L:List Nat}{t:TypeId}{cs:Array Bn}(h:pO W base v L)(hg:Gr (· =B) W W')(hb:ah W B t cs)(ht:t≠3):pO W' base v L:=
 h.gr hg λg ds _ hd e=>by subst e;exact hb.Fu hd ht rfl
theorem pO.Pw{base:Nat}{v:Bn}{L:List Nat}{xs:List Bn}(h:W.ownsRow base 3 1 v L.length xs)(hx:xs=L.map λk:Nat=>GL .i64 (k:Int)):pO W base v L:=by
 rcases h.2 with⟨h1,h2⟩ | ⟨g,cap,cur,rfl,hb,hh,hlc,Pk,hsz,WY⟩
 .exact .inl ⟨h1,List.eq_nil_of_length_eq_zero h2⟩
 .refine .inr ⟨g,0,cap,cur,rfl,hb,hh,hlc,Pk,oz,λj hj=> ?_⟩
  rw[Nat.zero_add];have h1:(cur.toList.take (L.length*1))[j]?=xs[j]?:=by rw[WY]
  rw[List.getElem?_take_of_lt oz,Array.getElem?_toList]at h1;rw[h1,hx];simp[hj]
theorem pO.pop{base m:Nat}{v:Bn}{L:List Nat}(h:pO W base v (m :: L)):∃g off cap,v= .slice (Ai ⟨g,off,Ag⟩) (L.length+1) cap/\L.length+1<=cap/\cap<=EW/\W.cell? ⟨g,off,Ag⟩=Ai (.int .i64 m)/\
 pO W base (.slice (Ai (if cap=1 then⟨g,off,Ag⟩else⟨g,off+1,Ag⟩)) L.length (cap-1)) L:=by
 rcases h with⟨_,h⟩ | ⟨g,off,cap,ds,rfl,h2,h3,h4,h5,h6,h7⟩
 .cases h
 .refine⟨g,off,cap,rfl,h4,h5,?_,.inr ?_⟩
  .rw[h3.cell off]
   have:=h7 0 qz;simpa using this
  .simp only[Ia]at h4 h7
   by_cases c:cap=1
   .rw[if_pos c]
    have hL:L.length=0:=by omega
    exact⟨g,off,cap-1,ds,rfl,h2,h3,oz,oz,oz,λj hj=>by omega⟩
   .rw[if_neg c]
    refine⟨g,off+1,cap-1,ds,rfl,h2,h3,oz,oz,oz,λj hj=> ?_⟩;have:=h7 (j+1) oz;rw[show off+1+j=off+(j+1)from by omega];simpa using this
end
structure zM(W:Al)(base b mb:Nat)(q:List Nat)(src n:Nat)(d:List Int)(p:List aI):Prop where
 box:∃qv cs,sB W b mb qv src n d p cs/\pO W base qv q
 hb:base<=b
def aIg:List Nat->Bn
 | []=> .tuple #[.int .i64 0,.bool Bj]
 | m :: _=> .tuple #[.int .i64 (m:Int),.bool BR]
section
variable {W W':Al} {base b mb:Nat} {q:List Nat} {src n:Nat} {d:List Int} {p:List aI}
theorem zM.below(h:zM W base b mb q src n d p)(hb:BD W.heap.size W W'):zM W' base b mb q src n d p:=by
 obtain⟨⟨qv,cs,h1,h2⟩,h3⟩:=h;exact⟨⟨qv,cs,h1.move (h1.blk.below hb h1.blk.lt),h2.below hb⟩,h3⟩
theorem aDZ(w:Al)(h:zM w base b mb q src n d p)(hq:q.length<=1000):
 ET pG 179 #[.pointer (Ai ⟨b,0,Ag⟩)] w λe w'=>
  e= .returned (aIg q)/\zM w' base b mb q.tail src n d p/\Gr (· =b) w w':=by
 obtain⟨⟨qv,cs,h1,h2⟩,h3⟩:=h;have k0:=h1.k0;have f0:=h1.kf 0
 cases q with
 | nil=>
  have hlen:∃A c,qv= .slice A 0 c:=by
   rcases h2 with⟨rfl,_⟩ | ⟨g,off,cap,ds,rfl,_⟩
   .exact⟨_,_,rfl⟩
   .exact⟨_,_,rfl⟩
  obtain⟨A,c,rfl⟩:=hlen;have H1:=lz h1;have H2:=lz h2;have H3:=lz h3;clear h1 h2 h3;go_enter func179,ntmps179;go_wp2_with fail;refine GJ (results_tmp2 rfl _ _ _) rfl ?_;exact⟨rfl,⟨⟨_,_,H1.out,H2.out⟩,H3.out⟩,Gr.refl _ _⟩
 | cons m r=>
  obtain⟨g,off,cap,rfl,hc1,qc,hcell,lS⟩:=pO.pop h2;have Mh:(1:Int)<=(cap:Int):=by omega
  have H1:=lz h1;have H3:=lz h3;by_cases aIh:cap=1
  .subst aIh
   rw[if_pos rfl]at lS;have hr:r= []:=List.eq_nil_of_length_eq_zero oz;subst hr;have H2:=lz lS;clear h1 h2 h3 lS;go_enter func179,ntmps179;go_wp2_with fail;refine GJ (results_tmp2 rfl _ _ _) rfl ?_;exact⟨rfl,⟨⟨_,_,H1.out.aEt _,H2.out.far (Gr.setCell (X:=(· =b)) _ _ _ rfl) H1.out.blk dz⟩,H3.out⟩,Gr.setCell _ _ _ rfl⟩
  .rw[if_neg aIh]at lS
   have H2:=lz lS;clear h1 h2 h3 lS;go_enter func179,ntmps179;go_wp2_with fail;refine GJ (results_tmp2 rfl _ _ _) rfl ?_;exact⟨rfl,⟨⟨_,_,H1.out.aEt _,H2.out.far (Gr.setCell (X:=(· =b)) _ _ _ rfl) H1.out.blk dz⟩,H3.out⟩,Gr.setCell _ _ _ rfl⟩
theorem Nw:(pG.info? 3).map (λi=>(i.zero,i.size,i.bytes))=Ai (Ai (.int .i64 0),1,8):=by kernel_rfl
def PuX(w:Al)(base b:Nat)(j:Nat):Prop:=j=b\/(base<=j/\∃ds,ah w j 3 ds)
theorem Xa(k:Nat)(w:Al)(h:zM w base b mb q src n d p)(hq:q.length<=1000)(IG:base<=w.heap.size):
 ET pG 178 #[.pointer (Ai ⟨b,0,Ag⟩),.int .i64 k] w λe w'=>
  (∃v,e= .returned v)/\zM w' base b mb (q++ [k]) src n d p/\Gr (PuX w base b) w w':=by
 obtain⟨⟨qv,cs,h1,h2⟩,h3⟩:=h;have k0:=h1.k0;have f0:=h1.kf 0;obtain⟨i0,lX,hz0,hz1,hz2⟩:=info_parts Nw;obtain⟨w1,cN⟩:=ez (w.alloc (.cells #[.int .i64 k] 3));have bY:BD w.heap.size w w1:=by rw[cN];exact bN
 have h1':sB w1 b mb qv src n d p cs:=h1.move (h1.blk.below bY h1.blk.lt);have k1:w1.cell? ⟨b,0,Ag⟩=Ai qv:=h1'.k0;have f1:w1.frozen? ⟨b,0,Ag⟩=false:=h1'.kf 0;have Gl:∀j u,[GL .i64 (k:Int)][j]?=Ai u->w1.cell? ((⟨w.heap.size,0,Ag⟩:Addr).add j)=Ai u:=by
  intro j u hj;rw[bO,Nat.zero_add,cN,(ah.new w 3 #[.int .i64 k]).cell j];simpa using hj
 have key:∀(v:Bn) (W:Al),pO W base v (q++ [k])->sB W b mb qv src n d p cs->Gr (PuX w base b) w W->
  zM (W.setCell ⟨b,0,Ag⟩ v) base b mb (q++ [k]) src n d p/\Gr (PuX w base b) w (W.setCell ⟨b,0,Ag⟩ v):=λv W hQ hS hG=>
  ⟨⟨⟨_,_,hS.aEt v,hQ.far (Gr.setCell (X:=(· =b)) _ _ _ rfl) hS.blk dz⟩,h3⟩,hG.trans' (Gr.setCell (X:=(· =b)) _ _ _ rfl) (λj _ e=> .inl e)⟩
 have hg1:Gr (PuX w base b) w w1:=Gr.ak bY;have Key:=lz key;have lH:=lz cN;have cU:=lz bY;have H1:=lz h1';have Hg1:=lz hg1;rcases h2 with⟨rfl,rfl⟩ | ⟨g,off,cap,ds,rfl,hg0,aBY,hlc,Pk,hsz,hel⟩
 .clear key cN bY h1 h1' hg1 k1 f1
  go_enter func178,ntmps178;go_wp2_with (at_builtin;rw[<-lH.out];refine wpList_append_own _ rfl (.tmp 8) (.tmp 10) 36 rfl base 3 i0 (.int .i64 0) 1 8 underlying36 lX hz0 hz1 hz2 rfl dz _ _ _ rfl (World.ownsRow_nil _ _ _ _) ⟨w.heap.size,0,Ag⟩ 1 1 [.int .i64 k] rfl rfl Gl ?c2 ?c3 ?c4 ?c5 ?_)
  case c2=>intro u' kQ;simp at kQ;subst kQ;rfl
  case c3=>unfold EW;omega
  case c4=>omega
  case c5=>have:=cU.out.size;omega
  intro v W hown hgr _;obtain⟨Av,cv,rfl,_⟩:=bp hown;have AX:Gr (PuX w base b) w W:=Hg1.out.trans' (Gr.eO (X:=λ_=>False) hgr (λj e=>by cases e)) (λj _ e=>e.elim);have jY:sB W b mb (.slice Ag 0 0) src n d p cs:=H1.out.move ((H1.out.blk).grown hgr (by simp[Value.ownBlock]));have Sk:pO W base (.slice Av (0+1) cv) [k]:=pO.Pw (L:= [k]) hown rfl;have k2:=jY.k0;have f2:=jY.kf 0;have HF:=lz (Key.out _ W Sk jY AX);clear jY Sk AX hown hgr Gl Key k0 f0;go_wp2_with fail;refine bodyPost_end (results_none rfl _ _ _) rfl ?_;exact⟨⟨_,rfl⟩,HF.out⟩
 .have Ec:ah w1 g 3 ds:=aBY.below bY aBY.lt
  have hold:∀j u,(q.map λx:Nat=>GL .i64 (x:Int))[j]?=Ai u->w1.cell? ⟨g,off+j,Ag⟩=Ai u:=by
   intro j u hj;rw[List.getElem?_map]at hj
   cases hqj:q[j]? with
   | none=>rw[hqj]at hj;cases hj
   | some x=>
    rw[hqj]at hj;obtain⟨hjl,hx⟩:=List.getElem?_eq_some_iff.1 hqj;rw[Ec.cell (off+j),hel j hjl,hx];simpa using hj
  have Fv:q.length+1<=cap->∀j,j< [GL .i64 (k:Int)].length->(w1.cell? ⟨g,off+q.length*1+j,Ag⟩).isSome=BR/\w1.frozen? ⟨g,off+q.length*1+j,Ag⟩=false:=λhr j hj=>by
   have:j=0:=by simpa using hj
   subst this;refine⟨?_,Ec.frozen _⟩;rw[Ec.cell];rw[Array.getElem?_eq_getElem oz];rfl
  have hgs:g≠b:=Ec.Fu h1'.blk dz;have hgw:∃es,ah w g 3 es:=⟨ds,aBY⟩;have Hgb:=lz Ec;have Hel:=lz hel;clear key cN bY h1 h1' hg1 k1 f1 Ec aBY hel;go_enter func178,ntmps178;go_wp2_with (at_builtin;rw[<-lH.out];refine wpList_append_arg _ rfl (.tmp 8) (.tmp 10) 36 rfl 3 i0 (.int .i64 0) 1 8 underlying36 lX hz0 hz1 hz2 rfl dz g off q.length cap (q.map λx:Nat=>GL .i64 (x:Int)) rfl qz hold ⟨w.heap.size,0,Ag⟩ 1 1 [.int .i64 k] rfl rfl Gl ?c2 Fv ?c3 ?c4 ?room ?grow)
  case c2=>intro u' kQ;simp at kQ;subst kQ;rfl
  case c3=>unfold EW;omega
  case c4=>omega
  case room=>
   intro hr;have hgr:Gr (PuX w base b) w (w1.setCells g (off+q.length) [.int .i64 k]):=Hg1.out.trans' (Gr.setCell (X:=(· =g)) _ _ _ rfl) (λj _ e=> .inr (by subst e;exact⟨hg0,hgw⟩));have jY:sB (w1.setCells g (off+q.length) [.int .i64 k]) b mb _ src n d p cs:=H1.out.move (H1.out.blk.far (Ne.symm hgs) _);have Sk:pO (w1.setCells g (off+q.length) [.int .i64 k]) base (.slice (Ai ⟨g,off,Ag⟩) (q.length+1) cap) (q++ [k]):=by
    refine .inr ⟨g,off,cap,ds.setIfInBounds (off+q.length) (.int .i64 k),qz,hg0,Hgb.out.bX _ _,qo,Pk,by simpa using hsz,λj hj=> ?_⟩;rw[List.length_append,List.length_singleton]at hj;by_cases c:j<q.length
    .rw[Dm oz,List.getElem_append_left c];exact Hel.out j c
    .have:j=q.length:=by omega
     subst this;rw[GF oz];simp
   have HF:=lz (Key.out _ _ Sk jY hgr);have k2:=jY.k0;have f2:=jY.kf 0;generalize w1.setCells g (off+q.length) [.int .i64 k]=W at *;clear jY Sk hgr Gl Key k0 f0 hold Fv;go_wp2_with fail;refine bodyPost_end (results_none rfl _ _ _) rfl ?_;exact⟨⟨_,rfl⟩,HF.out⟩
  case grow=>
   intro hr v W hown hgr;obtain⟨Av,cv,rfl,_⟩:=bp hown;have AX:Gr (PuX w base b) w W:=Hg1.out.trans' (Gr.eO (X:=λ_=>False) hgr (λj e=>by cases e)) (λj _ e=>e.elim);have jY:sB W b mb _ src n d p cs:=H1.out.move (H1.out.blk.grown hgr qz);have Sk:pO W base (.slice Av (q.length+1) cv) (q++ [k]):=pO.Pw (L:=q++ [k]) (by simpa using nV hown (show base<=w1.heap.size by have:=cU.out.size;omega)) qz;have k2:=jY.k0;have f2:=jY.kf 0;have HF:=lz (Key.out _ W Sk jY AX);clear jY Sk AX hown hgr Gl Key k0 f0 hold Fv;go_wp2_with fail;refine bodyPost_end (results_none rfl _ _ _) rfl ?_;exact⟨⟨_,rfl⟩,HF.out⟩
end
def orV(x y:Int):Int:=if x≠0 then x else y
theorem Sm(x y:Int)(A:Option Addr)(c:Nat)(w:Al)(h:fV w w.heap.size A [x,y])(hc:2<=c):
 ET pG 41 #[.slice A 2 c] w λe w'=>e= .returned (.int .i64 (orV x y))/\w'=w:=by
 obtain⟨b,o,rfl,hb,hcell⟩:=h qz;have c0:w.cell? ⟨b,o,Ag⟩=Ai (.int .i64 x):=by simpa using hcell 0 qz
 have c1:w.cell? ⟨b,o+1,Ag⟩=Ai (.int .i64 y):=by simpa using hcell 1 qz
 go_enter func41,ntmps41;go_wp2;go_loopw [5,8] (λv t wr=>∃k:Nat,k<=2/\t= .int .i64 k/\(1<=k->x=0)/\(2<=k->y=0)/\wr=w) (λ_ t _=>2-(E8 t).toNat)
 case atStart=>exact⟨0,oz,rfl,oz,oz,rfl⟩
 case round=>
  obtain⟨k,hk,rfl,h1,h2,rfl⟩:=hrel
  match k,hk with
  | 0,_=>
   by_cases hx:x=0
   .subst hx
    go_wp2;go_roundw
    case rel=>exact⟨1,oz,by go_num,λ_=>trivial,λh=>absurd h oz,trivial⟩
    case measure=>simp[E8]
   .have hx':(x !=0)=true:=by simpa using hx
    go_wp2;go_ret;exact⟨show Ending.returned (GL .i64 x)=_ from by unfold orV;rw[if_pos hx],rfl⟩
  | 1,_=>
   have hx:=h1 oz;subst hx;by_cases hy:y=0
   .subst hy
    go_wp2;go_roundw
    case rel=>exact⟨2,oz,by go_num,λ_=>trivial,λ_=>trivial,trivial⟩
    case measure=>simp[E8]
   .have hy':(y !=0)=true:=by simpa using hy
    go_wp2;go_ret;exact⟨show Ending.returned (GL .i64 y)=_ from by unfold orV;rw[if_neg qz],rfl⟩
  | 2,_=>
   have hx:=h1 oz;have hy:=h2 oz;subst hx hy;go_wp2;go_ret;exact⟨rfl,rfl⟩
structure aQ.Fin(E:List aI)(N src:Nat)(s:aQ):Prop where
 inv:aQ.Inv E N src s
 q:s.q= []
theorem aBZ{E:List aI}{N src:Nat}(hE:∀e∈E,e.t<N)(hs:src<N):aQ.Fin E N src (bfs E N src):=⟨(Si hE hs).1,(Si hE hs).2⟩
abbrev aQ.par(s:aQ)(n:Nat):aI:=s.p.getD n aI.zero
theorem aQ.kR{E:List aI}{N src:Nat}{s:aQ}(h:aQ.Inv E N src s){n:Nat}(hn:0<s.at n):s.par n∈E/\(s.par n).t=n/\0<=s.at (s.par n).f/\s.at n=s.at (s.par n).f+1:=by
 obtain⟨e,he,ht,hd,hk,hp⟩:=h.pos n hn;have:s.par n=e:=by unfold aQ.par;rw[E1,hp];rfl
 rw[this];exact⟨he,ht,hd,hk⟩
abbrev aQ.chain(s:aQ)(src m:Nat):List aI:=uQ s.p src (s.at m).toNat m
theorem IW(s:aQ)(src:Nat):∀k,uQ s.p src k src= []
 | 0=>rfl
 | k+1=>by unfold uQ;rw[if_pos rfl]
theorem iT{E:List aI}{N src:Nat}{s:aQ}(h:aQ.Inv E N src s){m:Nat}(hm:0<s.at m):s.chain src m=s.par m :: s.chain src (s.par m).f:=by
 obtain⟨_,ht,hd,hk⟩:=aQ.kR h hm;have hne:m≠src:=λc=>by have:=(h.zero m).2 c;omega
 unfold aQ.chain;rw[show(s.at m).toNat=(s.at (s.par m).f).toNat+1 from by omega];show(if m=src then[]else _)=_;rw[if_neg hne]
theorem zN{E:List aI}{N src:Nat}{s:aQ}(h:aQ.Inv E N src s){m:Nat}(hm:s.at m=0):s.chain src m= []:=by
 unfold aQ.chain;rw[hm];rfl
theorem IX{E:List aI}{N src:Nat}{s:aQ}(h:aQ.Inv E N src s):∀(k m:Nat),s.at m=k->∀e∈s.chain src m,0<s.at e.t/\s.at e.t<=s.at m/\e=s.par e.t/\(e.t=m\/∃e'∈s.chain src m,e'.f=e.t)/\(e.f=src\/∃e'∈s.chain src m,e'.t=e.f)
 | 0,m,hk,e,he=>by rw[zN h (by simpa using hk)]at he;cases he
 | k+1,m,hk,e,he=>by
  have hm:0<s.at m:=by omega
  obtain⟨_,ht,hd,hkk⟩:=aQ.kR h hm;rw[iT h hm]at he ⊢;rcases BU.1 he with rfl | he
  .refine⟨by rw[ht];exact hm,by rw[ht];exact Int.le_refl _,by rw[ht],.inl ht,?_⟩
   by_cases c:(s.par m).f=src
   .exact .inl c
   .have hp:0<s.at (s.par m).f:=by
     have:s.at (s.par m).f≠0:=λx=>c ((h.zero _).1 x)
     omega
    refine .inr ⟨s.par (s.par m).f,?_,(aQ.kR h hp).2.1⟩;rw[iT h hp];simp
  .obtain⟨h1,h2,h3,h4,h5⟩:=IX h k (s.par m).f oz e he
   refine⟨h1,oz,h3,.inr ?_,?_⟩
   .rcases h4 with h4 | ⟨e',jm,h4⟩
    .exact⟨_,BS ..,h4.symm⟩
    .exact⟨e',EX _ jm,h4⟩
   .rcases h5 with h5 | ⟨e',jm,h5⟩
    .exact .inl h5
    .exact .inr ⟨e',EX _ jm,h5⟩
theorem IY{E:List aI}{N src:Nat}{s:aQ}(h:aQ.Inv E N src s){out:List aI}(hp:∀e∈out,0<s.at e.t/\e=s.par e.t)(hc:∀e∈out,e.f=src\/∃e'∈out,e'.t=e.f):
 ∀(k m:Nat),s.at m=k->m∈out.map (·.t)->∀e∈s.chain src m,e∈out
 | 0,m,hk,_,e,he=>by rw[zN h (by simpa using hk)]at he;cases he
 | k+1,m,hk,hm,e,he=>by
  have yc:0<s.at m:=by omega
  obtain⟨a,ha,rfl⟩:=GR.1 hm;have hpa:=(hp a ha).2;obtain⟨_,ht,hd,hkk⟩:=aQ.kR h yc;rw[iT h yc]at he;rcases BU.1 he with rfl | he
  .rw[<-hpa];exact ha
  .rw[<-hpa]at he hkk
   rcases hc a ha with c | ⟨e',jm,c⟩
   .rw[c]at he
    rw[show s.chain src src= []from IW s src _]at he;cases he
   .exact IY h hp hc k a.f oz (GR.2 ⟨e',jm,c⟩) e he
theorem uS{E:List aI}{N src:Nat}{s:aQ}(h:aQ.Inv E N src s){out:List aI}(hp:∀e∈out,0<s.at e.t/\e=s.par e.t)(hc:∀e∈out,e.f=src\/∃e'∈out,e'.t=e.f):
 ∀(k m:Nat) (met:List Nat),s.at m=k->(∀x∈met,s.at x<=k->x∈out.map (·.t))->(∀x∈out.map (·.t),x∈met)->(∀e∈dM met (s.chain src m),e∈s.chain src m)/\∀e∈s.chain src m,e∈out++dM met (s.chain src m)
 | 0,m,met,hk,_,_=>by rw[zN h (by simpa using hk)];exact⟨λe he=>(by cases he),λe he=>(by cases he)⟩
 | k+1,m,met,hk,h1,h2=>by
  have hm:0<s.at m:=by omega
  obtain⟨_,ht,hd,hkk⟩:=aQ.kR h hm;rw[iT h hm];unfold dM;rw[ht];split
  .rename_i c
   refine⟨λe he=>(by cases he),λe he=> ?_⟩;rw[List.append_nil];rw[<-iT h hm]at he;exact IY h hp hc (k+1) m hk (h1 m c oz) e he
  .obtain⟨i1,i2⟩:=uS h hp hc k (s.par m).f (m :: met) oz (λx hx WH=>by
    rcases BU.1 hx with rfl | hx
    .omega
    .exact h1 x hx oz) (λx hx=>EX _ (h2 x hx))
   refine⟨λe he=> ?_,λe he=> ?_⟩
   .rcases BU.1 he with rfl | he
    .exact BS ..
    .exact EX _ (i1 e he)
   .rcases BU.1 he with rfl | he
    .exact EJ _ (BS ..)
    .rcases E2.1 (i2 e he)with he | he
     .exact BP _ he
     .exact EJ _ (EX _ he)
structure qg(E:List aI)(s:aQ)(src:Nat)(ms:List Nat)(H:List aI):Prop where
 nodup:(H.map (·.t)).Nodup
 mem:∀e,e∈H↔∃m∈ms,e∈s.chain src m
theorem qg.of{E:List aI}{N src:Nat}{s:aQ}(h:aQ.Inv E N src s){ms:List Nat}{H:List aI}(hh:qg E s src ms H)(Pm:∀m∈ms,0<=s.at m):
 (∀e∈H,0<s.at e.t/\e=s.par e.t)/\(∀e∈H,e.f=src\/∃e'∈H,e'.t=e.f)/\(∀e∈H,e.t∈ms\/∃e'∈H,e'.f=e.t):=by
 refine⟨λe he=> ?_,λe he=> ?_,λe he=> ?_⟩;all_goals
  obtain⟨m,hm,he⟩:=(hh.mem e).1 he;obtain⟨k,hk⟩:∃k:Nat,s.at m=k:=⟨(s.at m).toNat,by have:=Pm m hm;omega⟩;obtain⟨c1,c2,c3,c4,c5⟩:=IX h k m hk e he
 .exact⟨c1,c3⟩
 .rcases c5 with c5 | ⟨e',jm,c5⟩
  .exact .inl c5
  .exact .inr ⟨e',(hh.mem e').2 ⟨m,hm,jm⟩,c5⟩
 .rcases c4 with c4 | ⟨e',jm,c4⟩
  .exact .inl (c4▸hm)
  .exact .inr ⟨e',(hh.mem e').2 ⟨m,hm,jm⟩,c4⟩
theorem Nx{E:List aI}{N src:Nat}{s:aQ}(h:aQ.Inv E N src s):∀(ms ds:List Nat) (out:List aI),(∀m∈ms,0<=s.at m)->(∀m∈ds,0<=s.at m)->qg E s src ds out->qg E s src (ds++ms) (jj s src ms out)
 | [],ds,out,_,_,ho=>by simpa [jj]using ho
 | m :: ms,ds,out,hm,hd,ho=>by
  obtain⟨p1,p2,p3⟩:=ho.of h hd;obtain⟨k,hk⟩:∃k:Nat,s.at m=k:=⟨(s.at m).toNat,by have:=hm m qz;omega⟩;obtain⟨t1,t2⟩:=uS h p1 p2 k m (out.map (·.t)) hk (λx hx _=>hx) (λx hx=>hx);obtain⟨n1,n2⟩:=uR (s.chain src m) (out.map (·.t));unfold jj;have h1:qg E s src (ds++ [m]) (out++dM (out.map (·.t)) (s.chain src m)):=by
   refine⟨?_,λe=>⟨λhe=> ?_,λhe=> ?_⟩⟩
   .rw[List.map_append]
    exact List.nodup_append.2 ⟨ho.nodup,n1,λa ha b hb c=>n2 b hb (c▸ha)⟩
   .rcases E2.1 he with he | he
    .obtain⟨m',Kw,he⟩:=(ho.mem e).1 he
     exact⟨m',BP _ Kw,he⟩
    .exact⟨m,qz,t1 e he⟩
   .obtain⟨m',Kw,he⟩:=he
    rcases E2.1 Kw with Kw | Kw
    .exact BP _ ((ho.mem e).2 ⟨m',Kw,he⟩)
    .simp at Kw;subst Kw;exact t2 e he
  have:=Nx h ms (ds++ [m]) _ (λx hx=>hm x (by simp[hx])) (λx hx=>by
   rcases E2.1 hx with hx | hx
   .exact hd x hx
   .simp at hx;subst hx;exact hm x qz) h1
  simpa using this
theorem CR{E:List aI}{N src:Nat}{s:aQ}(h:aQ.Inv E N src s)(ms:List Nat)(hm:∀m∈ms,0<=s.at m):qg E s src ms (jj s src ms []):=by
 have:=Nx h ms [] [] hm (λ_ h=>by cases h) ⟨qz,λe=>by simp⟩;simpa using this
structure jk(E:List aI)(s:aQ)(src:Nat)(ms:List Nat)(R:List aI):Prop where
 ok:qg E s src ms R
 ord:R.Pairwise (aI.before s)
theorem jk.Ky{E:List aI}{s:aQ}{src:Nat}{ms:List Nat}{H R:List aI}(h:qg E s src ms H)(hp:R.Perm H)(ho:R.Pairwise (aI.before s)):jk E s src ms R:=
 ⟨⟨(hp.map _).nodup_iff.2 h.nodup,λe=>(hp.mem_iff).trans (h.mem e)⟩,ho⟩
theorem CT{α:Type}[DecidableEq α]:∀(l m:List α),l.Nodup->(∀x∈l,x∈m)->l.length<=m.length
 | [],m,_,_=>Nat.zero_le _
 | a :: l,m,hn,hs=>by
  obtain⟨h1,h2⟩:=List.nodup_cons.1 hn;have ha:=hs a qz;have:=CT l (m.erase a) h2 λx hx=>(List.mem_erase_of_ne (fun(c:x=a)=>h1 (c▸hx))).2 (hs x (by simp[hx]))
  rw[List.length_erase_of_mem ha]at this;have:0<m.length:=List.length_pos_of_mem ha;simp;omega
theorem nodup_sub_len{l m:List aI}(h:(l.map (·.t)).Nodup)(hs:∀e∈l,e∈m):l.length<=m.length:=by
 have hn:l.Nodup:=List.Pairwise.imp (fun{a b} (h:a.t≠b.t) (c:a=b)=>h (by rw[c])) (List.pairwise_map.1 h);exact CT l m hn hs
theorem route_fewer{E:List aI}{s:aQ}{src:Nat}{ms ds:List Nat}{R S:List aI}(hr:jk E s src ms R)(hs:jk E s src ds S)(hd:∀m∈ds,m∈ms):(∀e∈S,e∈R)/\S.length<=R.length:=by
 have:∀e∈S,e∈R:=λe he=>by
  obtain⟨m,hm,he⟩:=(hs.ok.mem e).1 he;exact(hr.ok.mem e).2 ⟨m,hd m hm,he⟩
 exact⟨this,nodup_sub_len hs.ok.nodup this⟩
theorem aQ.tX{E:List aI}{N src:Nat}{s:aQ}(h:aQ.Inv E N src s)(hN:0<N):∀x,s.at x<=N:=λx=>by
 rcases Int.lt_or_le (s.at x) 0 with c | c
 .omega
 have aJ:∀(k m:Nat),s.at m=k->∀j:Nat,j<=k->((j:Nat):Int)∈s.d:=by
  intro k
  induction k with
  | zero=>
   intro m hk j hj;have:j=0:=by omega
   subst this;have hm:m<s.d.length:=Classical.byContradiction λhc=>by
    have:s.at m= -1:=by unfold aQ.at;rw[E1,Ic oz];rfl
    omega
   have:s.d[m]=((0:Nat):Int):=by rw[<-hk];unfold aQ.at;rw[E1,EN hm];rfl
   exact this▸CS hm
  | succ k ih=>
   intro m hk j hj;rcases Nat.lt_or_eq_of_le hj with hj | rfl
   .obtain⟨_,_,hd,hkk⟩:=aQ.kR h (n:=m) oz
    exact ih (s.par m).f oz j oz
   .have hm:m<s.d.length:=Classical.byContradiction λhc=>by
     have:s.at m= -1:=by unfold aQ.at;rw[E1,Ic oz];rfl
     omega
    have:s.d[m]=((k+1:Nat):Int):=by rw[<-hk];unfold aQ.at;rw[E1,EN hm];rfl
    exact this▸CS hm
 obtain⟨k,hk⟩:∃k:Nat,s.at x=k:=⟨(s.at x).toNat,oz⟩;have h1:((EO (k+1)).map λj:Nat=>(j:Int)).length<=s.d.length:=by
  refine CT _ _ ?_ λy hy=> ?_
  .exact List.pairwise_map.2 (List.nodup_range.imp λh c=>h oz)
  .obtain⟨j,hj,rfl⟩:=GR.1 hy
   exact aJ k x hk j (by have:=List.mem_range.1 hj;omega)
 simp at h1;rw[h.len]at h1;omega
theorem more_edges{E F:List aI}{N src:Nat}{s t:aQ}(h:aQ.Fin E N src s)(k:aQ.Fin F N src t)(hEF:∀e∈E,∃e'∈F,e'.f=e.f/\e'.t=e.t):∀(j n:Nat),s.at n=j->0<=t.at n/\t.at n<=j
 | 0,n,hj=>by
  have:=(h.inv.zero n).1 (by simpa using hj);rw[(k.inv.zero n).2 this];simp
 | j+1,n,hj=>by
  obtain⟨he,ht,hd,hk⟩:=aQ.kR h.inv (n:=n) oz;obtain⟨i1,i2⟩:=more_edges h k hEF j (s.par n).f oz;obtain⟨e',jm,PS,Sg⟩:=hEF _ he;have:=k.inv.old (s.par n).f i1 (by rw[k.q];simp) e' jm PS;rw[Sg,ht]at this;omega
open Go.Act renaming put → zP
open List renaming setIfInBounds_toArray → zA, set_cons_zero → zB, set_cons_succ → zC
section
variable {base b mb nm:Nat} {D:DataW Bn} {vf:Nat->Bn} {F:Nat->List aI} {src n:Nat}
theorem zM.WX{W:Al}{q:List Nat}{d:List Int}{p:List aI}(h:zM W base b mb q src n d p)(k:Nat)(hk:k<12)(v:Int):zM (W.setCell ⟨b,3+k,Ag⟩ (.int .i64 v)) base b mb q src n (d.set k v) p:=by
 obtain⟨⟨qv,cs,h1,h2⟩,h3⟩:=h;exact⟨⟨qv,_,h1.WX k hk v,h2.far (Gr.setCell (X:=(· =b)) _ _ _ rfl) h1.blk dz⟩,h3⟩
theorem zM.aBX{W:Al}{q:List Nat}{d:List Int}{p:List aI}(h:zM W base b mb q src n d p)(k:Nat)(hk:k<12)(e:aI):zM (((W.setCell ⟨b,15+k*3,Ag⟩ (.int .i64 e.f)).setCell ⟨b,15+k*3+1,Ag⟩ (.int .i64 e.t)).setCell ⟨b,15+k*3+2,Ag⟩ (.int .i64 e.l)) base b mb q src n d (p.set k e):=by
 obtain⟨⟨qv,cs,h1,h2⟩,h3⟩:=h;refine⟨⟨qv,_,h1.aBX k hk e,?_⟩,h3⟩;have g1:Gr (· =b) W (((W.setCell ⟨b,15+k*3,Ag⟩ (.int .i64 e.f)).setCell ⟨b,15+k*3+1,Ag⟩ (.int .i64 e.t)).setCell ⟨b,15+k*3+2,Ag⟩ (.int .i64 e.l)):=
  ((Gr.setCell (X:=(· =b)) _ _ _ rfl).trans (Gr.setCell (X:=(· =b)) _ _ _ rfl)).trans (Gr.setCell (X:=(· =b)) _ _ _ rfl)
 exact h2.far g1 h1.blk dz
theorem zM.kd{W:Al}{q:List Nat}{d:List Int}{p:List aI}(h:zM W base b mb q src n d p)(i:Nat)(hi:i<12):W.cell? ⟨b,3+i,Ag⟩=Ai (.int .i64 (d.getD i (-1)))/\W.frozen? ⟨b,3+i,Ag⟩=false:=by
 obtain⟨⟨qv,cs,h1,h2⟩,h3⟩:=h;exact⟨h1.kd i hi,h1.kf _⟩
theorem zM.kp{W:Al}{q:List Nat}{d:List Int}{p:List aI}(h:zM W base b mb q src n d p)(i:Nat)(hi:i<12):W.cell? ⟨b,15+i*3,Ag⟩=Ai (.int .i64 (p.getD i aI.zero).f)/\W.cell? ⟨b,15+i*3+1,Ag⟩=Ai (.int .i64 (p.getD i aI.zero).t)/\W.cell? ⟨b,15+i*3+2,Ag⟩=Ai (.int .i64 (p.getD i aI.zero).l):=by
 obtain⟨⟨qv,cs,h1,h2⟩,h3⟩:=h;exact⟨(h1.blk.cell _).trans (h1.pc i hi 0 oz),(h1.blk.cell _).trans (h1.pc i hi 1 oz),(h1.blk.cell _).trans (h1.pc i hi 2 oz)⟩
theorem zM.kfp{W:Al}{q:List Nat}{d:List Int}{p:List aI}(h:zM W base b mb q src n d p)(i j:Nat):W.frozen? ⟨b,15+i*3+j,Ag⟩=false:=by
 obtain⟨⟨qv,cs,h1,h2⟩,h3⟩:=h;exact h1.kf _
theorem zM.k2{W:Al}{q:List Nat}{d:List Int}{p:List aI}(h:zM W base b mb q src n d p):W.cell? ⟨b,1,Ag⟩=Ai (.map (Ai mb))/\W.cell? ⟨b,2,Ag⟩=Ai (.int .i64 src)/\W.cell? ⟨b,51,Ag⟩=Ai (.int .i64 n):=by
 obtain⟨⟨qv,cs,h1,h2⟩,h3⟩:=h;exact⟨h1.k1,h1.k2,h1.k51⟩
structure yX(w0 W:Al)(base b mb nm:Nat)(D:DataW Bn)(vf:Nat->Bn)(F:Nat->List aI)(src n:Nat)(s:aQ):Prop where
 q:zM W base b mb s.q src n s.d s.p
 e:uj W base mb nm D vf F
 lE:BD base w0 W
 sz:base<=W.heap.size
theorem zM.blk{W:Al}{q:List Nat}{d:List Int}{p:List aI}(h:zM W base b mb q src n d p):∃cs,ah W b 110 cs:=by
 obtain⟨⟨qv,cs,h1,h2⟩,h3⟩:=h;exact⟨cs,h1.blk⟩
theorem Ed{X:Nat->Prop}{w0 W W':Al}(h:BD base w0 W)(hs:base<=W.heap.size)(hG:Gr X W W')(hX:∀k,k<base->¬X k):BD base w0 W':=
 ⟨hG.os.trans h.os,hG.tape.trans h.tape,hG.output.trans h.output,nT h.size hG.size,λj hj=>(hG.block j oz (hX j hj)).trans (h.block j hj)⟩
theorem yX.below{w0 W W':Al}{s:aQ}(h:yX w0 W base b mb nm D vf F src n s)(hb:BD W.heap.size W W'):yX w0 W' base b mb nm D vf F src n s:=
 ⟨h.q.below hb,h.e.below hb,h.lE.trans (hb.mono h.sz),nT h.sz hb.size⟩
theorem yX.box{w0 W W':Al}{s s':aQ}(h:yX w0 W base b mb nm D vf F src n s)(hg:Gr (· =b) W W')(hq:zM W' base b mb s'.q src n s'.d s'.p):yX w0 W' base b mb nm D vf F src n s':=by
 obtain⟨cs,hb⟩:=h.q.blk;have h3:=h.q.hb;exact⟨hq,h.e.blk hg hb dz,Ed h.lE h.sz hg (λk hk e=>by omega),nT h.sz hg.size⟩
theorem yX.push{w0 W W':Al}{s s':aQ}(h:yX w0 W base b mb nm D vf F src n s)(hg:Gr (PuX W base b) W W')(hq:zM W' base b mb s'.q src n s'.d s'.p):yX w0 W' base b mb nm D vf F src n s':=by
 obtain⟨cs,hb⟩:=h.q.blk;have h3:=h.q.hb;refine⟨hq,h.e.gr hg ?_ ?_,Ed h.lE h.sz hg (λk hk e=> ?_),nT h.sz hg.size⟩
 .rintro(e | ⟨_,ds,hd⟩)
  .obtain⟨⟨es,clock,h1,_⟩,_⟩:=h.e.map
   rw[e]at h1;unfold ah at hb;rw[h1]at hb;cases hb
  .obtain⟨⟨es,clock,h1,_⟩,_⟩:=h.e.map
   unfold ah at hd;rw[h1]at hd;cases hd
 .rintro k hk g Nv (e | ⟨_,ds,hd⟩)
  .exact aW (h.e.own k hk) hb dz (e▸Nv)
  .exact aW (h.e.own k hk) hd dz Nv
 .rcases e with e | ⟨e,_⟩<;>omega
theorem aEx{d:List Int}(hl:d.length=12)(h:∀i,i<12->d.getD i (-1)= -1):d=Fe 12 (-1):=by
 apply List.ext_getElem (by simp[hl]);intro i h1 h2;have:=h i oz;rw[E1,EN h1]at this;rw[List.getElem_replicate];exact this
def Xc:List Nat->Bn
 | []=> .int .i64 0
 | m :: _=> .int .i64 (m:Int)
theorem I3(q:List Nat):aIg q= .tuple #[Xc q,.bool (!q.isEmpty)]:=by cases q<;>rfl
def leftOf(b:Nat)(w:Al)(m:Bn):Nat:=
 ((EO 12).countP λi=>match w.cell? ⟨b,3+i,Ag⟩with | some (.int _ v)=>decide (v<0) | _=>Bj)+(match w.cell? ⟨b,0,Ag⟩with | some (.slice _ n _)=>n | _=>0)+(match m with | .bool true=>1 | _=>0)
theorem Kz(d:List Int)(hd:d.length=12):((EO 12).countP λi=>decide (d.getD i (-1)<0))=d.countP λx=>decide (x<0):=by
 have:d=(EO 12).map λi=>d.getD i (-1):=by
  apply List.ext_getElem (by simp[hd]);intro i h1 h2;rw[List.getElem_map,List.getElem_range,E1,EN h1];rfl
 conv=>rhs;rw[this,List.countP_map]
 rfl
theorem I4{w0 W:Al}{s:aQ}{q':List Nat}{m:Bn}(h:yX w0 W base b mb nm D vf F src n ⟨s.d,s.p,q'⟩):leftOf b W m=(s.d.countP λx=>decide (x<0))+q'.length+(match m with | .bool true=>1 | _=>0):=by
 obtain⟨⟨qv,cs,h1,h2⟩,h3⟩:=h.q;unfold leftOf;rw[h1.k0];have hq:(match (Ai qv:Option Bn)with | some (.slice _ n _)=>n | _=>0)=q'.length:=by
  rcases h2 with⟨rfl,h⟩ | ⟨g,off,cap,ds,rfl,_⟩
  .have:q'= []:=h
   rw[this];rfl
  .rfl
 rw[hq];congr 2;rw[<-Kz s.d h1.dl];apply List.countP_congr;intro i hi;rw[h1.kd i (List.mem_range.1 hi)]
theorem aBa(E:List aI)(f:Nat)(d:List Int)(p:List aI):aQ.run E f ⟨d,p,[]⟩=⟨d,p,[]⟩:=by cases f<;>rfl
theorem aBb{e o:aI}(h1:e.f<1000)(h2:o.f<1000):decide (orV ((e.f:Int)-o.f) ((e.l:Int)-o.l)>=0)= !e.less o:=by
 unfold orV aI.less;by_cases c:e.f=o.f
 .rw[if_neg oz]
  by_cases d:e.l<o.l
  .rw[dF oz];simp[c,d]
  .rw[dT oz];simp[c,d]
 .rw[if_pos oz]
  by_cases d:e.f<o.f
  .rw[dF oz];simp[d]
  .rw[dT oz];simp[d,c]
theorem I5{E:List aI}{N src m:Nat}{d:List Int}{p:List aI}{q:List Nat}(h:aQ.Inv E N src ⟨d,p,m :: q⟩):aQ.Ui E N src m (aQ.at ⟨d,p,q⟩ m) [] ⟨d,p,q⟩:=by
 have hk:=h.q0 m qz;have Vu:=Jl.1 h.qs;exact⟨h.len,h.Gi,hk,rfl,h.low,λx hx=>h.q0 x (by simp[hx]),λx hx=>Vu.1 x hx,Vu.2,λy=>h.top m qz y,
  λa ha hq hn e he hf=>h.old a ha (λc=>by rcases BU.1 c with c | c;exact hn c;exact hq c) e he hf,(λe he=>by cases he),h.pos,h.zero⟩
theorem Qk{k:Int}{s:aQ}(L:List aI)(j:Nat)(hj:j<L.length):(L.take (j+1)).foldl (aQ.relax k) s=((L.take j).foldl (aQ.relax k) s).relax k L[j]:=by
 rw[Dl hj,List.foldl_append];rfl
theorem aIi(E:List aI)(hE:∀e∈E,e.t<12/\e.f<12/\e.l<1000)(hF:∀k,k<12->F k=Ph E k)(w0 w:Al)(hS:yX w0 w base b mb nm D vf F src n ⟨Fe 12 0,Fe 12 aI.zero,[]⟩)(KA:src<12):
 ET pG 103 #[.pointer (Ai ⟨b,0,Ag⟩)] w λe w'=>
  (∃v,e= .returned v)/\yX w0 w' base b mb nm D vf F src n (bfs E 12 src):=by
 have hsi:(src:Int)<12:=by omega
 have HS:=lz hS;have HF:=lz hF;clear hS hF;go_enter func103,ntmps103;go_wp2;go_loopw [8] (λt wr=>∃(k:Nat) (d:List Int),k<=12/\t= .int .i64 k/\d.length=12/\(∀i,i<k->d.getD i (-1)= -1)/\yX w0 wr base b mb nm D vf F src n ⟨d,Fe 12 aI.zero,[]⟩) (λt _=>12-(E8 t).toNat)
 case atStart=>exact⟨0,_,oz,rfl,qz,λi hi=>absurd hi oz,HS.out⟩
 case round=>
  clear HS;obtain⟨k,d,hk,rfl,I6,hd,hS⟩:=hrel;have Hdl:=lz I6;clear I6;by_cases hlt:k<12
  .obtain⟨kd,kf⟩:=hS.q.kd k hlt
   have HS:=lz hS;have Hd:=lz hd;clear hS hd;go_wp2;go_roundw
   case rel=>
    refine⟨k+1,d.set k (-1),oz,by go_num,by simpa using Hdl.out,λi hi=> ?_,HS.out.box (Gr.setCell (X:=(· =b)) _ _ _ rfl) (HS.out.q.WX k hlt (-1))⟩;rw[gQ _ _ _ _ _ (by rw[Hdl.out];exact hlt)];split
    .rfl
    .exact Hd.out i oz
   case measure=>simp[E8];omega
  .obtain rfl:k=12:=by omega
   have aN3:=aEx Hdl.out hd;subst aN3;have hS1:=hS.below (W':=wr.drew) (BK _ _).drew;obtain⟨kd,kf⟩:=hS1.q.kd src KA;have k2:=hS1.q.k2.2.1;have HS:=lz hS1;clear hS hd hS1;go_wp2_with fail;refine aT (λW'=>W'.cell? ⟨b,2,Ag⟩=Ai (.int .i64 src)) 8 kz k2 (λhHeld=> ?_);refine TS 0 rfl hHeld ?_;simp only[zP,zA,zB,zC];refine TS 1 rfl hHeld ?_;simp only[zP,zA,zB,zC];refine TS 2 rfl hHeld ?_;simp only[zP,zA,zB,zC];refine TS 3 rfl hHeld ?_;simp only[zP,zA,zB,zC];refine TS 4 rfl hHeld ?_;simp only[zP,zA,zB,zC];refine TS 5 rfl hHeld ?_;simp only[zP,zA,zB,zC];refine TS 6 rfl hHeld ?_;simp only[zP,zA,zB,zC];refine TS 7 rfl hHeld ?_;simp only[zP,zA,zB,zC];refine RQ 8 rfl λK hK=> ?_
   go_simp;refine hK.out _ _ (λh=>absurd h dz) ?_;clear hK hHeld;refine aL kz ?_ _;have jY:yX w0 (wr.setCell ⟨b,3+src,Ag⟩ (.int .i64 0)).drew base b mb nm D vf F src n ⟨(Fe 12 (-1)).set src 0,Fe 12 aI.zero,[]⟩:=(show yX w0 (wr.drew.setCell ⟨b,3+src,Ag⟩ (.int .i64 0)) base b mb nm D vf F src n ⟨(Fe 12 (-1)).set src 0,Fe 12 aI.zero,[]⟩from HS.out.box (Gr.setCell (X:=(· =b)) _ _ _ rfl) (HS.out.q.WX src KA 0));obtain⟨W2,Sn⟩:=ez ((wr.setCell ⟨b,3+src,Ag⟩ (.int .i64 0)).drew);rw[<-Sn]at jY ⊢;have sC:=lz (jY.below (W':=W2.drew) (BK _ _).drew);have k3:W2.drew.cell? ⟨b,2,Ag⟩=Ai (.int .i64 src):=sC.out.q.k2.2.1;clear HS jY Sn k2 kd kf;go_wp2_with fail;refine aT (λW'=>W'.cell? ⟨b,2,Ag⟩=Ai (.int .i64 src)) 7 kz k3 (λhHeld=> ?_);refine TS 0 rfl hHeld ?_;simp only[zP,zA,zB,zC];refine TS 1 rfl hHeld ?_;simp only[zP,zA,zB,zC];refine TS 2 rfl hHeld ?_;simp only[zP,zA,zB,zC];refine TS 3 rfl hHeld ?_;simp only[zP,zA,zB,zC];refine TS 4 rfl hHeld ?_;simp only[zP,zA,zB,zC];refine TS 5 rfl hHeld ?_;simp only[zP,zA,zB,zC];refine TS 6 rfl hHeld ?_;simp only[zP,zA,zB,zC];refine RQ 7 rfl λK hK=> ?_
   go_simp;refine(Xa src _ sC.out.q qz sC.out.sz).mono ?_;rintro e W3 ⟨⟨v,rfl⟩,Pc,hg3⟩;refine hK.out _ _ (λh=>absurd h dz) ?_;clear hK hHeld;refine aL kz ?_ _;have pP:Hid (yX w0 W3 base b mb nm D vf F src n (aQ.init 12 src)):=lz (sC.out.push hg3 Pc);clear sC Pc hg3 k3;go_wp2_with fail;refine(aDZ _ pP.out.q (by simp[aQ.init])).mono ?_;rintro e W4 ⟨rfl,hq4,Xd⟩;have vw:yX w0 W4 base b mb nm D vf F src n ⟨(aQ.init 12 src).d,(aQ.init 12 src).p,(aQ.init 12 src).q.tail⟩:=pP.out.box Xd hq4;have sD:=lz vw;rw[I3];clear vw hq4 Xd pP;go_wp2;go_loopw [3,4] (λa m wr=>∃(f:Nat) (s:aQ),a=Xc s.q/\m= .bool (!s.q.isEmpty)/\Hid (aQ.run E f s=bfs E 12 src/\aQ.Inv E 12 src s/\s.left<=f/\f<=13)/\yX w0 wr base b mb nm D vf F src n ⟨s.d,s.p,s.q.tail⟩) (λ_ m wr=>leftOf b wr m)
   case atStart=>exact⟨13,aQ.init 12 src,rfl,rfl,lz ⟨rfl,(aQ.qF KA).1,(aQ.qF (E:=E) KA).2,oz⟩,sD.out⟩
   case round=>
    clear sD;obtain⟨f,⟨d,p,q⟩,rfl,rfl,hR,hS⟩:=hrel;have aIj:=lz (I4 (s:=⟨d,p,q⟩) (m:= .bool (!q.isEmpty)) hS)
    cases q with
    | nil=>
     have hb:=hR.out.1;rw[aBa]at hb;have HE:=lz (show yX w0 wr base b mb nm D vf F src n (bfs E 12 src)from hb▸hS);clear hS hR hb;go_wp2_with fail;refine bodyPost_end (results_none rfl _ _ _) rfl ?_;exact⟨⟨_,rfl⟩,HE.out⟩
    | cons m q=>
     obtain⟨hrun,hinv,hlf,Xe⟩:=hR.out;have hm:m<12:=by
      have h0:=hinv.q0 m qz;have hl:=hinv.len;exact Classical.byContradiction λc=>by
       have:aQ.at ⟨d,p,m :: q⟩ m= -1:=by unfold aQ.at;rw[E1,Ic oz];rfl
       omega
     obtain⟨f,rfl⟩:∃f',f=f'+1:=⟨f-1,by have:(aQ.left ⟨d,p,m :: q⟩)=q.length+1+(d.countP λx=>decide (x<0)):=rfl;omega⟩;have hmi:(m:Int)<12:=by omega
     obtain⟨Am,cm,hvm,hc1,qc⟩:=bp (hS.e.own m hm);have uT:=hS.e.map.look (m:Int) (x9 m oz) (hS.e.at_ m hm);rw[hvm]at uT;have k1:=hS.q.k2.1;have hlen:((F m).length:Int)<=9223372036854775807:=by unfold EW at qc;omega
     have HR:=lz (ai hrun (ai hinv (ai hlf Xe)));have HV:=lz hvm;have HS:=lz hS;clear hR hS hrun hinv hlf Xe hvm;rw[show Xc (m :: q)=GL .i64 (m:Int)from rfl];go_wp2_with fail;have Xf:aQ.Ui E 12 src m (aQ.at ⟨d,p,q⟩ m) [] ⟨d,p,q⟩:=I5 HR.out.2.1;obtain⟨kk,hkk⟩:=ez (aQ.at ⟨d,p,q⟩ m);rw[<-hkk]at Xf;have aDc:=lz Xf;have Hkk:=lz hkk;clear Xf hkk k1;go_loopw [55] (λt wr'=>∃(j:Nat),j<=(F m).length/\t= .int .i64 j/\Hid (aQ.Ui E 12 src m kk ((F m).take j) (((F m).take j).foldl (aQ.relax kk) ⟨d,p,q⟩))/\yX w0 wr' base b mb nm D vf F src n (((F m).take j).foldl (aQ.relax kk) ⟨d,p,q⟩)) (λt _=>(F m).length-(E8 t).toNat)
     case atStart=>exact⟨0,nZ,rfl,aDc,HS.out⟩
     case round=>
      clear HS aDc;obtain⟨j,hj,rfl,hM,hS⟩:=hrel;obtain⟨s,hs⟩:=ez (((F m).take j).foldl (aQ.relax kk) ⟨d,p,q⟩);rw[<-hs]at hM hS;have Hs:=lz hs;clear hs;by_cases hlt:j<(F m).length
      .have Xg:F m=Ph E m:=HF.out m hm
       have iU:(F m)[j]∈Ph E m:=Xg▸CS hlt;have NA:=JJ.1 iU;have KC:(F m)[j].f=m:=by simpa using NA.2
       obtain⟨Bh,_⟩:=hE _ NA.1;have aIl:=lz NA.1;obtain⟨be,oe,rfl,NC,hce⟩:=Gj (l:=F m) (HV.out▸hS.e.own m hm) (show 0<(F m).length by omega);obtain⟨ce0,ce1,ce2⟩:=hce j hlt;have pE:((F m).take (j+1)).foldl (aQ.relax kk) ⟨d,p,q⟩=s.relax kk (F m)[j]:=by rw[Qk _ _ hlt,<-Hs.out]
       have hmx:aQ.Ui E 12 src m kk ((F m).take (j+1)) (s.relax kk (F m)[j]):=by
        rw[Dl hlt];exact aQ.zK hM.out NA.1 KC Bh
       have lg:=lz (ai pE hmx);obtain⟨e,he⟩:=ez ((F m)[j]);rw[<-he]at KC Bh ce0 ce1 ce2 lg aIl;have Hee:=aIl;have hti:(e.t:Int)<12:=by omega
       have CA:(j:Int)<((F m).length:Int):=by omega
       obtain⟨kdt,fdt⟩:=hS.q.kd e.t Bh;obtain⟨kdm,fdm⟩:=hS.q.kd m hm;obtain⟨p0,p1,p2⟩:=hS.q.kp e.t Bh;have hkm:s.d.getD m (-1)=kk:=hM.out.kn;rw[hkm]at kdm;have HS:=lz hS;have HM:=lz hM;clear hS hM iU NA hce pE hmx he Xg hkm;have aUe:0<=kk:=HM.out.k0;have Hql:Hid (s.q.length<=1000):=lz (by
        have h0:aQ.Ui E 12 src m kk [] ⟨d,p,q⟩:=by
         have:=I5 HR.out.2.1
         rwa[<-Hkk.out]at this
        have h1:s.left=aQ.left ⟨d,p,q⟩:=by
         rw[Hs.out];exact aQ.qd _ [] _ h0 (λe' jm=>by
          have h2:=List.mem_of_mem_take jm;rw[HF.out m hm]at h2;have h3:=JJ.1 h2;exact⟨h3.1,by simpa using h3.2,(hE _ h3.1).1⟩)
        have h4:s.left=s.q.length+s.d.countP (λx=>decide (x<0)):=rfl;have h5:aQ.left ⟨d,p,q⟩+1=aQ.left ⟨d,p,m :: q⟩:=by
         show q.length+_+1=(m :: q).length+_;simp;omega
        have h6:=HR.out.2.2.1;have h7:=HR.out.2.2.2;omega)
       have aUg:kk<=12:=Hkk.out▸aQ.tX HR.out.2.1 oz m;go_wp2_with fail;have Xh:ah (wr.alloc (.cells #[.int .i64 m,.int .i64 e.t,.int .i64 e.l] 107)) wr.heap.size 107 #[.int .i64 m,.int .i64 e.t,.int .i64 e.l]:=ah.new wr _ _;have hS1:=HS.out.below (W':=(wr.alloc (.cells #[.int .i64 m,.int .i64 e.t,.int .i64 e.l] 107)).drew) (bN).drew;obtain⟨W1,hW1⟩:=ez (wr.alloc (.cells #[.int .i64 m,.int .i64 e.t,.int .i64 e.l] 107));rw[<-hW1]at Xh hS1 ⊢;have KD:W1.heap.size=wr.heap.size+1:=by rw[hW1];simp
       obtain⟨eb,Uo⟩:=ez wr.heap.size;rw[<-Uo]at Xh KD ⊢;have sE:=lz hS1;have aEz:=lz Xh;have KE:=lz hW1;have Heb:=lz Uo;have I7:=HS;obtain⟨p0,p1,p2⟩:=hS1.q.kp e.t Bh;obtain⟨o,ho⟩:=ez (s.p.getD e.t aI.zero);rw[<-ho]at p0 p1 p2;have Ho:=lz ho;clear ho;have aU:=Xh.cell 1;clear hS1 Xh hW1 Uo HS ce0 ce1 ce2 kdt fdt kdm fdm uT NC;refine aT (λW'=>W'.cell? ⟨eb,1,Ag⟩=Ai (.int .i64 e.t)/\W'.cell? ⟨b,15+e.t*3,Ag⟩=Ai (.int .i64 o.f)/\W'.cell? ⟨b,15+e.t*3+1,Ag⟩=Ai (.int .i64 o.t)/\W'.cell? ⟨b,15+e.t*3+2,Ag⟩=Ai (.int .i64 o.l)/\W'.cell? ⟨eb,1,Ag⟩=Ai (.int .i64 e.t)) 8 kz ⟨aU,p0,p1,p2,aU⟩ (λhHeld=> ?_);refine TS 0 rfl hHeld ?_;simp only[zP,zA,zB,zC];refine TS 1 rfl hHeld ?_;simp only[zP,zA,zB,zC];refine TS 2 rfl hHeld ?_;simp only[zP,zA,zB,zC];refine TS 3 rfl hHeld ?_;simp only[zP,zA,zB,zC];refine TS 4 rfl hHeld ?_;simp only[zP,zA,zB,zC];refine TS 5 rfl hHeld ?_;simp only[zP,zA,zB,zC];refine TS 6 rfl hHeld ?_;simp only[zP,zA,zB,zC];refine RQ 7 rfl λK hK=> ?_
       go_simp;have Xi:(W1.alloc (.cells #[.int .i64 0,.int .i64 0,.int .i64 0] 107)).drew.cell? ⟨eb,1,Ag⟩=Ai (.int .i64 e.t)/\(W1.alloc (.cells #[.int .i64 0,.int .i64 0,.int .i64 0] 107)).drew.cell? ⟨b,15+e.t*3,Ag⟩=Ai (.int .i64 o.f)/\(W1.alloc (.cells #[.int .i64 0,.int .i64 0,.int .i64 0] 107)).drew.cell? ⟨b,15+e.t*3+1,Ag⟩=Ai (.int .i64 o.t)/\(W1.alloc (.cells #[.int .i64 0,.int .i64 0,.int .i64 0] 107)).drew.cell? ⟨b,15+e.t*3+2,Ag⟩=Ai (.int .i64 o.l)/\(W1.alloc (.cells #[.int .i64 0,.int .i64 0,.int .i64 0] 107)).drew.cell? ⟨eb,1,Ag⟩=Ai (.int .i64 e.t):=by
        have jY:=sE.out.below (W':=(W1.alloc (.cells #[.int .i64 0,.int .i64 0,.int .i64 0] 107)).drew) ((BK _ W1.drew).alloc nL _);have aIo:ah (W1.alloc (.cells #[.int .i64 0,.int .i64 0,.int .i64 0] 107)).drew eb 107 #[.int .i64 m,.int .i64 e.t,.int .i64 e.l]:=(aEz.out.alloc _).drew;obtain⟨v0,v1,v2⟩:=jY.q.kp e.t Bh;rw[<-Ho.out]at v0 v1 v2;exact⟨aIo.cell 1,v0,v1,v2,aIo.cell 1⟩
       refine hK.out _ _ (λ_=>Xi) ?_;clear hK hHeld p0 p1 p2 aU Xi;refine RQ 8 rfl λK hK=> ?_
       go_simp;refine hK.out _ _ (λh=>absurd h dz) ?_;clear hK;refine aL kz ?_ _;obtain⟨W3,Bv⟩:=ez ((W1.alloc (.cells #[.int .i64 o.f,.int .i64 o.t,.int .i64 o.l] 107)).drew);have Pn:BD W1.drew.heap.size W1.drew W3:=by rw[Bv];exact((BK _ W1.drew).alloc nL _)
       have aE0:ah W3 (eb+1) 107 #[.int .i64 o.f,.int .i64 o.t,.int .i64 o.l]:=by
        have:=ah.new W1 107 #[.int .i64 o.f,.int .i64 o.t,.int .i64 o.l];rw[KD]at this;rw[Bv];exact this
       have aE1:ah W3 eb 107 #[.int .i64 m,.int .i64 e.t,.int .i64 e.l]:=by rw[Bv];exact(aEz.out.alloc _).drew
       have CD:=sE.out.below Pn;rw[<-Bv];have pP:=lz CD;have aBd:=lz aE1;have aIp:=lz aE0;obtain⟨kdt,fdt⟩:=CD.q.kd e.t Bh;obtain⟨dt,hdt⟩:=ez (s.d.getD e.t (-1));rw[<-hdt]at kdt;have Hdt:=lz hdt;have x1:=aE1.cell 1;have aUh:eb+1<W3.heap.size:=aE0.lt;clear Bv Pn aE0 aE1 CD sE aEz KD hdt;by_cases rG:dt<0
       .have hng:decide (dt<0)=true:=dT rG
        go_wp2_with fail;go_quiet (fail);go_wp2_with fail;obtain⟨V3,hV3⟩:=ez (W3.drewN nq);have Pn:BD W3.heap.size W3 V3:=by rw[hV3];exact aD (BK _ _)
        have kq:ah V3 eb 107 #[.int .i64 m,.int .i64 e.t,.int .i64 e.l]:=by rw[hV3];exact aBd.out
        rw[<-hV3];have vw:=(pP.out.below Pn).below (W':=V3.drew) (BK _ _).drew;have mF:ah V3.drew eb 107 #[.int .i64 m,.int .i64 e.t,.int .i64 e.l]:=kq;have hwk:IntKind.i64.wrap (kk+1)=kk+1:=Ih _ ⟨oz,oz⟩;clear hV3 Pn kq;have z1:=mF.cell 1;obtain⟨a1,a2⟩:=vw.q.kd e.t Bh;obtain⟨a3,_⟩:=vw.q.kd m hm;rw[show s.d.getD m (-1)=kk from HM.out.kn]at a3;have CF:yX w0 (V3.setCell ⟨b,3+e.t,Ag⟩ (.int .i64 (kk+1))).drew base b mb nm D vf F src n ⟨s.d.set e.t (kk+1),s.p,s.q⟩:=(show yX w0 (V3.drew.setCell ⟨b,3+e.t,Ag⟩ (.int .i64 (kk+1))) base b mb nm D vf F src n ⟨s.d.set e.t (kk+1),s.p,s.q⟩from vw.box (Gr.setCell (X:=(· =b)) _ _ _ rfl) (vw.q.WX e.t Bh (kk+1)));obtain⟨csb,aIq⟩:=vw.q.blk;have aIr:eb≠b:=mF.Fu aIq dz;have Hb5:Hid (ah (V3.setCell ⟨b,3+e.t,Ag⟩ (.int .i64 (kk+1))).drew eb 107 #[.int .i64 m,.int .i64 e.t,.int .i64 e.l]):=lz (show ah (V3.drew.setCell ⟨b,3+e.t,Ag⟩ (.int .i64 (kk+1))) eb _ _ from mF.far aIr _);have qu:=lz CF;clear vw mF CF aIq x1 kdt fdt pP aBd;refine aT (λW'=>W'.cell? ⟨eb,1,Ag⟩=Ai (.int .i64 e.t)/\W'.cell? ⟨b,3+m,Ag⟩=Ai (.int .i64 kk)) 13 kz ⟨z1,a3⟩ (λhHeld=> ?_);refine TS 0 rfl hHeld ?_;simp only[zP,zA,zB,zC];refine TS 1 rfl hHeld ?_;simp only[zP,zA,zB,zC];refine TS 2 rfl hHeld ?_;simp only[zP,zA,zB,zC];refine TS 3 rfl hHeld ?_;simp only[zP,zA,zB,zC];refine TS 4 rfl hHeld ?_;simp only[zP,zA,zB,zC];refine TS 5 rfl hHeld ?_;simp only[zP,zA,zB,zC];refine TS 6 rfl hHeld ?_;simp only[zP,zA,zB,zC];refine TS 7 rfl hHeld ?_;simp only[zP,zA,zB,zC];refine TS 8 rfl hHeld ?_;simp only[zP,zA,zB,zC];refine TS 9 rfl hHeld ?_;simp only[zP,zA,zB,zC];refine TS 10 rfl hHeld ?_;simp only[zP,zA,zB,zC];refine TS 11 rfl hHeld ?_;simp only[zP,zA,zB,zC];refine TS 12 rfl hHeld ?_;simp only[zP,zA,zB,zC];refine RQ 13 rfl λK hK=> ?_
        go_simp;refine hK.out _ _ (λh=>absurd h dz) ?_;clear hK hHeld;refine aL kz ?_ _;obtain⟨W5,Xj⟩:=ez ((V3.setCell ⟨b,3+e.t,Ag⟩ (.int .i64 (kk+1))).drew);rw[<-Xj]at qu Hb5 ⊢;clear Xj z1 a1 a2 a3;have nN:=lz (qu.out.below (W':=W5.drew) (BK _ _).drew);have rz:ah W5.drew eb 107 #[.int .i64 m,.int .i64 e.t,.int .i64 e.l]:=Hb5.out;have z1:=rz.cell 1;have Hb6:=lz rz;clear qu Hb5 rz;go_wp2_with fail;refine aT (λW'=>W'.cell? ⟨eb,1,Ag⟩=Ai (.int .i64 e.t)) 5 kz z1 (λhHeld=> ?_);refine TS 0 rfl hHeld ?_;simp only[zP,zA,zB,zC];refine TS 1 rfl hHeld ?_;simp only[zP,zA,zB,zC];refine TS 2 rfl hHeld ?_;simp only[zP,zA,zB,zC];refine TS 3 rfl hHeld ?_;simp only[zP,zA,zB,zC];refine TS 4 rfl hHeld ?_;simp only[zP,zA,zB,zC];refine RQ 5 rfl λK hK=> ?_
        go_simp;refine(Xa e.t _ nN.out.q ?Fz nN.out.sz).mono ?_
        case Fz=>
         show s.q.length<=1000;exact Hql.out
        rintro e' W7 ⟨⟨v7,rfl⟩,hq7,Vv⟩;refine hK.out _ _ (λh=>absurd h dz) ?_;clear hK hHeld;refine aL kz ?_ _;have Dr:yX w0 W7 base b mb nm D vf F src n ⟨s.d.set e.t (kk+1),s.p,s.q++ [e.t]⟩:=nN.out.push Vv hq7;have Nk:ah W7 eb 107 #[.int .i64 m,.int .i64 e.t,.int .i64 e.l]:=Vv.blk Hb6.out (by
         rintro(c | ⟨_,ds,hd⟩)
         .exact aIr c
         .exact Hb6.out.Fu hd dz rfl)
        have Po:=lz Dr;have Hb7:=lz Nk;clear Dr Nk hq7 Vv nN Hb6 z1;have FN:=Po.out.below (W':=W7.drew) (BK _ _).drew;have Mi:ah W7.drew eb 107 #[.int .i64 m,.int .i64 e.t,.int .i64 e.l]:=Hb7.out;obtain⟨v0,v1,v2⟩:=FN.q.kp e.t Bh;have u0:=FN.q.kfp e.t 0;have u1:=FN.q.kfp e.t 1;have u2:=FN.q.kfp e.t 2;rw[Nat.add_zero]at u0;obtain⟨_,t1,t2⟩:=Po.out.q.kp e.t Bh;have t3:=Po.out.q.kfp e.t 1;have t4:=Po.out.q.kfp e.t 2;have z0:=Mi.cell 0;have z1:=Mi.cell 1;have z2:=Mi.cell 2;have Vp:yX w0 (((W7.setCell ⟨b,15+e.t*3,Ag⟩ (.int .i64 m)).setCell ⟨b,15+e.t*3+1,Ag⟩ (.int .i64 e.t)).setCell ⟨b,15+e.t*3+2,Ag⟩ (.int .i64 e.l)).drew base b mb nm D vf F src n ⟨s.d.set e.t (kk+1),s.p.set e.t e,s.q++ [e.t]⟩:=by
         have g1:Gr (· =b) W7.drew (((W7.drew.setCell ⟨b,15+e.t*3,Ag⟩ (.int .i64 e.f)).setCell ⟨b,15+e.t*3+1,Ag⟩ (.int .i64 e.t)).setCell ⟨b,15+e.t*3+2,Ag⟩ (.int .i64 e.l)):=
          ((Gr.setCell (X:=(· =b)) _ _ _ rfl).trans (Gr.setCell (X:=(· =b)) _ _ _ rfl)).trans (Gr.setCell (X:=(· =b)) _ _ _ rfl)
         have:=FN.box (s':=⟨s.d.set e.t (kk+1),s.p.set e.t e,s.q++ [e.t]⟩) g1 (FN.q.aBX e.t Bh e);rw[KC]at this;exact this
        have HS9:=lz Vp;clear FN Mi Vp;go_wp2_with fail;refine aT (λW'=>W'.cell? ⟨eb,0,Ag⟩=Ai (.int .i64 m)/\W'.cell? ⟨eb,1,Ag⟩=Ai (.int .i64 e.t)/\W'.cell? ⟨eb,2,Ag⟩=Ai (.int .i64 e.l)) 7 kz ⟨z0,z1,z2⟩ (λhHeld=> ?_);refine TS 0 rfl hHeld ?_;simp only[zP,zA,zB,zC];refine TS 1 rfl hHeld ?_;simp only[zP,zA,zB,zC];refine TS 2 rfl hHeld ?_;simp only[zP,zA,zB,zC];refine TS 3 rfl hHeld ?_;simp only[zP,zA,zB,zC];refine TS 4 rfl hHeld ?_;simp only[zP,zA,zB,zC];refine TS 5 rfl hHeld ?_;simp only[zP,zA,zB,zC];refine TS 6 rfl hHeld ?_;simp only[zP,zA,zB,zC];refine RQ 7 rfl λK hK=> ?_
        go_simp;refine hK.out _ _ (λh=>absurd h dz) ?_;clear hK hHeld;refine aL kz ?_ _;obtain⟨W9,hW9⟩:=ez ((((W7.setCell ⟨b,15+e.t*3,Ag⟩ (.int .i64 m)).setCell ⟨b,15+e.t*3+1,Ag⟩ (.int .i64 e.t)).setCell ⟨b,15+e.t*3+2,Ag⟩ (.int .i64 e.l)).drew);rw[<-hW9]at HS9 ⊢;clear hW9 v0 v1 v2 u0 u1 u2 z0 z1 z2 t1 t2 t3 t4;have hrel:s.relax kk e=⟨s.d.set e.t (kk+1),s.p.set e.t e,s.q++ [e.t]⟩:=by unfold aQ.relax;rw[if_pos (show s.at e.t<0 from by rw[show s.at e.t=dt from Hdt.out.symm];exact rG)]
        have HE:=lz hrel;clear hrel;go_wp2;go_roundw
        case rel=>
         refine⟨j+1,oz,by go_num,?_,?_⟩
         .rw[lg.out.1];exact lz lg.out.2
         .rw[lg.out.1,HE.out];exact HS9.out
        case measure=>simp[E8];omega
       .have hng:decide (dt<0)=false:=dF rG
        go_wp2_with fail;go_quiet (fail);go_wp2_with fail;obtain⟨V3,hV3⟩:=ez (W3.drewN nq);have Pn:BD W3.heap.size W3 V3:=by rw[hV3];exact aD (BK _ _)
        have kq:ah V3 eb 107 #[.int .i64 m,.int .i64 e.t,.int .i64 e.l]:=by rw[hV3];exact aBd.out
        have ho3:ah V3 (eb+1) 107 #[.int .i64 o.f,.int .i64 o.t,.int .i64 o.l]:=by rw[hV3];exact aIp.out
        rw[<-hV3];have sD:=lz (pP.out.below Pn);have Hb4:=lz kq;have Ho4:=lz ho3;have hwk:IntKind.i64.wrap (kk+1)=kk+1:=Ih _ ⟨oz,oz⟩;obtain⟨a1,_⟩:=sD.out.q.kd e.t Bh;obtain⟨a3,_⟩:=sD.out.q.kd m hm;rw[show s.d.getD m (-1)=kk from HM.out.kn]at a3;rw[<-Hdt.out]at a1;have z0:=kq.cell 0;have z1:=kq.cell 1;have z2:=kq.cell 2;have o0:=ho3.cell 0;have o2:=ho3.cell 2;clear hV3 Pn kq ho3 pP aBd aIp kdt fdt x1;by_cases Cq:dt=kk+1
        .have hne:(dt !=kk+1)=false:=by simpa using Cq
         obtain⟨e',jm,aOC,_,_,hp'⟩:=HM.out.pos e.t (by rw[show s.at e.t=dt from Hdt.out.symm];omega);have hoe:o=e':=by rw[Ho.out,E1,hp'];rfl
         obtain⟨_,hof,hol⟩:=hE e' jm;obtain⟨_,_,hel⟩:=hE e Hee.out;rw[<-hoe]at hof hol;have cN:IntKind.i64.wrap ((m:Int)-o.f)=(m:Int)-o.f:=Ih _ ⟨oz,oz⟩;have hw2:IntKind.i64.wrap ((e.l:Int)-o.l)=(e.l:Int)-o.l:=Ih _ ⟨oz,oz⟩;have hor:=aBb (e:=e) (o:=o) oz oz;rw[KC]at hor;have Vw:Hid (s.at e.t=kk+1):=lz (by rw[show s.at e.t=dt from Hdt.out.symm];exact Cq);have Hor:=lz hor;have aIs:Hid (s.p.getD e.t aI.zero=o):=lz Ho.out.symm;clear hp' hoe jm aOC hor Cq;refine aT (λW'=>W'.cell? ⟨eb,0,Ag⟩=Ai (.int .i64 m)/\W'.cell? ⟨eb,1,Ag⟩=Ai (.int .i64 e.t)/\W'.cell? ⟨eb,2,Ag⟩=Ai (.int .i64 e.l)/\W'.cell? ⟨eb+1,0,Ag⟩=Ai (.int .i64 o.f)/\W'.cell? ⟨eb+1,2,Ag⟩=Ai (.int .i64 o.l)/\W'.cell? ⟨b,3+e.t,Ag⟩=Ai (.int .i64 dt)/\W'.cell? ⟨b,3+m,Ag⟩=Ai (.int .i64 kk)) 30 kz ⟨z0,z1,z2,o0,o2,a1,a3⟩ (λhHeld=> ?_);refine TS 0 rfl hHeld ?_;simp only[zP,zA,zB,zC];refine TS 1 rfl hHeld ?_;simp only[zP,zA,zB,zC];refine TS 2 rfl hHeld ?_;simp only[zP,zA,zB,zC];refine TS 3 rfl hHeld ?_;simp only[zP,zA,zB,zC];refine TS 4 rfl hHeld ?_;simp only[zP,zA,zB,zC];refine TS 5 rfl hHeld ?_;simp only[zP,zA,zB,zC];refine TS 6 rfl hHeld ?_;simp only[zP,zA,zB,zC];refine TS 7 rfl hHeld ?_;simp only[zP,zA,zB,zC];refine TS 8 rfl hHeld ?_;simp only[zP,zA,zB,zC];refine TS 9 rfl hHeld ?_;simp only[zP,zA,zB,zC];refine TS 10 rfl hHeld ?_;simp only[zP,zA,zB,zC];refine TS 11 rfl hHeld ?_;simp only[zP,zA,zB,zC];refine TS 12 rfl hHeld ?_;simp only[zP,zA,zB,zC];refine TS 13 rfl hHeld ?_;simp only[zP,zA,zB,zC];refine TS 14 rfl hHeld ?_;simp only[zP,zA,zB,zC];refine TS 15 rfl hHeld ?_;simp only[zP,zA,zB,zC];refine TS 16 rfl hHeld ?_ (hx:=by kernel_rfl);simp only[zP,zA,zB,zC];refine TS 17 rfl hHeld ?_ (hx:=by kernel_rfl);simp only[zP,zA,zB,zC];refine TS 18 rfl hHeld ?_ (hx:=by kernel_rfl);simp only[zP,zA,zB,zC];refine TS 19 rfl hHeld ?_ (hx:=by kernel_rfl);simp only[zP,zA,zB,zC];refine TS 20 rfl hHeld ?_ (hx:=by kernel_rfl);simp only[zP,zA,zB,zC];refine TS 21 rfl hHeld ?_ (hx:=by kernel_rfl);simp only[zP,zA,zB,zC];refine TS 22 rfl hHeld ?_ (hx:=by kernel_rfl);simp only[zP,zA,zB,zC];refine TS 23 rfl hHeld ?_ (hx:=by kernel_rfl);simp only[zP,zA,zB,zC];refine TS 24 rfl hHeld ?_ (hx:=by kernel_rfl);simp only[zP,zA,zB,zC];refine TS 25 rfl hHeld ?_ (hx:=by kernel_rfl);simp only[zP,zA,zB,zC];refine RQ 26 rfl λK hK=> ?_
         go_simp;obtain⟨W4,Ql⟩:=ez ((V3.alloc (.cells #[.int .i64 ((m:Int)-o.f),.int .i64 ((e.l:Int)-o.l)] 3)).drew);have Mj:BD V3.heap.size V3 W4:=by rw[Ql];exact(bN).drew
         have fK:fV W4 W4.heap.size (Ai ⟨V3.heap.size,0,Ag⟩) [(m:Int)-o.f,(e.l:Int)-o.l]:=by
          intro _;have hn:=ah.new V3 3 #[.int .i64 ((m:Int)-o.f),.int .i64 ((e.l:Int)-o.l)];refine⟨V3.heap.size,0,rfl,by rw[Ql];exact hn.lt,λq hq=> ?_⟩;rw[Ql]
          match q,hq with
          | 0,_=>exact hn.cell 0
          | 1,_=>exact hn.cell 1
         have hor:=Sm ((m:Int)-o.f) ((e.l:Int)-o.l) _ 2 W4 fK nL;have CF:=sD.out.below Mj;have jU:=Hb4.out.below Mj Hb4.out.lt;have ho5:=Ho4.out.below Mj Ho4.out.lt;obtain⟨c1,_⟩:=CF.q.kd e.t Bh;obtain⟨c3,_⟩:=CF.q.kd m hm;rw[show s.d.getD m (-1)=kk from HM.out.kn]at c3;rw[<-Hdt.out]at c1;have tq:W4.cell? ⟨eb,0,Ag⟩=Ai (.int .i64 m)/\W4.cell? ⟨eb,1,Ag⟩=Ai (.int .i64 e.t)/\W4.cell? ⟨eb,2,Ag⟩=Ai (.int .i64 e.l)/\W4.cell? ⟨eb+1,0,Ag⟩=Ai (.int .i64 o.f)/\W4.cell? ⟨eb+1,2,Ag⟩=Ai (.int .i64 o.l)/\W4.cell? ⟨b,3+e.t,Ag⟩=Ai (.int .i64 dt)/\W4.cell? ⟨b,3+m,Ag⟩=Ai (.int .i64 kk):=⟨jU.cell 0,jU.cell 1,jU.cell 2,ho5.cell 0,ho5.cell 2,c1,c3⟩;have qu:=lz CF;have Hb5:=lz jU;have HC:=lz hor;rw[<-Ql];clear Ql Mj fK hor CF jU ho5 c1 c3 z0 z1 z2 o0 o2 a1 a3 sD Hb4 Ho4;refine hK.out _ _ (λ_=>tq) ?_;clear hK hHeld;refine RQ 27 rfl λK hK=> ?_
         go_simp;refine HC.out.mono ?_;rintro e'' W6 ⟨rfl,rfl⟩;refine hK.out _ _ (λ_=>tq) ?_;clear hK HC
         cases hl:e.less o with
         | false=>
          have hor:decide (orV ((m:Int)-o.f) ((e.l:Int)-o.l)>=0)=true:=by rw[Hor.out,hl];rfl
          refine TS 28 rfl tq ?_ (hx:=by kernel_rfl);simp only[zP,zA,zB,zC];refine TS 29 rfl tq ?_ (hx:=by kernel_rfl);simp only[zP,zA,zB,zC];refine RQ 30 rfl λK hK=> ?_
          go_simp;refine hK.out _ _ (λh=>absurd h dz) ?_;clear hK tq;refine aL kz ?_ _;have hrel:s.relax kk e=s:=by unfold aQ.relax;rw[if_neg (show¬s.at e.t<0 from by rw[Vw.out];omega),if_pos (.inr (by rw[aIs.out];exact hl))]
          have HE:=lz hrel;clear hrel;go_wp2;go_roundw
          case rel=>
           refine⟨j+1,oz,by go_num,?_,?_⟩
           .rw[lg.out.1];exact lz lg.out.2
           .rw[lg.out.1,HE.out];exact qu.out
          case measure=>simp[E8];omega
         | true=>
          have hor:decide (orV ((m:Int)-o.f) ((e.l:Int)-o.l)>=0)=false:=by rw[Hor.out,hl];rfl
          refine TS 28 rfl tq ?_ (hx:=by kernel_rfl);simp only[zP,zA,zB,zC];refine TS 29 rfl tq ?_ (hx:=by kernel_rfl);simp only[zP,zA,zB,zC];refine RQ 30 rfl λK hK=> ?_
          go_simp;refine hK.out _ _ (λh=>absurd h dz) ?_;clear hK tq;refine aL kz ?_ _;go_wp2_with fail;have FN:=qu.out.below (W':=W6.drew) (BK _ _).drew;have Mi:ah W6.drew eb 107 #[.int .i64 m,.int .i64 e.t,.int .i64 e.l]:=Hb5.out;obtain⟨v0,v1,v2⟩:=FN.q.kp e.t Bh;have u0:=FN.q.kfp e.t 0;have u1:=FN.q.kfp e.t 1;have u2:=FN.q.kfp e.t 2;rw[Nat.add_zero]at u0;obtain⟨_,t1,t2⟩:=qu.out.q.kp e.t Bh;have t3:=qu.out.q.kfp e.t 1;have t4:=qu.out.q.kfp e.t 2;have z0:=Mi.cell 0;have z1:=Mi.cell 1;have z2:=Mi.cell 2;have Vp:yX w0 (((W6.setCell ⟨b,15+e.t*3,Ag⟩ (.int .i64 m)).setCell ⟨b,15+e.t*3+1,Ag⟩ (.int .i64 e.t)).setCell ⟨b,15+e.t*3+2,Ag⟩ (.int .i64 e.l)).drew base b mb nm D vf F src n ⟨s.d,s.p.set e.t e,s.q⟩:=by
           have g1:Gr (· =b) W6.drew (((W6.drew.setCell ⟨b,15+e.t*3,Ag⟩ (.int .i64 e.f)).setCell ⟨b,15+e.t*3+1,Ag⟩ (.int .i64 e.t)).setCell ⟨b,15+e.t*3+2,Ag⟩ (.int .i64 e.l)):=
            ((Gr.setCell (X:=(· =b)) _ _ _ rfl).trans (Gr.setCell (X:=(· =b)) _ _ _ rfl)).trans (Gr.setCell (X:=(· =b)) _ _ _ rfl)
           have:=FN.box (s':=⟨s.d,s.p.set e.t e,s.q⟩) g1 (FN.q.aBX e.t Bh e);rw[KC]at this;exact this
          have HS9:=lz Vp;clear FN Mi Vp;refine aT (λW'=>W'.cell? ⟨eb,0,Ag⟩=Ai (.int .i64 m)/\W'.cell? ⟨eb,1,Ag⟩=Ai (.int .i64 e.t)/\W'.cell? ⟨eb,2,Ag⟩=Ai (.int .i64 e.l)) 7 kz ⟨z0,z1,z2⟩ (λhHeld=> ?_);refine TS 0 rfl hHeld ?_;simp only[zP,zA,zB,zC];refine TS 1 rfl hHeld ?_;simp only[zP,zA,zB,zC];refine TS 2 rfl hHeld ?_;simp only[zP,zA,zB,zC];refine TS 3 rfl hHeld ?_;simp only[zP,zA,zB,zC];refine TS 4 rfl hHeld ?_;simp only[zP,zA,zB,zC];refine TS 5 rfl hHeld ?_;simp only[zP,zA,zB,zC];refine TS 6 rfl hHeld ?_;simp only[zP,zA,zB,zC];refine RQ 7 rfl λK hK=> ?_
          go_simp;refine hK.out _ _ (λh=>absurd h dz) ?_;clear hK hHeld;refine aL kz ?_ _;obtain⟨W9,hW9⟩:=ez ((((W6.setCell ⟨b,15+e.t*3,Ag⟩ (.int .i64 m)).setCell ⟨b,15+e.t*3+1,Ag⟩ (.int .i64 e.t)).setCell ⟨b,15+e.t*3+2,Ag⟩ (.int .i64 e.l)).drew);rw[<-hW9]at HS9 ⊢;clear hW9 v0 v1 v2 u0 u1 u2 z0 z1 z2 t1 t2 t3 t4;have hrel:s.relax kk e=⟨s.d,s.p.set e.t e,s.q⟩:=by unfold aQ.relax;rw[if_neg (show¬s.at e.t<0 from by rw[Vw.out];omega),if_neg (by rintro(c | c);exact c Vw.out;rw[aIs.out,hl]at c;cases c)]
          have HE:=lz hrel;clear hrel;go_wp2;go_roundw
          case rel=>
           refine⟨j+1,oz,by go_num,?_,?_⟩
           .rw[lg.out.1];exact lz lg.out.2
           .rw[lg.out.1,HE.out];exact HS9.out
          case measure=>simp[E8];omega
        .have hne:(dt !=kk+1)=true:=by simpa using Cq
         go_quiet (fail);go_wp2_with fail;have HS9:=lz (sD.out.below (W':=V3.drewN nq) (aD (BK _ _)));have hrel:s.relax kk e=s:=by unfold aQ.relax;rw[if_neg (show¬s.at e.t<0 from by rw[show s.at e.t=dt from Hdt.out.symm];omega),if_pos (.inl (by rw[show s.at e.t=dt from Hdt.out.symm];exact Cq))]
         have HE:=lz hrel;clear hrel;go_roundw
         case rel=>
          refine⟨j+1,oz,by go_num,?_,?_⟩
          .rw[lg.out.1];exact lz lg.out.2
          .rw[lg.out.1,HE.out];exact HS9.out
         case measure=>simp[E8];omega
      .obtain rfl:j=(F m).length:=by omega
       rw[List.take_length]at Hs hM;have hFm:F m=Ph E m:=HF.out m hm;have MQ:aQ.step E m ⟨d,p,q⟩=s:=by
        rw[Hs.out];unfold aQ.step;rw[hFm,Hkk.out]
       have aE5:=aQ.IQ (λe he=>(hE e he).1) HR.out.2.1;have aE6:=aQ.Eb (λe he=>(hE e he).1) HR.out.2.1;rw[MQ]at aE5 aE6;have hrun:aQ.run E f s=bfs E 12 src:=by
        have:=HR.out.1;rw[show aQ.run E (f+1) ⟨d,p,m :: q⟩=aQ.run E f (aQ.step E m ⟨d,p,q⟩)from rfl,MQ]at this;exact this
       have hlf:s.left<=f:=by have:=HR.out.2.2.1;omega
       have Xe:f<=13:=by have:=HR.out.2.2.2;omega
       have HN:=lz (ai hrun (ai aE6 (ai hlf Xe)));have aOE:=lz aE5;have HS:=lz hS;clear hS hM Hs hFm MQ aE5 aE6 hrun hlf Xe HR;go_wp2_with fail;refine(aDZ _ HS.out.q ?hq).mono ?_
       case hq=>
        have h1:s.left=s.q.length+s.d.countP (λx=>decide (x<0)):=rfl;have h2:=HN.out.2.2;omega
       rintro e W4 ⟨rfl,hq4,Xd⟩;have vw:yX w0 W4 base b mb nm D vf F src n ⟨s.d,s.p,s.q.tail⟩:=HS.out.box Xd hq4;have Xk:=I4 (m:= .bool (!s.q.isEmpty)) vw;have sD:=lz vw;have Hl4:=lz Xk;rw[I3];clear vw hq4 Xd HS Xk;go_wp2;go_roundw
       case rel=>exact⟨f,s,rfl,rfl,HN,sD.out⟩
       case measure=>
        rw[Hl4.out,aIj.out];have h0:=aOE.out;have h1:s.left=s.q.length+s.d.countP (λx=>decide (x<0)):=rfl;have h2:aQ.left ⟨d,p,m :: q⟩=q.length+1+d.countP (λx=>decide (x<0)):=rfl;have h3:s.q.tail.length+(match (Value.bool (!s.q.isEmpty))with | .bool true=>1 | _=>0)=s.q.length:=by cases s.q<;>rfl
        show _+_+_<_+q.length+1;omega
end
def tmP(p:aC)(x:cT):Bool:=(x.pe.tmod p.pe==0)&&(x.pe==0||decide (x.li<=x.pe))
theorem Xl(p:aC)(x:cT)(Bp:Nat)(w:Al)(hr:x.rd w w.heap.size)(Ea:ah w Bp 71 #[.string p.nm,.int .i64 p.pe,.int .i64 p.le,.int .i64 p.mem,.slice p.aG.a p.aG.l.length p.aG.c,.int .i64 p.ev,.int .i64 p.bo,.slice p.aX.a p.aX.l.length p.aX.c,.slice p.aq.a p.aq.l.length p.aq.c,.slice p.procs.a p.procs.l.length p.procs.c])(hp:¬p.pe=0):CU 82 #[x.val,.pointer (Ai ⟨Bp,0,Ag⟩)] w (.bool (tmP p x)):=by
 obtain⟨y0,dV,aV,Hf,jH,qU,kk⟩:=gJ w 76 #[.string x.nm,.int .i64 x.pr,.int .i64 x.pe,.int .i64 x.li,.slice x.code.a x.code.l.length x.code.c];obtain⟨k0,k1,k2,k3,k4⟩:=cT.kl kk;have Kx:=xX dV aV Ea;have lZ:=(Ea.alloc (.cells #[.string x.nm,.int .i64 x.pr,.int .i64 x.pe,.int .i64 x.li,.slice x.code.a x.code.l.length x.code.c] 76)).cell 0;have aRX:=(Ea.alloc (.cells #[.string x.nm,.int .i64 x.pr,.int .i64 x.pe,.int .i64 x.li,.slice x.code.a x.code.l.length x.code.c] 76)).cell 1;have aRY:=(Ea.alloc (.cells #[.string x.nm,.int .i64 x.pr,.int .i64 x.pe,.int .i64 x.li,.slice x.code.a x.code.l.length x.code.c] 76)).cell 2;have aRZ:=(Ea.alloc (.cells #[.string x.nm,.int .i64 x.pr,.int .i64 x.pe,.int .i64 x.li,.slice x.code.a x.code.l.length x.code.c] 76)).cell 3;have aRa:=(Ea.alloc (.cells #[.string x.nm,.int .i64 x.pr,.int .i64 x.pe,.int .i64 x.li,.slice x.code.a x.code.l.length x.code.c] 76)).cell 4;have aRb:=(Ea.alloc (.cells #[.string x.nm,.int .i64 x.pr,.int .i64 x.pe,.int .i64 x.li,.slice x.code.a x.code.l.length x.code.c] 76)).cell 5;have aRc:=(Ea.alloc (.cells #[.string x.nm,.int .i64 x.pr,.int .i64 x.pe,.int .i64 x.li,.slice x.code.a x.code.l.length x.code.c] 76)).cell 6;have aRd:=(Ea.alloc (.cells #[.string x.nm,.int .i64 x.pr,.int .i64 x.pe,.int .i64 x.li,.slice x.code.a x.code.l.length x.code.c] 76)).cell 7;have aRe:=(Ea.alloc (.cells #[.string x.nm,.int .i64 x.pr,.int .i64 x.pe,.int .i64 x.li,.slice x.code.a x.code.l.length x.code.c] 76)).cell 8;have aRf:=(Ea.alloc (.cells #[.string x.nm,.int .i64 x.pr,.int .i64 x.pe,.int .i64 x.li,.slice x.code.a x.code.l.length x.code.c] 76)).cell 9;have aNx:=Ea.lt;have HF:=lz (show tmP p x=((x.pe.tmod p.pe==0)&&(x.pe==0||decide (x.li<=x.pe)))from rfl);have HR:=lz hr;clear kk hr Ea;go_enter func82,ntmps82
 cases a1:(x.pe.tmod p.pe==0)with
 | false=>
  rw[a1]at HF;exact e0
 | true=>
  rw[a1]at HF
  cases a2:(x.pe==0)with
  | false=>
   rw[a2]at HF
   cases a3:decide (x.li<=x.pe)with
   | false=>
    rw[a3]at HF;exact e0
   | true=>
    rw[a3]at HF;exact e0
  | true=>
   rw[a2]at HF;exact e0
def qG{α:Type}(p:α->Bool)(T:List α)(b:Bool):Prop:=T.all p=b
def Bw(y:WM):Bool:=(y.1.fr.tmod y.2.pe==0)&&(decide (y.2.le<=y.2.pe)&&y.2.procs.l.all (tmP y.2))
def KG(x:ay):Bool:=(fE x).all Bw
theorem KH{x:ay}{w:Al}{B:Nat}(h:x.rd w B){y:WM}(hy:y∈fE x):y.1.rd w B/\y.2.rd w B:=by
 unfold fE at hy;obtain⟨m,hm,hy⟩:=List.mem_flatMap.1 hy;obtain⟨p,hp,rfl⟩:=GR.1 hy;obtain⟨i,hi,rfl⟩:=List.mem_iff_getElem.1 hm;obtain⟨b,o,_,_,hc⟩:=h.mods oz;have Gg:=(hc i hi).2.2.2.2;obtain⟨j,hj,rfl⟩:=List.mem_iff_getElem.1 hp;obtain⟨b2,o2,_,_,qc⟩:=Gg.parts oz;exact⟨Gg,(qc j hj).2.2.2.2.2.2.2.2.2.2⟩
theorem yd{α:Type}(p:α->Bool)(l:List α)(x:α):(l++ [x]).all p=(l.all p&&p x):=by simp
theorem pW{α:Type}{p:α->Bool}{l k:List α}(h:l <+: k)(hn:l.all p=Bj):k.all p=false:=by
 obtain⟨t,rfl⟩:=h;rw[List.all_append,hn];rfl
theorem CW{α:Type}{l k:List α}{x:α}(h:l++ [x] <+: k):x∈k:=h.subset qz
theorem aBf(x:ay)(g:Nat)(w:Al)(h:tU w g x)(hr:x.rd w w.heap.size)(hpe:∀y∈fE x,¬y.2.pe=0):CU 25 #[.pointer (Ai ⟨g,0,Ag⟩)] w (.bool (KG x)):=by
 obtain⟨w1,cN⟩:=ez ((w.alloc (.cells #[.bool Bj] 4)).alloc (.cells #[.pointer (Ai ⟨g,0,Ag⟩)] 92));have aU:BD w.heap.size w w1:=by rw[cN];exact(bN).alloc qz _
 have jy:ah w1 w.heap.size 4 #[.bool Bj]:=by rw[cN];exact(ah.new w _ _).alloc _
 have gP:ah w1 (w.heap.size+1) 92 #[.pointer (Ai ⟨g,0,Ag⟩)]:=by rw[cN];have:=ah.new (w.alloc (.cells #[.bool Bj] 4)) 92 #[.pointer (Ai ⟨g,0,Ag⟩)];rwa[World.size_alloc]at this
 have hz:w1.heap.size=w.heap.size+2:=by rw[cN];simp
 have gH:D6 w1 g (w.heap.size+1) w.heap.size x:=⟨gP,h.below aU,hr.dn nL (cZ aU),oz⟩;have IK:x.mods.l.length<=9223372036854775807:=nT hr.AU (nT hr.AV dz);have um:=lz (CQ x g (w.heap.size+1) w.heap.size (λ_=>False) w1 (λ_ h=>h.elim) (λ_ h=>h.elim) gH IK);have wu:=ah.lt h;have Mk:=lz gH;have lH:=lz cN;have gh:=lz aU;have rT:=lz jy;have Hz:=lz hz;have Hpe:=lz hpe;clear h hr cN aU jy gP hz gH hpe;refine(callsIn_wide (n:=9)).1 ?_;refine callsIn_of_wp_marks func25 rfl trivial ?_ rfl;simp only[ntmps25,List.size_toArray,Ia,List.length_nil,Nat.reduceAdd,Nat.reduceSub,Array.replicate_succ,Array.replicate_zero,List.push_toArray,List.append_toArray,GY,List.cons_append];refine wpIn_wide.2 ?_;go_wp2_with (go_at_call 70;refine(CX _ _).mono ?_;rintro e w' ⟨rfl,hw'⟩);rw[<-lH.out];clear hw';refine(wpIn_wide (n:=9)).1 ?_;have hz1:w.heap.size+2<=w1.heap.size:=Nat.le_of_eq Hz.out.symm;have Xm:w1.heap.size<=w.heap.size+2:=Nat.le_of_eq Hz.out;refine tQ (gf:=151) (lb:= #[.pointer (Ai ⟨w.heap.size+1,0,Ag⟩)]) (encs:=II) (xs:=fE x) (X:=λ_=>False) (XE:=λk=>k=w.heap.size) rfl (enters_of func151 kz rfl) (λ_=>rfl) (λ_ h=>h.elim) (λk e=>by omega) um.out
  (λT W=>BD w1.heap.size w1 W/\qG Bw T BR)
  (λT W=>ah W w.heap.size 4 #[.bool Bj]/\BD w.heap.size w W/\qG Bw T Bj) ?hI ?RU ?TG
  (λy a' W=>∃m p Bm Bp,y=(m,p)/\w1.heap.size<=Bm/\w1.heap.size<=Bp/\ah W Bm 67 #[.string m.nm,.int .i64 m.mem,.int .i64 m.fr,.slice m.parts.a m.parts.l.length m.parts.c]/\ah W Bp 71 #[.string p.nm,.int .i64 p.pe,.int .i64 p.le,.int .i64 p.mem,.slice p.aG.a p.aG.l.length p.aG.c,.int .i64 p.ev,.int .i64 p.bo,.slice p.aX.a p.aX.l.length p.aX.c,.slice p.aq.a p.aq.l.length p.aq.c,.slice p.procs.a p.procs.l.length p.procs.c]/\a'={tmps:= #[.pointer (Ai ⟨g,0,Ag⟩),BA,.pointer (Ai ⟨w.heap.size,0,Ag⟩),.pointer (Ai ⟨Bm,0,Ag⟩),.pointer (Ai ⟨Bp,0,Ag⟩),BA,.pointer (Ai ⟨g,0,Ag⟩),.func (.func 151) #[] #[.pointer (Ai ⟨w.heap.size+1,0,Ag⟩)],m.val,p.val,BA,BA,BA,BA,BA,BA,BA,BA,BA,BA,BA,BA,BA,BA,BA,BA,BA,BA,BA,BA,BA],defers:= []}) ?Kf ?assign ?body ?done ?ret
 case hI=>exact λT W W' h hb=>⟨h.1.trans hb,h.2⟩
 case RU=>exact λT W W' h hb=>⟨ah.below h.1 hb oz,h.2.1.trans (hb.mono oz),h.2.2⟩
 case TG=>exact⟨BK _ _,rfl⟩
 case Kf=>
  rintro y l a' W o o' hl ho hc ⟨m,p,Bm,Bp,e,h1,h2,h3,h4,h5⟩;exact⟨m,p,Bm,Bp,e,h1,h2,mW h3 ho hc,mW h4 ho hc,h5⟩
 case assign=>
  rintro l T ⟨m,p⟩ W K hT hsz hK;gi_wp2;refine hK _ _ ((bN).alloc qz _) ⟨m,p,_,_,rfl,?_,?_,(ah.new W _ _).alloc _,?_,rfl⟩
  .omega
  .first | omega | (simp;omega)
  .have:=ah.new (W.alloc (.cells #[.string m.nm,.int .i64 m.mem,.int .i64 m.fr,.slice m.parts.a m.parts.l.length m.parts.c] 67)) 71 #[.string p.nm,.int .i64 p.pe,.int .i64 p.le,.int .i64 p.mem,.slice p.aG.a p.aG.l.length p.aG.c,.int .i64 p.ev,.int .i64 p.bo,.slice p.aX.a p.aX.l.length p.aX.c,.slice p.aq.a p.aq.l.length p.aq.c,.slice p.procs.a p.procs.l.length p.procs.c]
   rwa[World.size_alloc]at this
 case body=>
  rintro l T y a' W hT hsz hG ⟨wV,aJ⟩ ⟨m,p,Bm,Bp,rfl,h1,h2,CY,kg,rfl⟩;have iU:=CW hT;have hp0:¬p.pe=0:=Hpe.out _ iU;have fK:=(KH ((Mk.out.gr (X:=λ_=>False) (λ_ h=>h.elim) hG).r) iU).2;have CP:=(Mk.out.gr (X:=λ_=>False) (λ_ h=>h.elim) hG).B;have fK:p.rd W W.heap.size:=fK.more CP;have m2:=CY.cell 2;have p1:=kg.cell 1;have p2:=kg.cell 2;have p9:=kg.cell 9;have hlm:=CY.lt;have Vx:=kg.lt;have iY:=rT.out.below wV oz;have r0:=iY.cell 0;have f0:=iY.frozen 0;have au:=Iy 82 #[.pointer (Ai ⟨Bp,0,Ag⟩)] (tmP p) (enters_of func82 kz rfl) p.procs.l p.procs.a p.procs.c W (λW' r hx hW' aE7=>by simpa using Xl p r Bp W' aE7 (kg.below hW' kg.lt) hp0) fK.procs (nT fK.zG (nT fK.zH dz));have Qm:∀b,Bw (m,p)=b->qG Bw (T++ [(m,p)]) b:=λb hb=>by unfold qG at *;rw[yd,aJ,hb];rfl
  have Pa:Bw (m,p)=((m.fr.tmod p.pe==0)&&(decide (p.le<=p.pe)&&p.procs.l.all (tmP p))):=rfl;obtain⟨q,hq⟩:=ez (p.procs.l.all (tmP p));rw[<-hq]at au Pa;have yg:∀W2,BD W.heap.size W W2->Bw (m,p)=Bj->(Gr (λk=>k=w.heap.size) W (W2.setCell ⟨w.heap.size,0,Ag⟩ (.bool Bj))/\ah (W2.setCell ⟨w.heap.size,0,Ag⟩ (.bool Bj)) w.heap.size 4 #[.bool Bj]/\BD w.heap.size w (W2.setCell ⟨w.heap.size,0,Ag⟩ (.bool Bj))/\qG Bw (T++ [(m,p)]) Bj)/\W2.cell? ⟨w.heap.size,0,Ag⟩=Ai (.bool Bj)/\W2.frozen? ⟨w.heap.size,0,Ag⟩=false:=λW2 h2 hb=>
   ⟨⟨(Gr.ak h2).trans (Gr.setCell W2 ⟨w.heap.size,0,Ag⟩ _ rfl),by simpa using(iY.below h2 iY.lt).bX 0 (.bool Bj),(gh.out.trans ((wV.trans (h2.mono wV.size)).mono gh.out.size)).setCell (p:=⟨w.heap.size,0,Ag⟩) nL _,Qm _ hb⟩,(iY.below h2 iY.lt).cell 0,(iY.below h2 iY.lt).frozen 0⟩
  have aN:=lz au;have Xn:=lz Pa;have KI:=lz Qm;have ox:=lz yg;have Hbw:=lz wV;have aUk:=lz iY;clear au Pa hq Qm yg wV iY fK iU CY kg hG aJ hT
  cases t1:(m.fr.tmod p.pe==0)with
  | false=>
   have mz:=lz (ox.out W (BK _ _) (by rw[Xn.out,t1];rfl)).1;have e1:¬m.fr.tmod p.pe=0:=by simpa using t1
   clear t1;gi_wp2;refine⟨trivial,?_⟩;gi_wp2;exact mz.out
  | true=>
   have e1:m.fr.tmod p.pe=0:=by simpa using t1
   have t1:=lz t1
   cases t2:decide (p.le<=p.pe)with
   | false=>
    have mz:=lz (ox.out W (BK _ _) (by rw[Xn.out,t1.out,t2];rfl)).1;have t3:p.pe<p.le:=by have:=of_decide_eq_false t2;omega
    have t4:decide (p.pe<p.le)=true:=dT t3;clear t2;gi_wp2;refine⟨trivial,?_⟩;gi_wp2;exact mz.out
   | true=>
    have t3:¬p.pe<p.le:=by have:=of_decide_eq_true t2;omega
    have t4:decide (p.pe<p.le)=false:=dF t3;have T2:=lz t2;clear t2;gi_wp2;refine jS aN.out ?_;rintro e W2 ⟨rfl,dI⟩;have eF:=lz dI;clear r0 f0 m2 p1 p2 p9 dI
    cases q with
    | false=>
     have mz:=ox.out W2 eF.out (by rw[Xn.out,t1.out,T2.out];rfl);have r0:=mz.2.1;have f0:=mz.2.2;have vN:=lz mz.1;clear mz;gi_wp2;exact vN.out
    | true=>
     gi_wp2;exact⟨Gr.ak eF.out,Hbw.out.trans (eF.out.mono Hbw.out.size),KI.out _ (by rw[Xn.out,t1.out,T2.out];rfl)⟩
 case done=>
  rintro D W hD hs ⟨hW,aJ⟩ hk;have HF:=lz (show KG x=BR from aJ);have KJ:D<W.heap.size:=(gE hk).1;have d0:=(rT.out.below hW oz).cell 0;have f0:W.frozen? ⟨w.heap.size,0,Ag⟩=false:=(rT.out.below hW oz).frozen 0;have sA:=lz (rT.out.below hW oz);have HB:=lz (gh.out.trans (hW.mono gh.out.size));have Hk:=lz hk;clear hW hk aJ;go_wp2_with fail;have hz0:ah (W.setCell ⟨w.heap.size,0,Ag⟩ (.bool BR)) w.heap.size 4 #[.bool BR]:=by simpa using sA.out.bX 0 (.bool BR)
  have Hz0:=lz hz0;clear hz0;refine bP [D] (W.setCell ⟨w.heap.size,0,Ag⟩ (.bool BR)) (w.heap.size+1) qz (λE hE=>by simp at hE;subst hE;exact⟨oz,(Hu W ⟨w.heap.size,0,Ag⟩ _ E qo).trans Hk.out⟩) λW' j5=> ?_
  have z0:=(Hz0.out.below j5.below oz).cell 0;exact⟨.bool BR,by simp[results,f25,go_sem,z0],by rw[HF.out],(HB.out.setCell (p:=⟨w.heap.size,0,Ag⟩) nL _).trans (j5.below.mono oz)⟩
 case ret=>
  rintro D T W3 hD hs hT ⟨h1,h2,h3⟩ hk;have HF:=lz (show KG x=Bj from pW hT h3);have KJ:D<W3.heap.size:=(gE hk).1;refine bP [D] W3 D qz (λE hE=>by simp at hE;subst hE;exact⟨nL,hk⟩) λW' j5=> ?_
  have z0:=(ah.below h1 j5.below oz).cell 0;exact⟨.bool Bj,by simp[results,f25,go_sem,z0],by rw[HF.out],h2.trans (j5.below.mono oz)⟩
theorem vO{F:Fence}{n:Nat}{P:Program}{fn:Func}{tmps:Array Bn}{R:Ending->Al->Prop}(D r0 base:Nat)(b b0:Bool)(w W:Al)(hr:ah W r0 4 #[.bool b0])(hk:W.heap[D]?=Ai (.deferred (Ai [])))(hDr:r0<D)(hB:BD base w W)(I8:base<=r0)
 (aAd:∀W',W'.cell? ⟨r0,0,Ag⟩=Ai (.bool b)->(results fn tmps).run P W'= .ok (.bool b) W') (hR:∀W',BD base w W'->R (.returned (.bool b)) W'):LeavesInM F n P fn tmps R ([D].map sM) .returning (W.setCell ⟨r0,0,Ag⟩ (.bool b)):=by
 have KJ:D<W.heap.size:=(gE hk).1;have hz0:ah (W.setCell ⟨r0,0,Ag⟩ (.bool b)) r0 4 #[.bool b]:=by simpa using hr.bX 0 (.bool b)
 refine bP [D] (W.setCell ⟨r0,0,Ag⟩ (.bool b)) (r0+1) qz (λE hE=>by simp at hE;subst hE;exact⟨oz,(Hu W ⟨r0,0,Ag⟩ _ E qo).trans hk⟩) λW' j5=> ?_
 have z0:=(hz0.below j5.below oz).cell 0;exact⟨.bool b,aAd W' z0,hR W' ((hB.setCell (p:=⟨r0,0,Ag⟩) I8 _).trans (j5.below.mono oz))⟩
