import Derived.Test.YtmdgooofdmpcjaaGreatDoorY9
import Derived.Test.YtmdgooofdmpcjaaGreatDoorY3
import Derived.Test.YtmdgooofdmpcjaaGreatDoorY0
import Derived.Test.YtmdgooofdmpcjaaGreatDoorY8
import Derived.Test.YtmdgooofdmpcjaaGreatDoorY6
set_option maxRecDepth 100000
set_option maxHeartbeats 8000000
set_option linter.unusedSimpArgs false
set_option linter.unusedVariables false
set_option linter.unusedSectionVars false
open Go.Proofs.Tryz renaming prog → pG
namespace Go.Proofs.YtmdgooofdmpcjaaGreatDoor
section
open Go.ChangeShapes Go.WideShapes Go.ChangeAt Go.RowKit
attribute [local go_sem] Oper.semAt_some
inductive gF where
 | mo (x:DA)
 | sw (x:iI)
 | ln (x:aO)
 | vl (x:VlT)
def gF.len:gF→Nat
 | .mo x=>1+zi x
 | .sw _=>9
 | .ln _=>8
 | .vl x=>13+6*x.dst.length
def gF.PI:gF→Option DA
 | .mo x=>some x
 | _=>none
def gF.Z5:gF→Option iI
 | .sw x=>some x
 | _=>none
def gF.ln?:gF→Option aO
 | .ln x=>some x
 | _=>none
def gF.Z6:gF→Option VlT
 | .vl x=>some x
 | _=>none
def J3(ts:List Tok)(p:Nat):gF→Bool
 | .mo x=>gZ ts p (wj ⟨#[109,111,100,117,108,101]⟩)&&RO ts (p+1) x&&x.parts.all fun y=>y.aq.all fun q=>decide (q.kd=1)
 | .sw x=>gZ ts p (wj ⟨#[115,119,105,116,99,104]⟩)&&aEW ts (p+1) x
 | .ln x=>gZ ts p (wj ⟨#[108,105,110,107]⟩)&&aEX ts (p+1) x
 | .vl x=>gZ ts p (wj ⟨#[118,108]⟩)&&aEY ts (p+1) x
def qA(ts:List Tok):Nat→List gF→Bool
 | p,[]=>decide (p=ts.length)
 | p,i :: r=>J3 ts p i&&qA ts (p+i.len) r
def mD:List gF→Nat
 | []=>0
 | i :: r=>i.len+mD r
theorem AF:∀(L:List gF) (i:gF),mD (L++ [i])=mD L+i.len
 | [],i=>by simp[mD]
 | y :: L,i=>by
  rw[List.cons_append];unfold mD;rw[AF L i];omega
theorem DB{ts:List Tok}:∀(L:List gF) (p k:Nat),qA ts p L=true→k≤L.length→qA ts (p+mD (L.take k)) (L.drop k)=true
 | L,p,0,h,_=>by simpa [mD]using h
 | [],p,k+1,h,hk=>by simp at hk
 | i :: r,p,k+1,h,hk=>by
  unfold qA at h;simp only[Bool.and_eq_true]at h;have:=DB r _ k h.2 (by simpa using hk);rw[List.take_succ_cons,List.drop_succ_cons];unfold mD;rw[show p+(i.len+mD (r.take k))=p+i.len+mD (r.take k)from by omega];exact this
structure Cf where
 v0:Value
 v2:Value
 v3:Value
 v4:Value
 M:List bT
 S:List iI
 L:List aO
 V:List fU
def Cf.inner(x:Cf):List jK:=x.M.flatMap bT.rows++x.V.map fU.row
def Cf.rows(x:Cf):List jK:=zj x.v0 x.M :: wS x.v2 x.S :: wT x.v3 x.L :: vB x.v4 x.V :: x.inner
abbrev Cf.cs(x:Cf):Array Value:=gy x.v0 x.v2 x.v3 x.v4
structure Cf.Is(x:Cf)(I:List gF):Prop where
 m:iC bT.is x.M (I.filterMap gF.PI)
 s:x.S=I.filterMap gF.Z5
 l:x.L=I.filterMap gF.ln?
 v:iC fU.is x.V (I.filterMap gF.Z6)
theorem wU{x:Cf}{r:jK}(h:r∈x.inner):r.t=71∨r.t=73∨r.t=41:=by
 rcases List.mem_append.1 h with h | h
 ·obtain⟨y,_,hr⟩:=List.mem_flatMap.1 h
  rcases PJ hr with e | e
  ·exact .inl e
  ·exact .inr (.inl e)
 ·obtain⟨y,_,rfl⟩:=List.mem_map.1 h
  exact .inr (.inr rfl)
section
variable {w0:World} {g:Nat} {A:Option Addr} {c:Nat} {ts:List Tok} {now:Nat} {sz:Int} {K:List MJ}
theorem Cf.slices{x:Cf}{w:World}(h:ig w0 g A c ts sz K x.rows now w):∃q0 m0 q2 m2 q3 m3 q4 m4,x.v0= .slice q0 x.M.length m0∧x.v2= .slice q2 x.S.length m2∧x.v3= .slice q3 x.L.length m3∧x.v4= .slice q4 x.V.length m4:=by
 have h0:=h.q (zj x.v0 x.M) (by simp[Cf.rows]);have h2:=h.q (wS x.v2 x.S) (by simp[Cf.rows]);have h3:=h.q (wT x.v3 x.L) (by simp[Cf.rows]);have h4:=h.q (vB x.v4 x.V) (by simp[Cf.rows]);obtain⟨q0,m0,e0,_⟩:=bp h0;obtain⟨q2,m2,e2,_⟩:=bp h2;obtain⟨q3,m3,e3,_⟩:=bp h3;obtain⟨q4,m4,e4,_⟩:=bp h4;exact⟨q0,m0,q2,m2,q3,m3,q4,m4,e0,e2,e3,e4⟩
theorem Wd(it:gF)(x:Cf)(I:List gF)(w:World)(h:ig w0 g A c ts sz K x.rows now w)(hx:x.Is I)(hk:∀r∈K,r.t=31)(hl:ts.length≤100000)(ha:J3 ts now it=true)(hL:x.M.length≤1000∧x.S.length≤1000∧x.L.length≤1000∧x.V.length≤1000):
 Calls pG 116 #[.pointer (some ⟨g,0,none⟩),.agg x.cs] w fun e w'=>∃y:Cf,e= .returned (.agg y.cs)∧y.Is (I++ [it])∧ig w0 g A c ts sz K y.rows (now+it.len) w':=by
 obtain⟨q0,m0,q2,m2,q3,m3,q4,m4,e0,e2,e3,e4⟩:=Cf.slices h;obtain⟨v0,v2,v3,v4,M,S,L,V⟩:=x;dsimp only at e0 e2 e3 e4 hL;subst e0 e2 e3 e4;obtain⟨hm,hs,Z7,hv⟩:=hx;dsimp only at hm hs Z7 hv
 cases it with
 | sw z=>
  unfold J3 at ha;simp only[Bool.and_eq_true]at ha;have h1:=h.sub (K':=K) (Q':=wS (.slice q2 S.length m2) S :: zj (.slice q0 M.length m0) M :: wT (.slice q3 L.length m3) L :: vB (.slice q4 V.length m4) V :: Cf.inner ⟨.slice q0 M.length m0,.slice q2 S.length m2,.slice q3 L.length m3,.slice q4 V.length m4,M,S,L,V⟩) (fun r hr=>hr) (fun r hr=>by
   simp only[Cf.rows,List.mem_cons]at hr ⊢;rcases hr with hr | hr | hr
   ·exact .inr (.inl hr)
   ·exact .inl hr
   ·exact .inr (.inr hr))
  refine(aAq z q0 q3 q4 _ m0 _ m3 _ m4 _ S w h1 (fun r hr=> ?_) hk hl ha.1 ha.2 hL.2.1).mono ?_
  ·simp only[List.mem_cons]at hr
   rcases hr with rfl | rfl | rfl | hr
   ·exact⟨by show 67≠87;decide,by show 67≠31;decide⟩
   ·exact⟨by show 46≠87;decide,by show 46≠31;decide⟩
   ·exact⟨by show 44≠87;decide,by show 44≠31;decide⟩
   ·rcases wU hr with e | e | e<;>rw[e]<;>decide
  ·rintro e w' ⟨u,rfl,hP⟩
   refine⟨⟨.slice q0 M.length m0,u,.slice q3 L.length m3,.slice q4 V.length m4,M,S++ [z],L,V⟩,rfl,⟨by simpa [List.filterMap_append,List.filterMap_cons,List.filterMap_nil,gF.PI]using hm,by simp[List.filterMap_append,List.filterMap_cons,List.filterMap_nil,gF.Z5,hs],by simp[List.filterMap_append,List.filterMap_cons,List.filterMap_nil,gF.ln?,Z7],by simpa [List.filterMap_append,List.filterMap_cons,List.filterMap_nil,gF.Z6]using hv⟩,?_⟩;have:=hP.sub (K':=K) (Q':=Cf.rows ⟨.slice q0 M.length m0,u,.slice q3 L.length m3,.slice q4 V.length m4,M,S++ [z],L,V⟩) (fun r hr=>hr) (fun r hr=>by
    simp only[Cf.rows,List.mem_cons]at hr ⊢;rcases hr with hr | hr | hr
    ·exact .inr (.inl hr)
    ·exact .inl hr
    ·exact .inr (.inr hr))
   rw[show now+gF.len (.sw z)=now+1+8 from by show now+9=_;omega];exact this
 | ln z=>
  unfold J3 at ha;simp only[Bool.and_eq_true]at ha;have h1:=h.sub (K':=K) (Q':=wT (.slice q3 L.length m3) L :: zj (.slice q0 M.length m0) M :: wS (.slice q2 S.length m2) S :: vB (.slice q4 V.length m4) V :: Cf.inner ⟨.slice q0 M.length m0,.slice q2 S.length m2,.slice q3 L.length m3,.slice q4 V.length m4,M,S,L,V⟩) (fun r hr=>hr) (fun r hr=>by
   simp only[Cf.rows,List.mem_cons]at hr ⊢;rcases hr with hr | hr | hr | hr
   ·exact .inr (.inr (.inl hr))
   ·exact .inl hr
   ·exact .inr (.inl hr)
   ·exact .inr (.inr (.inr hr)))
  refine(aAr z q0 q2 q4 _ m0 _ m2 _ m4 _ L w h1 (fun r hr=> ?_) hk hl ha.1 ha.2 hL.2.2.1).mono ?_
  ·simp only[List.mem_cons]at hr
   rcases hr with rfl | rfl | rfl | hr
   ·exact⟨by show 67≠46;decide,by show 67≠31;decide⟩
   ·exact⟨by show 87≠46;decide,by show 87≠31;decide⟩
   ·exact⟨by show 44≠46;decide,by show 44≠31;decide⟩
   ·rcases wU hr with e | e | e<;>rw[e]<;>decide
  ·rintro e w' ⟨u,rfl,hP⟩
   refine⟨⟨.slice q0 M.length m0,.slice q2 S.length m2,u,.slice q4 V.length m4,M,S,L++ [z],V⟩,rfl,⟨by simpa [List.filterMap_append,List.filterMap_cons,List.filterMap_nil,gF.PI]using hm,by simp[List.filterMap_append,List.filterMap_cons,List.filterMap_nil,gF.Z5,hs],by simp[List.filterMap_append,List.filterMap_cons,List.filterMap_nil,gF.ln?,Z7],by simpa [List.filterMap_append,List.filterMap_cons,List.filterMap_nil,gF.Z6]using hv⟩,?_⟩;have:=hP.sub (K':=K) (Q':=Cf.rows ⟨.slice q0 M.length m0,.slice q2 S.length m2,u,.slice q4 V.length m4,M,S,L++ [z],V⟩) (fun r hr=>hr) (fun r hr=>by
    simp only[Cf.rows,List.mem_cons]at hr ⊢;rcases hr with hr | hr | hr | hr
    ·exact .inr (.inl hr)
    ·exact .inr (.inr (.inl hr))
    ·exact .inl hr
    ·exact .inr (.inr (.inr hr)))
   rw[show now+gF.len (.ln z)=now+1+7 from by show now+8=_;omega];exact this
 | vl z=>
  unfold J3 at ha;simp only[Bool.and_eq_true]at ha;have h1:=h.sub (K':=K) (Q':=vB (.slice q4 V.length m4) V :: zj (.slice q0 M.length m0) M :: wS (.slice q2 S.length m2) S :: wT (.slice q3 L.length m3) L :: Cf.inner ⟨.slice q0 M.length m0,.slice q2 S.length m2,.slice q3 L.length m3,.slice q4 V.length m4,M,S,L,V⟩) (fun r hr=>hr) (fun r hr=>by
   simp only[Cf.rows,List.mem_cons]at hr ⊢;rcases hr with hr | hr | hr | hr | hr
   ·exact .inr (.inr (.inr (.inl hr)))
   ·exact .inl hr
   ·exact .inr (.inl hr)
   ·exact .inr (.inr (.inl hr))
   ·exact .inr (.inr (.inr (.inr hr))))
  refine(aAs z q0 q2 q3 _ m0 _ m2 _ m3 _ V w h1 (fun r hr=> ?_) hk hl ha.1 ha.2 hL.2.2.2).mono ?_
  ·simp only[List.mem_cons]at hr
   rcases hr with rfl | rfl | rfl | hr
   ·exact⟨by show 67≠44;decide,by show 67≠31;decide⟩
   ·exact⟨by show 87≠44;decide,by show 87≠31;decide⟩
   ·exact⟨by show 46≠44;decide,by show 46≠31;decide⟩
   ·rcases wU hr with e | e | e<;>rw[e]<;>decide
  ·rintro e w' ⟨u,y,rfl,hy,hP⟩
   refine⟨⟨.slice q0 M.length m0,.slice q2 S.length m2,.slice q3 L.length m3,u,M,S,L,V++ [y]⟩,rfl,⟨by simpa [List.filterMap_append,List.filterMap_cons,List.filterMap_nil,gF.PI]using hm,by simp[List.filterMap_append,List.filterMap_cons,List.filterMap_nil,gF.Z5,hs],by simp[List.filterMap_append,List.filterMap_cons,List.filterMap_nil,gF.ln?,Z7],by simpa [List.filterMap_append,List.filterMap_cons,List.filterMap_nil,gF.Z6]using iC.add hy hv⟩,?_⟩;have:=hP.sub (K':=K) (Q':=Cf.rows ⟨.slice q0 M.length m0,.slice q2 S.length m2,.slice q3 L.length m3,u,M,S,L,V++ [y]⟩) (fun r hr=>hr) (fun r hr=>by
    simp only[Cf.rows,Cf.inner,List.mem_cons,List.mem_append,List.map_append,List.map_cons,List.map_nil,List.not_mem_nil,or_false]at hr ⊢;rcases hr with hr | hr | hr | hr | hr | hr | hr
    ·exact .inr (.inr (.inl hr))
    ·exact .inr (.inr (.inr (.inl hr)))
    ·exact .inr (.inr (.inr (.inr (.inl hr))))
    ·exact .inl hr
    ·exact .inr (.inr (.inr (.inr (.inr (.inl hr)))))
    ·exact .inr (.inr (.inr (.inr (.inr (.inr hr)))))
    ·exact .inr (.inl hr))
   rw[show now+gF.len (.vl z)=now+1+(12+6*z.dst.length)from by show now+(13+6*z.dst.length)=_;omega];exact this
 | mo z=>
  unfold J3 at ha;simp only[Bool.and_eq_true]at ha;have h1:=h.sub (K':=K) (Q':=zj (.slice q0 M.length m0) M :: wS (.slice q2 S.length m2) S :: wT (.slice q3 L.length m3) L :: vB (.slice q4 V.length m4) V :: Cf.inner ⟨.slice q0 M.length m0,.slice q2 S.length m2,.slice q3 L.length m3,.slice q4 V.length m4,M,S,L,V⟩) (fun r hr=>hr) (fun r hr=>hr);refine(aAt z q2 q3 q4 _ m2 _ m3 _ m4 _ M w h1 (fun r hr=> ?_) hk hl ha.1.1 ha.1.2 hL.1).mono ?_
  ·simp only[List.mem_cons]at hr
   rcases hr with rfl | rfl | rfl | hr
   ·exact⟨by show 87≠67;decide,by show 87≠31;decide⟩
   ·exact⟨by show 46≠67;decide,by show 46≠31;decide⟩
   ·exact⟨by show 44≠67;decide,by show 44≠31;decide⟩
   ·rcases wU hr with e | e | e<;>rw[e]<;>decide
  ·rintro e w' ⟨u,y,rfl,hy,hP⟩
   refine⟨⟨u,.slice q2 S.length m2,.slice q3 L.length m3,.slice q4 V.length m4,M++ [y],S,L,V⟩,rfl,⟨by simpa [List.filterMap_append,List.filterMap_cons,List.filterMap_nil,gF.PI]using iC.add hy hm,by simp[List.filterMap_append,List.filterMap_cons,List.filterMap_nil,gF.Z5,hs],by simp[List.filterMap_append,List.filterMap_cons,List.filterMap_nil,gF.ln?,Z7],by simpa [List.filterMap_append,List.filterMap_cons,List.filterMap_nil,gF.Z6]using hv⟩,?_⟩;have:=hP.sub (K':=K) (Q':=Cf.rows ⟨u,.slice q2 S.length m2,.slice q3 L.length m3,.slice q4 V.length m4,M++ [y],S,L,V⟩) (fun r hr=>hr) (fun r hr=>by
    simp only[Cf.rows,Cf.inner,List.mem_cons,List.mem_append,List.flatMap_append,List.flatMap_cons,List.flatMap_nil,List.append_nil]at hr ⊢;rcases hr with hr | hr | hr | hr | (hr | hr) | hr
    ·exact .inl hr
    ·exact .inr (.inr (.inl hr))
    ·exact .inr (.inr (.inr (.inl hr)))
    ·exact .inr (.inr (.inr (.inr (.inl hr))))
    ·exact .inr (.inr (.inr (.inr (.inr (.inl hr)))))
    ·exact .inr (.inl hr)
    ·exact .inr (.inr (.inr (.inr (.inr (.inr hr))))))
   rw[show now+gF.len (.mo z)=now+1+zi z from by show now+(1+zi z)=_;omega];exact this
end
theorem aEZ(s:ByteArray)(ts:List Tok)(F:Nat)(w:World)(hs:s.size≤1000)(h:jG s F 0 []=some ts):
 Calls pG 115 #[.string s] w fun e w'=>∃g A c,e= .returned (.pointer (some ⟨g,0,none⟩))∧gM w' g A c ts 0 s.size∧w.heap.size≤g∧Below w.heap.size w w':=by
 have Hl:=lz (aIK s ts F w hs h);clear h;go_enter Tryz.func115,Tryz.ntmps115;go_wp2_with fail;refine Hl.out.mono ?_;rintro e w1 ⟨A,c,rfl,ht,hb⟩;have HR:=lz (ai ht hb);clear ht hb Hl;go_wp2;go_ret;refine⟨w1.heap.size,A,c,rfl,⟨ah.new w1 _ _,HR.out.1.dn nL fun b o hlt=>World.cell?_alloc_lt w1 _ ⟨b,o,none⟩ hlt⟩,HR.out.2.size,HR.out.2.alloc HR.out.2.size _⟩
structure ay.IsT(x:ay)(I:List gF):Prop where
 m:iC bT.is x.mods.l (I.filterMap gF.PI)
 s:x.aP.l=I.filterMap gF.Z5
 l:x.links.l=I.filterMap gF.ln?
 v:iC fU.is x.aF.l (I.filterMap gF.Z6)
 ch:x.aj=gN
 h:x.bQ=gN
 ca:x.causes=gN
 ve:x.aA=gN
theorem RP{x:Cf}{r:jK}(h:r∈x.rows):r.t≠31:=by
 simp only[Cf.rows,List.mem_cons]at h;rcases h with rfl | rfl | rfl | rfl | h
 ·show 67≠31;decide
 ·show 87≠31;decide
 ·show 46≠31;decide
 ·show 44≠31;decide
 ·rcases wU h with e | e | e<;>rw[e]<;>decide
theorem aEa(i:gF):0<i.len:=by cases i<;>simp[gF.len]<;>omega
theorem aDN{ts:List Tok}{p:Nat}{i:gF}(h:J3 ts p i=true):p<ts.length:=by
 cases i<;>unfold J3 at h<;>simp only[Bool.and_eq_true]at h
 ·exact(gG h.1.1).1
 ·exact(gG h.1).1
 ·exact(gG h.1).1
 ·exact(gG h.1).1
theorem MK{ts:List Tok}:∀(I:List gF) (p:Nat),qA ts p I=true→∀z∈I.filterMap gF.PI,∀y∈z.parts,∀q∈y.aq,0≤q.kd∧q.kd≤255
 | [],_,_,z,hz,_,_,_,_=>by simp at hz
 | i :: r,p,h,z,hz,y,hy,q,hq=>by
  unfold qA at h;simp only[Bool.and_eq_true]at h
  cases i with
  | mo x=>
   simp only[List.filterMap_cons,gF.PI,List.mem_cons]at hz;rcases hz with rfl | hz
   ·have h1:=h.1
    unfold J3 at h1;simp only[Bool.and_eq_true]at h1;have:=of_decide_eq_true (List.all_eq_true.1 (List.all_eq_true.1 h1.2 y hy) q hq);omega
   ·exact MK r _ h.2 z hz y hy q hq
  | sw x=>exact MK r _ h.2 z (by simpa [List.filterMap_cons,gF.PI]using hz) y hy q hq
  | ln x=>exact MK r _ h.2 z (by simpa [List.filterMap_cons,gF.PI]using hz) y hy q hq
  | vl x=>exact MK r _ h.2 z (by simpa [List.filterMap_cons,gF.PI]using hz) y hy q hq
theorem aIL{W:World}{base:Nat}{x:Cf}{I:List gF}{ts:List Tok}(ho:dA W base x.rows)(hx:x.Is I)(hI:qA ts 0 I=true){q0 q2 q3 q4:Option Addr}{m0 m2 m3 m4:Nat}(e0:x.v0= .slice q0 x.M.length m0)(e2:x.v2= .slice q2 x.S.length m2)(e3:x.v3= .slice q3 x.L.length m3)(e4:x.v4= .slice q4 x.V.length m4):
 ay.rd W W.heap.size ⟨⟨q0,m0,x.M⟩,gN,⟨q2,m2,x.S⟩,⟨q3,m3,x.L⟩,⟨q4,m4,x.V⟩,gN,gN,gN⟩:=by
 have h0:=ho (zj x.v0 x.M) (by simp[Cf.rows]);have h2:=ho (wS x.v2 x.S) (by simp[Cf.rows]);have h3:=ho (wT x.v3 x.L) (by simp[Cf.rows]);have h4:=ho (vB x.v4 x.V) (by simp[Cf.rows]);rw[e0]at h0;rw[e2]at h2;rw[e3]at h3;rw[e4]at h4;have b0:x.M.length≤m0∧m0≤maxLen:=by obtain⟨_,_,hv,a,b⟩:=bp h0;cases hv;exact⟨a,b⟩
 have b2:x.S.length≤m2∧m2≤maxLen:=by obtain⟨_,_,hv,a,b⟩:=bp h2;cases hv;exact⟨a,b⟩
 have b3:x.L.length≤m3∧m3≤maxLen:=by obtain⟨_,_,hv,a,b⟩:=bp h3;cases hv;exact⟨a,b⟩
 have b4:x.V.length≤m4∧m4≤maxLen:=by obtain⟨_,_,hv,a,b⟩:=bp h4;cases hv;exact⟨a,b⟩
 have kd:=MK I 0 hI;refine⟨b0.1,b0.2,Cd h0 fun y hy=> ?_,nL,nZ,fun h=>absurd h (Nat.lt_irrefl 0),b2.1,b2.2,Ce h2,b3.1,b3.2,uJ h3,b4.1,b4.2,ML h4 fun y hy=> ?_,nL,nZ,fun h=>absurd h (Nat.lt_irrefl 0),nL,nZ,fun h=>absurd h (Nat.lt_irrefl 0),nL,nZ,fun h=>absurd h (Nat.lt_irrefl 0)⟩
 ·obtain⟨z,hz,hi⟩:=iC.mem hx.m y hy
  exact aAu hi (fun r hr=>ho r (by
   simp only[Cf.rows,Cf.inner,List.mem_cons,List.mem_append,List.mem_flatMap];exact .inr (.inr (.inr (.inr (.inl ⟨y,hy,hr⟩)))))) (kd z hz)
 ·exact aEb (ho y.row (by
   simp only[Cf.rows,Cf.inner,List.mem_cons,List.mem_append,List.mem_map];exact .inr (.inr (.inr (.inr (.inr ⟨y,hy,rfl⟩))))))
def jP(W:World)(base:Nat)(x:ay)(I:List gF):Prop:=∃c:Cf,dA W base c.rows∧c.Is I∧∃(q0:Option Addr) (m0:Nat) (q2:Option Addr) (m2:Nat) (q3:Option Addr) (m3:Nat) (q4:Option Addr) (m4:Nat),c.v0= .slice q0 c.M.length m0∧c.v2= .slice q2 c.S.length m2∧c.v3= .slice q3 c.L.length m3∧c.v4= .slice q4 c.V.length m4∧x=⟨⟨q0,m0,c.M⟩,gN,⟨q2,m2,c.S⟩,⟨q3,m3,c.L⟩,⟨q4,m4,c.V⟩,gN,gN,gN⟩
theorem jP.rd{W:World}{base:Nat}{x:ay}{I:List gF}{ts:List Tok}(h:jP W base x I)(hI:qA ts 0 I=true):x.rd W W.heap.size:=by
 obtain⟨c,h1,h2,q0,m0,q2,m2,q3,m3,q4,m4,e0,e2,e3,e4,rfl⟩:=h;exact aIL h1 h2 hI e0 e2 e3 e4
theorem jP.isT{W:World}{base:Nat}{x:ay}{I:List gF}(h:jP W base x I):x.IsT I:=by
 obtain⟨c,h1,h2,q0,m0,q2,m2,q3,m3,q4,m4,e0,e2,e3,e4,rfl⟩:=h;exact⟨h2.m,h2.s,h2.l,h2.v,rfl,rfl,rfl,rfl⟩
theorem jP.below{W W':World}{base:Nat}{x:ay}{I:List gF}(h:jP W base x I)(hb:Below W.heap.size W W'):jP W' base x I:=by
 obtain⟨c,h1,h2⟩:=h;exact⟨c,h1.below hb,h2⟩
theorem jP.far{W:World}{base:Nat}{x:ay}{I:List gF}(h:jP W base x I)(p:Addr)(hp:p.block<base)(u:Value):jP (W.setCell p u) base x I:=by
 obtain⟨c,h1,h2⟩:=h;exact⟨c,h1.gr (Gr.setCell W p u rfl:Gr (· =p.block) _ _) hp,h2⟩
theorem aAv(s:ByteArray)(ts:List Tok)(F:Nat)(I:List gF)(w:World)(hs:s.size≤1000)(h:jG s F 0 []=some ts)(hl:ts.length≤100000)(hI:qA ts 0 I=true)(hn:I.length≤900):
 Calls pG 50 #[.string s] w fun e w'=>∃(x:ay) (base:Nat),e= .returned (.tuple #[x.val,.int .i64 0,.int .i64 0])∧w.heap.size≤base∧jP w' base x I∧Below w.heap.size w w':=by
 obtain⟨w0,hw0⟩:=ez (w.alloc (.cells jg 31));have bW:Below w.heap.size w w0:=by rw[hw0];exact bN
 have jy:ah w0 w.heap.size 31 jg:=by rw[hw0];exact ah.new w _ _
 have hof:=aEZ s ts F w0 hs h;have Hof:=lz hof;have Mc:=lz hw0;have aV:=lz bW;have rT:=lz jy;have hz0:w0.heap.size=w.heap.size+1:=by rw[hw0];simp
 have HI:=lz (fun k hk=>DB I 0 k hI hk);have HIa:=lz hI;clear hof hw0 bW jy h hI;go_enter Tryz.func50,Tryz.ntmps50;go_wp2_with fail;rw[←Mc.out];refine Hof.out.mono ?_;rintro e w1 ⟨g,A,c,rfl,PK,hg1,aU⟩;obtain⟨w2,hw2⟩:=ez (w1.alloc (.cells jg 31));have pq:Below w1.heap.size w1 w2:=by rw[hw2];exact bN
 have wV:Below w.heap.size w w2:=(aV.out.trans (aU.mono aV.out.size)).trans (pq.mono (by have:=aU.size;omega));have MN:=PK.lt;have hgw:w.heap.size<g:=by omega
 have hP:ig w g A c ts s.size [⟨w1.heap.size,31,jg⟩,⟨w.heap.size,31,jg⟩] (Cf.rows ⟨.slice none 0 0,.slice none 0 0,.slice none 0 0,.slice none 0 0,[],[],[],[]⟩) 0 w2:=by
  refine⟨PK.below pq,wV,oz,fun r hr=> ?_,fun r hr=> ?_⟩
  ·simp only[List.mem_cons,List.not_mem_nil,or_false]at hr
   rcases hr with rfl | rfl
   ·exact⟨by show w.heap.size≤w1.heap.size;have:=aU.size;omega,by show w1.heap.size≠g;omega,by rw[hw2];exact ah.new w1 _ _⟩
   ·exact⟨nL,by show w.heap.size≠g;omega,(rT.out.below aU rT.out.lt).below pq (by have:=aU.size;show w.heap.size<_;omega)⟩
  ·simp only[Cf.rows,Cf.inner,List.flatMap_nil,List.map_nil,List.nil_append,List.mem_cons,List.not_mem_nil,or_false]at hr
   rcases hr with rfl | rfl | rfl | rfl<;>exact World.ownsRow_nil _ _ _ _
 have HP:=lz hP;have Hw2:=lz hw2;have hs1:w.heap.size<w1.heap.size:=by have:=aU.size;omega
 clear PK aU pq wV hP hw2 Hof;go_wp2_with fail;rw[←Hw2.out];go_loopw [] (fun wr=>∃(k:Nat) (x:Cf),k≤I.length∧x.Is (I.take k)∧ig w g A c ts s.size [⟨w1.heap.size,31,x.cs⟩,⟨w.heap.size,31,jg⟩] x.rows (mD (I.take k)) wr) (fun wr=>ts.length-jZ g wr)
 case atStart=>exact⟨0,⟨.slice none 0 0,.slice none 0 0,.slice none 0 0,.slice none 0 0,[],[],[],[]⟩,nZ,⟨trivial,rfl,rfl,trivial⟩,HP.out⟩
 case round=>
  clear HP Hw2;obtain⟨k,x,hk,hx,hS⟩:=hrel;obtain⟨pos,DE⟩:=ez (mD (I.take k));rw[←DE]at hS;have DF:=HI.out k hk;rw[Nat.zero_add,←DE]at DF;have wW:=hS.eX.jZ;obtain⟨q0,m0,q2,m2,q3,m3,q4,m4,e0,e2,e3,e4⟩:=Cf.slices hS;have hlen:x.M.length≤1000∧x.S.length≤1000∧x.L.length≤1000∧x.V.length≤1000:=by
   have a1:=hx.m.len;have a2:=hx.v.len;have b1:((I.take k).filterMap gF.PI).length≤(I.take k).length:=List.length_filterMap_le _ _;have b2:((I.take k).filterMap gF.Z5).length≤(I.take k).length:=List.length_filterMap_le _ _;have b3:((I.take k).filterMap gF.ln?).length≤(I.take k).length:=List.length_filterMap_le _ _;have b4:((I.take k).filterMap gF.Z6).length≤(I.take k).length:=List.length_filterMap_le _ _;have b5:(I.take k).length≤900:=by rw[List.length_take];omega
   rw[←hx.s]at b2;rw[←hx.l]at b3;omega
  have aAw:=lz DE;have HX:=lz hx;obtain⟨v0,v2,v3,v4,M,S,L,V⟩:=x;dsimp only at e0 e2 e3 e4 hlen;subst e0 e2 e3 e4;have r0:=hS.eX.blk.cell 0;have r1:=hS.eX.blk.cell 1;have r4:=hS.eX.blk.cell 4;have hcb:=hS.at_ (r:=⟨w1.heap.size,31,_⟩) (List.mem_cons_self ..);have d0:=hcb.cell 0;have d1:=hcb.cell 1;have d2:=hcb.cell 2;have d3:=hcb.cell 3;have d4:=hcb.cell 4;have d5:=hcb.cell 5;have d6:=hcb.cell 6;have d7:=hcb.cell 7;have HS:=lz hS;clear hS hcb DE hx;by_cases hlt:k<I.length
  ·rw[List.drop_eq_getElem_cons hlt]at DF
   unfold qA at DF;simp only[Bool.and_eq_true]at DF;have hd:(pos:Int)<(ts.length:Int):=by have:=aDN DF.1;omega
   have hit:=fun(n:Nat)=>Wd I[k] ⟨.slice q0 M.length m0,.slice q2 S.length m2,.slice q3 L.length m3,.slice q4 V.length m4,M,S,L,V⟩ (I.take k) (wr.drewN n) (HS.out.below (aD (Below.refl _ _))) HX.out (fun r hr=>by
    simp only[List.mem_cons,List.not_mem_nil,or_false]at hr;rcases hr with rfl | rfl<;>rfl) hl DF.1 hlen
   have Hit:=lz hit;have Hdr:=lz DF.1;clear hit DF;go_wp2_with fail;go_quiet (fail);go_wp2_with fail;refine(Hit.out _).mono ?_;rintro e W5 ⟨y,rfl,hy,hP5⟩;obtain⟨p0,n0,p2,n2,p3,n3,p4,n4,f0,f2,f3,f4⟩:=Cf.slices hP5;obtain⟨u0,u2,u3,u4,M5,S5,L5,V5⟩:=y;dsimp only at f0 f2 f3 f4;subst f0 f2 f3 f4;have sQ:=hP5.at_ (r:=⟨w1.heap.size,31,Cf.cs ⟨.slice q0 M.length m0,.slice q2 S.length m2,.slice q3 L.length m3,.slice q4 V.length m4,M,S,L,V⟩⟩) (List.mem_cons_self ..);have e0:=sQ.cell 0;have e1:=sQ.cell 1;have e2:=sQ.cell 2;have e3:=sQ.cell 3;have e4:=sQ.cell 4;have e5:=sQ.cell 5;have e6:=sQ.cell 6;have e7:=sQ.cell 7;have g0:=sQ.frozen 0;have g1:=sQ.frozen 1;have g2:=sQ.frozen 2;have g3:=sQ.frozen 3;have g4:=sQ.frozen 4;have g5:=sQ.frozen 5;have g6:=sQ.frozen 6;have g7:=sQ.frozen 7;have hP6:=hP5.Wf (show g<w1.heap.size by omega) (fun r hr=>by
    simp only[List.mem_cons,List.not_mem_nil,or_false]at hr;subst hr;show w.heap.size≠w1.heap.size;omega) (hP5.J4 (List.mem_cons_self ..) (fun q hq=>RP hq)) (.slice p0 M5.length n0) (.slice none 0 0) (.slice p2 S5.length n2) (.slice p3 L5.length n3) (.slice p4 V5.length n4) (.slice none 0 0) (.slice none 0 0) (.slice none 0 0)
   obtain⟨W6,J5⟩:=ez (((((((((W5.setCell ⟨w1.heap.size,0,none⟩ (.slice p0 M5.length n0)).setCell ⟨w1.heap.size,1,none⟩ (.slice none 0 0)).setCell ⟨w1.heap.size,2,none⟩ (.slice p2 S5.length n2)).setCell ⟨w1.heap.size,3,none⟩ (.slice p3 L5.length n3)).setCell ⟨w1.heap.size,4,none⟩ (.slice p4 V5.length n4)).setCell ⟨w1.heap.size,5,none⟩ (.slice none 0 0)).setCell ⟨w1.heap.size,6,none⟩ (.slice none 0 0)).setCell ⟨w1.heap.size,7,none⟩ (.slice none 0 0)));rw[←J5]at hP6;have Wg:=hP6.eX.jZ;have HP6:=lz hP6;have RR:=lz J5;have HY:=lz hy;clear hP5 sQ hP6 J5 Hit r0 r1 r4 hy d0 d1 d2 d3 d4 d5 d6 d7;go_wp2_with fail;rw[←RR.out];go_roundw
   case rel=>
    refine⟨k+1,⟨.slice p0 M5.length n0,.slice p2 S5.length n2,.slice p3 L5.length n3,.slice p4 V5.length n4,M5,S5,L5,V5⟩,oz,?_,?_⟩
    ·rw[List.take_succ_eq_append_getElem hlt];exact HY.out
    ·rw[List.take_succ_eq_append_getElem hlt,AF,←aAw.out];exact HP6.out
   case measure=>
    rw[Wg,wW];have:=aEa I[k];have:=aDN Hdr.out;omega
  ·have hke:k=I.length:=by omega
   have hd:¬(pos:Int)<(ts.length:Int):=by
    rw[hke,List.drop_length]at DF;have:=of_decide_eq_true DF;omega
   have hxI:Cf.Is ⟨.slice q0 M.length m0,.slice q2 S.length m2,.slice q3 L.length m3,.slice q4 V.length m4,M,S,L,V⟩ I:=by
    have:=HX.out
    rwa[hke,List.take_length]at this
   have qB:=lz hxI;have MO:=HS.out.at_ (r:=⟨w.heap.size,31,jg⟩) qz;have t0:=MO.cell 0;have t1:=MO.cell 1;have t2:=MO.cell 2;have t3:=MO.cell 3;have t4:=MO.cell 4;have t5:=MO.cell 5;have t6:=MO.cell 6;have t7:=MO.cell 7;have f0:=MO.frozen 0;have f1:=MO.frozen 1;have f2:=MO.frozen 2;have f3:=MO.frozen 3;have f4:=MO.frozen 4;have f5:=MO.frozen 5;have f6:=MO.frozen 6;have f7:=MO.frozen 7;clear MO hxI hke DF;go_wp2_with fail;go_quiet (fail);go_wp2_with fail;have hD:=HS.out.below (W':=wr.drewN nq) (aD (Below.refl _ _));have hown:dA (wr.drewN nq) (g+1) (Cf.rows ⟨.slice q0 M.length m0,.slice q2 S.length m2,.slice q3 L.length m3,.slice q4 V.length m4,M,S,L,V⟩):=hD.q;have Hgb:Hid (w.heap.size≤g+1):=lz (by have h1:=hD.hB;have h2:=aV.out.size;omega);have DH:ah (wr.drewN nq) w.heap.size 31 jg:=hD.at_ (r:=⟨w.heap.size,31,jg⟩) qz;have aNl:Below w.heap.size w (wr.drewN nq):=hD.lE;have cD:∀(W:World) (cs:Array Value) (i:Nat) (u:Value),dA W (g+1) (Cf.rows ⟨.slice q0 M.length m0,.slice q2 S.length m2,.slice q3 L.length m3,.slice q4 V.length m4,M,S,L,V⟩)∧ah W w.heap.size 31 cs∧Below w.heap.size w W→dA (W.setCell ⟨w.heap.size,i,none⟩ u) (g+1) (Cf.rows ⟨.slice q0 M.length m0,.slice q2 S.length m2,.slice q3 L.length m3,.slice q4 V.length m4,M,S,L,V⟩)∧ah (W.setCell ⟨w.heap.size,i,none⟩ u) w.heap.size 31 (cs.setIfInBounds i u)∧Below w.heap.size w (W.setCell ⟨w.heap.size,i,none⟩ u):=fun W cs i u h=>
    ⟨h.1.set h.2.1 (fun r hr=>RP hr) u,h.2.1.bX i u,zk h.2.2 (Gr.setCell (X:=(· =w.heap.size)) _ _ _ rfl) nL⟩
   have hF:=cD _ _ 7 (.slice none 0 0) (cD _ _ 6 (.slice none 0 0) (cD _ _ 5 (.slice none 0 0) (cD _ _ 4 (.slice q4 V.length m4) (cD _ _ 3 (.slice q3 L.length m3) (cD _ _ 2 (.slice q2 S.length m2) (cD _ _ 1 (.slice none 0 0) (cD _ _ 0 (.slice q0 M.length m0) ⟨hown,DH,aNl⟩)))))));obtain⟨WZ,hWZ⟩:=ez ((((((((((wr.drewN nq).setCell ⟨w.heap.size,0,none⟩ (.slice q0 M.length m0)).setCell ⟨w.heap.size,1,none⟩ (.slice none 0 0)).setCell ⟨w.heap.size,2,none⟩ (.slice q2 S.length m2)).setCell ⟨w.heap.size,3,none⟩ (.slice q3 L.length m3)).setCell ⟨w.heap.size,4,none⟩ (.slice q4 V.length m4)).setCell ⟨w.heap.size,5,none⟩ (.slice none 0 0)).setCell ⟨w.heap.size,6,none⟩ (.slice none 0 0)).setCell ⟨w.heap.size,7,none⟩ (.slice none 0 0)));rw[←hWZ]at hF ⊢;obtain⟨F1,F2,F3⟩:=hF;have F2':ah WZ w.heap.size 31 (gy (.slice q0 M.length m0) (.slice q2 S.length m2) (.slice q3 L.length m3) (.slice q4 V.length m4)):=by simpa using F2
   have z0:=F2'.cell 0;have z1:=F2'.cell 1;have z2:=F2'.cell 2;have z3:=F2'.cell 3;have z4:=F2'.cell 4;have z5:=F2'.cell 5;have z6:=F2'.cell 6;have z7:=F2'.cell 7;refine bodyPost_ret (v:= .tuple #[.agg (gy (.slice q0 M.length m0) (.slice q2 S.length m2) (.slice q3 L.length m3) (.slice q4 V.length m4)),.int .i64 0,.int .i64 0]) (by simp[results,Tryz.results50,go_sem,z0,z1,z2,z3,z4,z5,z6,z7]) rfl ?_;exact⟨⟨⟨q0,m0,M⟩,gN,⟨q2,m2,S⟩,⟨q3,m3,L⟩,⟨q4,m4,V⟩,gN,gN,gN⟩,g+1,rfl,Hgb.out,⟨_,F1,qB.out,_,_,_,_,_,_,_,_,rfl,rfl,rfl,rfl,rfl⟩,F3⟩
def RT(ops:Array Oper):Bool:=(List.range ops.size).all fun i=>match ops[i]? with | some o=>o.after.all fun e=>decide (e.on<i) | none=>true
theorem PL{ops:Array Oper}(h:RT ops=true){i:Nat}{o:Oper}(ho:ops[i]?=some o):∀e∈o.after,e.on<i:=by
 have hi:i<ops.size:=(gE ho).1;simp only[RT,List.all_eq_true,List.mem_range]at h;have h1:=h i hi;rw[ho]at h1;intro e he;have h2:=(Array.all_eq_true'.1 h1) e he;exact of_decide_eq_true h2
theorem Wh{md:Region.Mode}{ops:Array Oper}{listed:Array Bool}(hb:RT ops=true):∀(i:Nat),i<ops.size→listed.getD i true=false→Region.ready md ops listed≠ []:=by
 intro i
 induction i using Nat.strongRecOn with
 | ind i ih=>
  intro hi hl h0;have ho:ops[i]?=some ops[i]:=by simp[hi]
  have hr:i∈Region.ready md ops listed:=mem_ready.2 ⟨hl,ops[i],ho,fun e he hbi=>by
   have hlt:=PL hb ho e he
   cases hd:listed.getD e.on true with
   | false=>exact absurd h0 (ih e.on hlt oz hd)
   | true=>
    rcases Nat.lt_or_ge e.on listed.size with h' | h'
    ·simp[h']at hd ⊢;exact hd
    ·rcases Nat.lt_or_ge i listed.size with h2 | h2
     ·omega
     ·simp[Array.getElem?_eq_none h2]at hl⟩
  rw[h0]at hr
  cases hr
def eV(md:Region.Mode)(ops:Array Oper)(i j:Nat):Bool:=match ops[i]? with | some o=>o.after.any (fun e=>Region.binds md e&&e.on==j) | none=>false
def Shuts(md:Region.Mode)(ops:Array Oper)(listed:Array Bool):Prop:=∀i j,eV md ops i j=true→listed.getD i false=true→listed.getD j false=true
theorem MP{md:Region.Mode}{ops:Array Oper}{i j:Nat}{o:Oper}(ho:ops[i]?=some o)(h:eV md ops i j=true):∃e∈o.after,Region.binds md e=true∧e.on=j:=by
 unfold eV at h;rw[ho]at h;simp only[Array.any_eq_true']at h;obtain⟨e,he,hb⟩:=h;simp only[Bool.and_eq_true,beq_iff_eq]at hb;exact⟨e,he,hb⟩
theorem getD_set_true{listed:Array Bool}{i j:Nat}(h:listed.getD j false=true):(listed.setIfInBounds i true).getD j false=true:=by
 by_cases e:i=j
 ·subst e
  rcases Nat.lt_or_ge i listed.size with h' | h'
  ·simp[h']
  ·simp[Array.getElem?_eq_none h']at h
 ·rw[getD_set_ne false e];exact h
theorem Shuts.set{md:Region.Mode}{ops:Array Oper}{listed:Array Bool}(h:Shuts md ops listed){i:Nat}{o:Oper}(ho:ops[i]?=some o)(aJ:∀e∈o.after,Region.binds md e=true→listed.getD e.on false=true):Shuts md ops (listed.setIfInBounds i true):=fun k j hd hk=>by
 by_cases e:i=k
 ·subst e
  obtain⟨e,he,hb,rfl⟩:=MP ho hd;exact getD_set_true (aJ e he hb)
 ·rw[getD_set_ne false e]at hk
  exact getD_set_true (h k j hd hk)
section
variable {P:Program} {md:Region.Mode} {ops:Array Oper} {Q:Exit→Act→World→Prop}
theorem J6(hb:RT ops=true)(Inv:Array Bool→Act→World→Prop)
 (MQ:∀listed a w i o,Inv listed a w→Shuts md ops listed→listed.size=ops.size→ops[i]?=some o→listed.getD i true=false→(∀e∈o.after,Region.binds md e=true→listed.getD e.on false=true)→wpOp P ops Q i (Inv (listed.setIfInBounds i true)) a w)
 (iJ:∀listed a w,Inv listed a w→(∀i,i<ops.size→listed.getD i true=true)→Q .normal a w):
 ∀(fuel:Nat) (listed:Array Bool) (a:Act) (w:World),listed.size=ops.size→listed.toList.count false≤fuel→Shuts md ops listed→Inv listed a w→wpAny P md ops Q fuel listed a w:=by
 have uK:∀listed a w,Inv listed a w→Region.ready md ops listed= []→Q .normal a w:=fun listed a w hI h0=>iJ listed a w hI fun i hi=>by
  cases hd:listed.getD i true with
  | true=>rfl
  | false=>exact absurd h0 (Wh hb i hi hd)
 intro fuel
 induction fuel with
 | zero=>
  intro listed a w hs hc cC hI;have h0:Region.ready md ops listed= []:=by
   cases hr:Region.ready md ops listed with
   | nil=>rfl
   | cons i l=>
    have hi:=(mem_ready.1 (by rw[hr];simp:i∈Region.ready md ops listed)).1;have hlt:i<listed.size:=by
     rcases Nat.lt_or_ge i listed.size with h' | h'
     ·exact h'
     ·simp[Array.getElem?_eq_none h']at hi
    have h2:false∈listed.toList:=by
     simp[hlt]at hi;rw[←hi];simp
    have h3:=List.count_pos_iff.2 h2;omega
  exact⟨h0,uK _ _ _ hI h0⟩
 | succ fuel ih=>
  intro listed a w hs hc cC hI;refine⟨uK _ _ _ hI,fun i hi=> ?_⟩;obtain⟨hl,o,ho,aJ⟩:=mem_ready.1 hi;refine wpOp_mono (fun a' w' hI'=>ih _ _ _ (by simpa using hs) ?_ (cC.set ho aJ) hI') (MQ listed a w i o hI cC hs ho hl aJ);have hlt:i<listed.size:=by
   rcases Nat.lt_or_ge i listed.size with h' | h'
   ·exact h'
   ·simp[Array.getElem?_eq_none h']at hl
  have hv:listed.toList[i]'(by simpa using hlt)=false:=by simpa [hlt]using hl
  have h2:false∈listed.toList:=by rw[←hv];exact List.getElem_mem _
  have h3:=List.count_pos_iff.2 h2;rw[Array.toList_setIfInBounds,List.count_set (by simpa using hlt),hv];rw[if_pos (by rfl),if_neg dz];omega
end
theorem Cg{q:Prop}(z:q:=by
 go_wp2;go_loopw [5,8] (fun _ i wr=>∃k:Nat,k≤l.length∧i= .int .i64 k∧Below w.heap.size w wr∧Hid (∀j (h:j<l.length),j<k→p l[j]=false)) (fun _ i _=>l.length-(intOf i).toNat)
 case atStart=>exact⟨0,nZ,rfl,Below.refl _ _,fun j _ h=>absurd h oz⟩
 case round=>
  obtain⟨k,hk,rfl,hB,aJ⟩:=hrel;by_cases hlt:k<l.length
  ·obtain⟨b,o,rfl,hb,hc⟩:=h.keep hB oz
   have gH:=hc k hlt;have au:CU g (#[(l[k]).val]++lb) wr (.bool (p l[k])):=by
    first
    | exact hp wr l[k] (List.getElem_mem hlt) hB
    | exact hp wr l[k] (List.getElem_mem hlt) hB (gH.2.2.2.2.more hB.size)
    | exact hp wr l[k] (List.getElem_mem hlt) hB (gH.2.2.2.2.2.more hB.size)
    | exact hp wr l[k] (List.getElem_mem hlt) hB (gH.2.2.2.2.2.2.more hB.size)
    | exact hp wr l[k] (List.getElem_mem hlt) hB (gH.2.2.2.2.2.2.2.more hB.size)
    | exact hp wr l[k] (List.getElem_mem hlt) hB (gH.2.2.2.2.2.2.2.2.2.2.more hB.size)
   clear hc hp h;have hs:=hB.size;have cD:p l[k]=true→cV p l=k:=fun hq=>nR hlt hq aJ.out
   have cQ:p l[k]=false→∀j (h:j<l.length),j<k+1→p l[j]=false:=fun hq=>lU (p:=fun r=>p r=false) aJ.out hq
   have dU:=lz cD;have dH:=lz cQ;clear cD cQ aJ;generalize l[k]=r at gH au dU dH;first
   | obtain⟨c0,c1,c2,c3,c4,c5,c6,c7,c8,c9,_⟩:=gH
   | obtain⟨c0,c1,c2,c3,c4,c5,c6,_⟩:=gH
   | obtain⟨c0,c1,c2,c3,c4,c5,_⟩:=gH
   | obtain⟨c0,c1,c2,c3,c4,_⟩:=gH
   | obtain⟨c0,c1,c2,c3,_⟩:=gH
   | obtain⟨c0,c1,c2,c3⟩:=gH
   | obtain⟨c0,c1,c2⟩:=gH
   have aN:=lz au;clear au
   cases hq:p r with
   | true=>
    have cD:=lz (dU.out hq);rw[hq]at aN;clear dU dH hq;go_wp2_with (go_at_fn g;refine aN.out.mono ?_;rintro e w' ⟨rfl,hb'⟩);go_ret;exact⟨eT cD.out.symm,hB.trans (hb'.mono hs)⟩
   | false=>
    have cQ:=lz (dH.out hq);rw[hq]at aN;clear dU dH hq;go_wp2_with (go_at_fn g;refine aN.out.mono ?_;rintro e w' ⟨rfl,hb'⟩);go_roundw
    case rel=>exact⟨k+1,oz,by go_num,hB.trans (hb'.mono hs),cQ⟩
    case measure=>simp[intOf];omega
  ·go_wp2
   go_ret;exact⟨eT (nM fun j hj=>aJ.out j hj oz).symm,hB⟩):q:=z
theorem Ch{q:Prop}(z:q:=by
 go_wp2_with fail;refine hI.mono ?_;rintro e w1 ⟨rfl,aU⟩;clear hI;go_wp2;go_ret;exact⟨rfl,aU⟩):q:=z
theorem pI{q:Prop}(z:q:=by
 have Hc:=lz (au (W.alloc x.obj) (bN));have c0:(W.alloc x.obj).cell? ⟨Bx,0,none⟩=some (.func (.func g) #[] lb):=(hb.alloc _).cell 0;have hlt:=hb.lt;clear au hb;go_wp2_with (go_at_fn g;refine Hc.out.mono ?_;rintro e w' ⟨rfl,hb'⟩);go_ret;exact⟨rfl,((Below.refl _ W).alloc nL x.obj).trans (hb'.mono qz)⟩):q:=z
theorem pJ{q:Prop}(z:q:=by
 have eP:=lz aZ;have cU:=lz bY;generalize l.all p=b at *;clear h1 bY aZ hp h;go_wp2_with fail;refine eP.out.mono ?_;rintro e w1 ⟨rfl,aU⟩;have HB:=lz (cU.out.trans (aU.mono cU.out.size));clear eP aU;go_wp2;go_ret;exact⟨by cases b<;>rfl,HB.out⟩):q:=z
theorem Tv:rU 234 CK ku:=by
 intro g lb p eg l A c w hp h hl;go_enter Tryz.func234,Tryz.ntmps234;exact Cg
theorem wX:rV 158 CK ku:=by
 intro g lb p eg l A c w hp h hl;have hI:=Tv g lb p eg l A c w hp h hl;rw[←eZ];generalize cV p l=q at hI ⊢;clear h hp;go_enter Tryz.func158,Tryz.ntmps158;exact Ch
theorem Tw:rU 318 J7 jo:=by
 intro g lb p eg l A c w hp h hl;go_enter Tryz.func318,Tryz.ntmps318;exact Cg
theorem J8:rV 301 J7 jo:=by
 intro g lb p eg l A c w hp h hl;have hI:=Tw g lb p eg l A c w hp h hl;rw[←eZ];generalize cV p l=q at hI ⊢;clear h hp;go_enter Tryz.func301,Tryz.ntmps301;exact Ch
theorem DI:rU 229 wY fu:=by
 intro g lb p eg l A c w hp h hl;go_enter Tryz.func229,Tryz.ntmps229;exact Cg
theorem uL:rV 135 wY fu:=by
 intro g lb p eg l A c w hp h hl;have hI:=DI g lb p eg l A c w hp h hl;rw[←eZ];generalize cV p l=q at hI ⊢;clear h hp;go_enter Tryz.func135,Tryz.ntmps135;exact Ch
theorem PN:rU 230 wZ gI:=by
 intro g lb p eg l A c w hp h hl;go_enter Tryz.func230,Tryz.ntmps230;exact Cg
theorem uM:rV 137 wZ gI:=by
 intro g lb p eg l A c w hp h hl;have hI:=PN g lb p eg l A c w hp h hl;rw[←eZ];generalize cV p l=q at hI ⊢;clear h hp;go_enter Tryz.func137,Tryz.ntmps137;exact Ch
theorem DJ:rU 231 xg fW:=by
 intro g lb p eg l A c w hp h hl;go_enter Tryz.func231,Tryz.ntmps231;exact Cg
theorem uN:rV 139 xg fW:=by
 intro g lb p eg l A c w hp h hl;have hI:=DJ g lb p eg l A c w hp h hl;rw[←eZ];generalize cV p l=q at hI ⊢;clear h hp;go_enter Tryz.func139,Tryz.ntmps139;exact Ch
theorem xk:rU 104 qX dK:=by
 intro g lb p eg l A c w hp h hl;go_enter Tryz.func104,Tryz.ntmps104;exact Cg
theorem rW:rV 144 qX dK:=by
 intro g lb p eg l A c w hp h hl;have hI:=xk g lb p eg l A c w hp h hl;rw[←eZ];generalize cV p l=q at hI ⊢;clear h hp;go_enter Tryz.func144,Tryz.ntmps144;exact Ch
theorem FR:rU 270 sR dY:=by
 intro g lb p eg l A c w hp h hl;go_enter Tryz.func270,Tryz.ntmps270;exact Cg
theorem zl:rV 212 sR dY:=by
 intro g lb p eg l A c w hp h hl;have hI:=FR g lb p eg l A c w hp h hl;rw[←eZ];generalize cV p l=q at hI ⊢;clear h hp;go_enter Tryz.func212,Tryz.ntmps212;exact Ch
theorem xq:rU 106 qY dL:=by
 intro g lb p eg l A c w hp h hl;go_enter Tryz.func106,Tryz.ntmps106;exact Cg
theorem rX:rV 146 qY dL:=by
 intro g lb p eg l A c w hp h hl;have hI:=xq g lb p eg l A c w hp h hl;rw[←eZ];generalize cV p l=q at hI ⊢;clear h hp;go_enter Tryz.func146,Tryz.ntmps146;exact Ch
theorem PO:rU 233 xu fZ:=by
 intro g lb p eg l A c w hp h hl;go_enter Tryz.func233,Tryz.ntmps233;exact Cg
theorem uO:rV 148 xu fZ:=by
 intro g lb p eg l A c w hp h hl;have hI:=PO g lb p eg l A c w hp h hl;rw[←eZ];generalize cV p l=q at hI ⊢;clear h hp;go_enter Tryz.func148,Tryz.ntmps148;exact Ch
theorem Wi:rU 243 J9 mV:=by
 intro g lb p eg l A c w hp h hl;go_enter Tryz.func243,Tryz.ntmps243;exact Cg
theorem AJ:rV 169 J9 mV:=by
 intro g lb p eg l A c w hp h hl;have hI:=Wi g lb p eg l A c w hp h hl;rw[←eZ];generalize cV p l=q at hI ⊢;clear h hp;go_enter Tryz.func169,Tryz.ntmps169;exact Ch
theorem Ka:rU 244 qZ fA:=by
 intro g lb p eg l A c w hp h hl;go_enter Tryz.func244,Tryz.ntmps244;exact Cg
theorem rY:rV 171 qZ fA:=by
 intro g lb p eg l A c w hp h hl;have hI:=Ka g lb p eg l A c w hp h hl;rw[←eZ];generalize cV p l=q at hI ⊢;clear h hp;go_enter Tryz.func171,Tryz.ntmps171;exact Ch
theorem FT:rU 245 pS dS:=by
 intro g lb p eg l A c w hp h hl;go_enter Tryz.func245,Tryz.ntmps245;exact Cg
theorem qC:rV 173 pS dS:=by
 intro g lb p eg l A c w hp h hl;have hI:=FT g lb p eg l A c w hp h hl;rw[←eZ];generalize cV p l=q at hI ⊢;clear h hp;go_enter Tryz.func173,Tryz.ntmps173;exact Ch
theorem FU:pK aM.val 136 133:=by
 intro g lb eg Bx b x W hb au;go_enter Tryz.func136,Tryz.ntmps136;exact pI
theorem Tx:jF 56 wY fu:=by
 intro g lb p eg l A c w hp h hl;obtain⟨h1,bY⟩:=fF w 133 #[.func (.func g) #[] lb];have aZ:=uL 136 #[.pointer (some ⟨w.heap.size,0,none⟩)] (fun x=> !p x) (enters_of Tryz.func136 kz rfl) l A c _ (fun W x hx hW fK=>FU g lb eg _ (p x) x W (h1.below hW h1.lt) fun W' hW'=>hp W' x hx (Fx bY hW hW') (fK.below hW')) (h.below bY) hl;rw[cB]at aZ;go_enter Tryz.func56,Tryz.ntmps56;exact pJ
theorem FW:pK cT.val 138 134:=by
 intro g lb eg Bx b x W hb au;go_enter Tryz.func138,Tryz.ntmps138;exact pI
theorem Iy:jF 57 wZ gI:=by
 intro g lb p eg l A c w hp h hl;obtain⟨h1,bY⟩:=fF w 134 #[.func (.func g) #[] lb];have aZ:=uM 138 #[.pointer (some ⟨w.heap.size,0,none⟩)] (fun x=> !p x) (enters_of Tryz.func138 kz rfl) l A c _ (fun W x hx hW fK=>FW g lb eg _ (p x) x W (h1.below hW h1.lt) fun W' hW'=>hp W' x hx (Fx bY hW hW') (fK.below hW')) (h.below bY) hl;rw[cB]at aZ;go_enter Tryz.func57,Tryz.ntmps57;exact pJ
theorem FX:pK aC.val 140 137:=by
 intro g lb eg Bx b x W hb au;go_enter Tryz.func140,Tryz.ntmps140;exact pI
theorem Tz:jF 59 xg fW:=by
 intro g lb p eg l A c w hp h hl;obtain⟨h1,bY⟩:=fF w 137 #[.func (.func g) #[] lb];have aZ:=uN 140 #[.pointer (some ⟨w.heap.size,0,none⟩)] (fun x=> !p x) (enters_of Tryz.func140 kz rfl) l A c _ (fun W x hx hW fK=>FX g lb eg _ (p x) x W (h1.below hW h1.lt) fun W' hW'=>hp W' x hx (Fx bY hW hW') (fK.below hW')) (h.below bY) hl;rw[cB]at aZ;go_enter Tryz.func59,Tryz.ntmps59;exact pJ
theorem Ci:pK bT.val 145 139:=by
 intro g lb eg Bx b x W hb au;go_enter Tryz.func145,Tryz.ntmps145;exact pI
theorem AL:jF 66 qX dK:=by
 intro g lb p eg l A c w hp h hl;obtain⟨h1,bY⟩:=fF w 139 #[.func (.func g) #[] lb];have aZ:=rW 145 #[.pointer (some ⟨w.heap.size,0,none⟩)] (fun x=> !p x) (enters_of Tryz.func145 kz rfl) l A c _ (fun W x hx hW fK=>Ci g lb eg _ (p x) x W (h1.below hW h1.lt) fun W' hW'=>hp W' x hx (Fx bY hW hW') (fK.below hW')) (h.below bY) hl;rw[cB]at aZ;go_enter Tryz.func66,Tryz.ntmps66;exact pJ
theorem Cj:pK iI.val 147 140:=by
 intro g lb eg Bx b x W hb au;go_enter Tryz.func147,Tryz.ntmps147;exact pI
theorem MR:jF 67 qY dL:=by
 intro g lb p eg l A c w hp h hl;obtain⟨h1,bY⟩:=fF w 140 #[.func (.func g) #[] lb];have aZ:=rX 147 #[.pointer (some ⟨w.heap.size,0,none⟩)] (fun x=> !p x) (enters_of Tryz.func147 kz rfl) l A c _ (fun W x hx hW=>Cj g lb eg _ (p x) x W (h1.below hW h1.lt) fun W' hW'=>hp W' x hx (Fx bY hW hW')) (h.below bY) hl;rw[cB]at aZ;go_enter Tryz.func67,Tryz.ntmps67;exact pJ
theorem FY:pK aO.val 149 141:=by
 intro g lb eg Bx b x W hb au;go_enter Tryz.func149,Tryz.ntmps149;exact pI
theorem TB:jF 68 xu fZ:=by
 intro g lb p eg l A c w hp h hl;obtain⟨h1,bY⟩:=fF w 141 #[.func (.func g) #[] lb];have aZ:=uO 149 #[.pointer (some ⟨w.heap.size,0,none⟩)] (fun x=> !p x) (enters_of Tryz.func149 kz rfl) l A c _ (fun W x hx hW=>FY g lb eg _ (p x) x W (h1.below hW h1.lt) fun W' hW'=>hp W' x hx (Fx bY hW hW')) (h.below bY) hl;rw[cB]at aZ;go_enter Tryz.func68,Tryz.ntmps68;exact pJ
theorem MS:pK fU.val 170 179:=by
 intro g lb eg Bx b x W hb au;go_enter Tryz.func170,Tryz.ntmps170;exact pI
theorem aAy:jF 88 J9 mV:=by
 intro g lb p eg l A c w hp h hl;obtain⟨h1,bY⟩:=fF w 179 #[.func (.func g) #[] lb];have aZ:=AJ 170 #[.pointer (some ⟨w.heap.size,0,none⟩)] (fun x=> !p x) (enters_of Tryz.func170 kz rfl) l A c _ (fun W x hx hW fK=>MS g lb eg _ (p x) x W (h1.below hW h1.lt) fun W' hW'=>hp W' x hx (Fx bY hW hW') (fK.below hW')) (h.below bY) hl;rw[cB]at aZ;go_enter Tryz.func88,Tryz.ntmps88;exact pJ
theorem Kc:pK gu.val 159 171:=by
 intro g lb eg Bx b x W hb au;go_enter Tryz.func159,Tryz.ntmps159;exact pI
theorem Wj:jF 83 CK ku:=by
 intro g lb p eg l A c w hp h hl;obtain⟨h1,bY⟩:=fF w 171 #[.func (.func g) #[] lb];have aZ:=wX 159 #[.pointer (some ⟨w.heap.size,0,none⟩)] (fun x=> !p x) (enters_of Tryz.func159 kz rfl) l A c _ (fun W x hx hW fK=>Kc g lb eg _ (p x) x W (h1.below hW h1.lt) fun W' hW'=>hp W' x hx (Fx bY hW hW') (fK.below hW')) (h.below bY) hl;rw[cB]at aZ;go_enter Tryz.func83,Tryz.ntmps83;exact pJ
theorem Ck:pK iK.val 172 181:=by
 intro g lb eg Bx b x W hb au;go_enter Tryz.func172,Tryz.ntmps172;exact pI
theorem MU:jF 92 qZ fA:=by
 intro g lb p eg l A c w hp h hl;obtain⟨h1,bY⟩:=fF w 181 #[.func (.func g) #[] lb];have aZ:=rY 172 #[.pointer (some ⟨w.heap.size,0,none⟩)] (fun x=> !p x) (enters_of Tryz.func172 kz rfl) l A c _ (fun W x hx hW fK=>Ck g lb eg _ (p x) x W (h1.below hW h1.lt) fun W' hW'=>hp W' x hx (Fx bY hW hW') (fK.below hW')) (h.below bY) hl;rw[cB]at aZ;go_enter Tryz.func92,Tryz.ntmps92;exact pJ
theorem zm:pK lF.val 174 182:=by
 intro g lb eg Bx b x W hb au;go_enter Tryz.func174,Tryz.ntmps174;exact pI
theorem Ke:jF 93 pS dS:=by
 intro g lb p eg l A c w hp h hl;obtain⟨h1,bY⟩:=fF w 182 #[.func (.func g) #[] lb];have aZ:=qC 174 #[.pointer (some ⟨w.heap.size,0,none⟩)] (fun x=> !p x) (enters_of Tryz.func174 kz rfl) l A c _ (fun W x hx hW=>zm g lb eg _ (p x) x W (h1.below hW h1.lt) fun W' hW'=>hp W' x hx (Fx bY hW hW')) (h.below bY) hl;rw[cB]at aZ;go_enter Tryz.func93,Tryz.ntmps93;exact pJ
def aAz{α:Type}(X:Nat→Prop)(f:Nat)(lb:Array Value)(encs:α→Array Value)(xs:List α)(w:World):Prop:=
 ∀(l:Nat) (W:World) (J Jx:List α→World→Prop),Below w.heap.size w W→(∀T W W',J T W→Below W.heap.size W W'→J T W')→(∀T W W',Jx T W→Below W.heap.size W W'→Jx T W')→J [] W→
  (∀T (t:α) W',T++ [t] <+: xs→Gr X w W'→J T W'→YieldAt Fence.wide 7 pG l (encs t) W' fun e W2=>(e= .returned (.bool true)∧J (T++ [t]) W2∧Gr X W' W2)∨(e= .returned (.bool false)∧Jx (T++ [t]) W2))→
  CallsIn Fence.wide 8 pG f (#[.func (.yield l) #[] #[]]++lb) W fun e W'=>(∃v,e= .returned v)∧(J xs W'∨∃T,T <+: xs∧Jx T W')
theorem aA0{α:Type}{g:Operand}{ps:Array Tmp}{assign body:Code}{Q:Exit→Act→World→Prop}{a:Act}{w:World}{gf:Nat}{lb:Array Value}{encs:α→Array Value}{xs:List α}{X:Nat→Prop}(hg:a.eval g= .func (.func gf) #[] lb)
 (eg:∀args w,(callFunc gf args).run pG w= .ok (.enter gf args) w) (BX:∀t,(encs t).size=ps.size) (hX:∀k,X k→k<w.heap.size) (MV:aAz X gf lb encs xs w)
 (Post lW:List α→World→Prop) (hPb:∀T W W',Post T W→Below W.heap.size W W'→Post T W') (hEb:∀T W W',lW T W→Below W.heap.size W W'→lW T W')
 (MW:∀T (l:Nat) W (o o':Obj),w.heap.size≤l→W.heap[l]?=some o→o.isCells=false→Post T W→Post T (W.putObj l o'))
 (MX:∀T (l:Nat) W (o o':Obj),w.heap.size≤l→W.heap[l]?=some o→o.isCells=false→lW T W→lW T (W.putObj l o'))
 (hP0:Post [] w)
 (Ax:List α→α→Act→World→Prop) (Kf:∀T t (l:Nat) a' W (o o':Obj),w.heap.size≤l→W.heap[l]?=some o→o.isCells=false→Ax T t a' W→Ax T t a' (W.putObj l o'))
 (rm:∀(l:Nat) T (t:α) (W:World) (K:Act→World→Prop),T++ [t] <+: xs→w.heap.size+2≤W.heap.size→Gr X w W→Post T W→
  (∀a' W',KeepsFrom w.heap.size W W'→Gr X W W'→Ax T t a' W'→K a' W')→
  assign.wpIn (Fence.wide.inRound l) 7 pG (Exit.then K (fun _ _ _=>False)) {tmps:=(ps.zip (encs t)).foldl (fun t (p,v)=>t.setIfInBounds p v) a.tmps,defers:= []} W)
 (DK:∀(l:Nat) T (t:α) (a':Act) (W:World),T++ [t] <+: xs→Gr X w W→Ax T t a' W→body.wpIn (Fence.wide.inRound l) 7 pG (fun e a3 W3=>KeepsFrom w.heap.size W W3∧((e= .normal∧Gr X W W3∧Post (T++ [t]) W3)∨(e= .ret∧lW (T++ [t]) W3))) a' W)
 (uK:∀(D:Nat) (W3:World),w.heap.size≤D→Post xs W3→W3.heap[D]?=some (.deferred (some []))→Q .normal {a with defers:={target:= .collected D,args:= #[]} :: a.defers} W3)
 (Wk:∀(D:Nat) T (W3:World),w.heap.size≤D→T <+: xs→lW T W3→W3.heap[D]?=some (.deferred (some []))→Q .ret {a with defers:={target:= .collected D,args:= #[]} :: a.defers} W3):
 (Code.rangeFunc g ps assign body).wpIn Fence.wide 9 pG Q a w:=by
 refine wpIn_rangeFunc ?_;intro fn RF;obtain⟨rec,jL⟩:∃rec:LoopState→Option Code→Loop,rec=fun st pe=>{state:=st,pending:=pe,fn,tmps:=a.tmps,params:=ps,assign,body,defers:=w.heap.size}:=⟨_,rfl⟩
 obtain⟨W1,hW1⟩:=ez ((w.alloc (.deferred (some []))).alloc (.loop (rec .ready none)));have DL:W1.heap[w.heap.size+1]?=some (.loop (rec .ready none)):=by
  rw[hW1];have:=World.alloc_heap_new (w.alloc (.deferred (some []))) (.loop (rec .ready none));rwa[World.size_alloc]at this
 have TD:W1.heap[w.heap.size]?=some (.deferred (some [])):=by
  rw[hW1];exact(Below.heap_alloc _ _ _ qz).trans (World.alloc_heap_new w _)
 have aU:Below w.heap.size w W1:=by rw[hW1];exact(bN).alloc qz _
 have hz1:W1.heap.size=w.heap.size+2:=by rw[hW1];simp
 refine⟨w.heap.size+1,[{target:= .collected w.heap.size,args:= #[]}],W1,{target:= .fn (.func gf) lb,args:= #[.func (.yield (w.heap.size+1)) #[] #[]]},W1,gf,#[.func (.yield (w.heap.size+1)) #[] #[]]++lb,W1,?_,?_,?_,?_,fun _=>by omega,?_⟩
 ·rw[hW1,jL];exact run_enterLoop_outer _ _ _ _ _
 ·simp only[resolve,hg];simp[go_sem]
 ·intro f' PS;simp[Target.leads]at PS;subst PS;trivial
 ·simp[invoke,go_sem,eg]
 have hgr:∀W (o:Obj) l,w.heap.size≤l→Gr X w W→Gr X w (W.putObj l o):=fun W o l hl h=>
  ⟨h.os,h.tape,h.output,by simpa using h.size,fun k hk hn=>(World.putObj_heap_other oz).trans (h.block k hk hn)⟩
 have Kg:∀T (t:α) W,T++ [t] <+: xs→Gr X w W→Post T W→W.heap[w.heap.size+1]?=some (.loop (rec .ready none))→W.heap[w.heap.size]?=some (.deferred (some []))→
  YieldAt Fence.wide 7 pG (w.heap.size+1) (encs t) W fun e W2=>
   (e= .returned (.bool true)∧(Post (T++ [t]) W2∧W2.heap[w.heap.size+1]?=some (.loop (rec .ready none))∧W2.heap[w.heap.size]?=some (.deferred (some [])))∧Gr X W W2)∨
   (e= .returned (.bool false)∧lW (T++ [t]) W2∧W2.heap[w.heap.size+1]?=some (.loop (rec .done (some .ret)))∧W2.heap[w.heap.size]?=some (.deferred (some []))):=by
  intro T t W hT hG hP hl hk;have hy:=run_yield (P:=pG) (args:=encs t) hl (by rw[jL];exact BX t);rw[jL]at hy;have hsz:w.heap.size+2≤W.heap.size:=by
   have:=(gE hl).1;omega
  refine⟨fn,_,assign,body,hy,roundIn_of_wpIn RF (rm _ T t W _ hT hsz hG hP ?_)⟩;intro a' Wa hkf hga Vr;have FZ:=hkf.same _ _ oz hl rfl;have hka:=hkf.same _ _ nL hk rfl;have hlt:w.heap.size+1<Wa.heap.size:=(gE FZ).1;refine⟨_,run_beginRound FZ (by rw[jL]),?_⟩;have Cb:(Wa.putObj (w.heap.size+1) (.loop {rec .ready none with state:= .busy})).heap[w.heap.size+1]?=some (.loop {rec .ready none with state:= .busy}):=World.putObj_heap_same hlt;have rZ:(Wa.putObj (w.heap.size+1) (.loop {rec .ready none with state:= .busy})).heap[w.heap.size]?=some (.deferred (some [])):=(World.putObj_heap_other oz).trans hka;refine wpIn_mono (DK _ T t a' _ hT (hgr _ _ _ oz (hG.trans hga)) (Kf _ _ _ _ _ _ _ oz FZ rfl Vr)) ?_;rintro e a3 W3 ⟨zn,Wm⟩;have qD:=zn.same _ _ oz Cb rfl;have Wn:=zn.same _ _ nL rZ rfl;have TF:w.heap.size+1<W3.heap.size:=(gE qD).1;rcases Wm with⟨rfl,hX3,zo⟩ | ⟨rfl,zo⟩
  ·have hr:=run_endRound (P:=pG) none qD
   refine⟨_,_,hr,.inl ⟨rfl,⟨MW _ _ _ _ _ oz qD rfl zo,?_,(World.putObj_heap_other oz).trans Wn⟩,?_⟩⟩
   ·refine(World.putObj_heap_same TF).trans ?_
    rw[jL];rfl
   ·refine⟨hX3.os.trans hga.os,hX3.tape.trans hga.tape,hX3.output.trans hga.output,?_,fun k hk hn=> ?_⟩
    ·have h1:=hX3.size
     have h2:=hga.size;simp at h1 ⊢;omega
    ·by_cases e:k=w.heap.size+1
     ·subst e
      refine Eq.trans ?_ hl.symm;refine(World.putObj_heap_same TF).trans ?_;rw[jL];rfl
     ·have rZ:k<Wa.heap.size:=Nat.lt_of_lt_of_le hk hga.size
      exact(World.putObj_heap_other e).trans ((hX3.block k (by simpa using rZ) hn).trans ((World.putObj_heap_other e).trans (hga.block k hk hn)))
  ·have hr:=run_endRound (P:=pG) (some .ret) qD
   refine⟨_,_,hr,.inr ⟨rfl,MX _ _ _ _ _ oz qD rfl zo,?_,(World.putObj_heap_other oz).trans Wn⟩⟩;refine(World.putObj_heap_same TF).trans ?_;rw[jL];rfl
 have qR:∀W W' (o o':Obj),W.heap[w.heap.size+1]?=some o→W.heap[w.heap.size]?=some o'→Below W.heap.size W W'→W'.heap[w.heap.size+1]?=some o∧W'.heap[w.heap.size]?=some o':=fun W W' o o' h1 h2 hG=>
  ⟨(hG.block _ (gE h1).1).trans h1,(hG.block _ (gE h2).1).trans h2⟩
 refine(MV (w.heap.size+1) W1 (fun T W=>Post T W∧W.heap[w.heap.size+1]?=some (.loop (rec .ready none))∧W.heap[w.heap.size]?=some (.deferred (some [])))
  (fun T W=>lW T W∧W.heap[w.heap.size+1]?=some (.loop (rec .done (some .ret)))∧W.heap[w.heap.size]?=some (.deferred (some []))) aU
  (fun T W W' h hG=>⟨hPb _ _ _ h.1 hG,qR _ _ _ _ h.2.1 h.2.2 hG⟩) (fun T W W' h hG=>⟨hEb _ _ _ h.1 hG,qR _ _ _ _ h.2.1 h.2.2 hG⟩) ⟨hPb _ _ _ hP0 aU,DL,TD⟩ ?_).mono ?_
 ·intro T t W' hT hG hJ
  exact Kg T t W' hT hG hJ.1 hJ.2.1 hJ.2.2
 ·rintro e W3 ⟨⟨v,rfl⟩,iJ⟩
  rcases iJ with⟨hP,qD,zn⟩ | ⟨T,hT,hP,qD,zn⟩
  ·have hr:=run_endLoop (P:=pG) qD (by rw[jL];simp)
   rw[show(rec .ready none).pending=none by rw[jL]]at hr;refine⟨none,_,hr,?_⟩;exact uK _ _ nL (MW _ _ _ _ _ oz qD rfl hP) ((World.putObj_heap_other oz).trans zn)
  ·have hr:=run_endLoop (P:=pG) qD (by rw[jL];simp)
   rw[show(rec .done (some .ret)).pending=some .ret by rw[jL]]at hr;refine⟨some .ret,_,hr,?_⟩;exact wpIn_ret (Wk _ _ _ nL hT (MX _ _ _ _ _ oz qD rfl hP) ((World.putObj_heap_other oz).trans zn))
theorem zq{B:Nat}{W:World}{l:Nat}(o':Obj)(hl:B≤l):Below B W (W.putObj l o'):=⟨rfl,rfl,rfl,qz,fun k hk=>World.putObj_heap_other oz⟩
theorem mW{W:World}{l Bx:Nat}{t:TypeId}{cs:Array Value}{o o':Obj}(h:ah W Bx t cs)(ho:W.heap[l]?=some o)(hc:o.isCells=false):ah (W.putObj l o') Bx t cs:=by
 have hne:Bx≠l:=fun e=>by subst e;rw[show W.heap[Bx]?=_ from h]at ho;cases ho;cases hc
 exact(World.putObj_heap_other hne).trans h
theorem DM{B:Nat}{X:Nat→Prop}{W W':World}(h:Gr X W W')(hX:∀k,X k→k<B):KeepsFrom B W W':=
 ⟨h.size,fun k o hk ho hc=>(h.block k (gE ho).1 (fun hx=>absurd (hX k hx) oz)).trans ho⟩
theorem tQ{α:Type}{g:Operand}{ps:Array Tmp}{assign body:Code}{Q:Exit→Act→World→Prop}{a:Act}{w:World}{gf:Nat}{lb:Array Value}{encs:α→Array Value}{xs:List α}{X XE:Nat→Prop}(hg:a.eval g= .func (.func gf) #[] lb)
 (eg:∀args w,(callFunc gf args).run pG w= .ok (.enter gf args) w) (BX:∀t,(encs t).size=ps.size) (hX:∀k,X k→k<w.heap.size) (hXE:∀k,XE k→k<w.heap.size) (MV:aAz X gf lb encs xs w)
 (I IE:List α→World→Prop) (hI:∀T W W',I T W→Below w.heap.size W W'→I T W') (RU:∀T W W',IE T W→Below w.heap.size W W'→IE T W') (TG:I [] w)
 (Ax:α→Act→World→Prop) (Kf:∀t (l:Nat) a' W (o o':Obj),w.heap.size≤l→W.heap[l]?=some o→o.isCells=false→Ax t a' W→Ax t a' (W.putObj l o'))
 (rm:∀(l:Nat) T (t:α) (W:World) (K:Act→World→Prop),T++ [t] <+: xs→w.heap.size+2≤W.heap.size→(∀a' W',Below W.heap.size W W'→Ax t a' W'→K a' W')→
  assign.wpIn (Fence.wide.inRound l) 7 pG (Exit.then K (fun _ _ _=>False)) {tmps:=(ps.zip (encs t)).foldl (fun t (p,v)=>t.setIfInBounds p v) a.tmps,defers:= []} W)
 (DK:∀(l:Nat) T (t:α) (a':Act) (W:World),T++ [t] <+: xs→w.heap.size+2≤W.heap.size→Gr X w W→I T W→Ax t a' W→body.wpIn (Fence.wide.inRound l) 7 pG (fun e _ W3=>(e= .normal∧Gr X W W3∧I (T++ [t]) W3)∨(e= .ret∧Gr XE W W3∧IE (T++ [t]) W3)) a' W)
 (uK:∀(D:Nat) (W3:World),w.heap.size≤D→w.heap.size≤W3.heap.size→I xs W3→W3.heap[D]?=some (.deferred (some []))→Q .normal {a with defers:={target:= .collected D,args:= #[]} :: a.defers} W3)
 (Wk:∀(D:Nat) T (W3:World),w.heap.size≤D→w.heap.size≤W3.heap.size→T <+: xs→IE T W3→W3.heap[D]?=some (.deferred (some []))→Q .ret {a with defers:={target:= .collected D,args:= #[]} :: a.defers} W3):
 (Code.rangeFunc g ps assign body).wpIn Fence.wide 9 pG Q a w:=by
 refine aA0 hg eg BX hX MV (fun T W=>w.heap.size≤W.heap.size∧I T W) (fun T W=>w.heap.size≤W.heap.size∧IE T W)
  (fun T W W' h hb=>⟨nT h.1 hb.size,hI _ _ _ h.2 (hb.mono h.1)⟩) (fun T W W' h hb=>⟨nT h.1 hb.size,RU _ _ _ h.2 (hb.mono h.1)⟩)
  (fun T l W o o' hl ho hc h=>⟨by simpa using h.1,hI _ _ _ h.2 (zq o' hl)⟩) (fun T l W o o' hl ho hc h=>⟨by simpa using h.1,RU _ _ _ h.2 (zq o' hl)⟩) ⟨nL,TG⟩
  (fun T t a' W=>w.heap.size+2≤W.heap.size∧I T W∧Ax t a' W) (fun T t l a' W o o' hl ho hc h=>⟨by simpa using h.1,hI _ _ _ h.2.1 (zq o' hl),Kf _ _ _ _ _ _ hl ho hc h.2.2⟩)
  (fun l T t W K hT hsz hG hP hK=>rm l T t W K hT hsz fun a' W' hb Vr=>hK a' W' (DM (X:=fun _=>False) (Gr.ak hb) (fun _ h=>h.elim)) (Gr.ak hb) ⟨nT hsz hb.size,hI _ _ _ hP.2 (hb.mono oz),Vr⟩)
  (fun l T t a' W hT hG Vr=>wpIn_mono (DK l T t a' W hT Vr.1 hG Vr.2.1 Vr.2.2) fun e a3 W3 h=> ?_)
  (fun D W3 hD h hk=>uK D W3 hD h.1 h.2 hk) (fun D T W3 hD hT h hk=>Wk D T W3 hD h.1 hT h.2 hk)
 have h1:=Vr.1;rcases h with⟨he,wk,hi⟩ | ⟨he,wk,hi⟩
 ·exact⟨DM wk hX,.inl ⟨he,wk,by have:=wk.size;omega,hi⟩⟩
 ·exact⟨DM wk hXE,.inr ⟨he,by have:=wk.size;omega,hi⟩⟩
end
end Go.Proofs.YtmdgooofdmpcjaaGreatDoor
