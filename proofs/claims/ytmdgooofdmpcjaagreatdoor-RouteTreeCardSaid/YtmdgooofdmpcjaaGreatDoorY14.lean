import Derived.Test.YtmdgooofdmpcjaaGreatDoorY13
import Derived.Test.YtmdgooofdmpcjaaGreatDoorY0
set_option maxRecDepth 100000
set_option maxHeartbeats 8000000
set_option linter.unusedSimpArgs false
set_option linter.unusedVariables false
set_option linter.unusedSectionVars false
open Go.Proofs.Tryz renaming prog → pG
namespace Go.Proofs.YtmdgooofdmpcjaaGreatDoor
section
open Go.ChangeShapes Go.WideShapes Go.ChangeAt Go.RowKit
attribute [local go_sem] Oper.semAt_some
structure zM(W:World)(base b mb:Nat)(q:List Nat)(src n:Nat)(d:List Int)(p:List aI):Prop where
 box:∃qv cs,sB W b mb qv src n d p cs∧pO W base qv q
 hb:base≤b
def aIg:List Nat→Value
 | []=> .tuple #[.int .i64 0,.bool false]
 | m :: _=> .tuple #[.int .i64 (m:Int),.bool true]
section
variable {W W':World} {base b mb:Nat} {q:List Nat} {src n:Nat} {d:List Int} {p:List aI}
theorem zM.below(h:zM W base b mb q src n d p)(hb:Below W.heap.size W W'):zM W' base b mb q src n d p:=by
 obtain⟨⟨qv,cs,h1,h2⟩,h3⟩:=h;exact⟨⟨qv,cs,h1.move (h1.blk.below hb h1.blk.lt),h2.below hb⟩,h3⟩
theorem aDZ(w:World)(h:zM w base b mb q src n d p)(hq:q.length≤1000):
 Calls pG 179 #[.pointer (some ⟨b,0,none⟩)] w fun e w'=>
  e= .returned (aIg q)∧zM w' base b mb q.tail src n d p∧Gr (· =b) w w':=by
 obtain⟨⟨qv,cs,h1,h2⟩,h3⟩:=h;have k0:=h1.k0;have f0:=h1.kf 0
 cases q with
 | nil=>
  have hlen:∃A c,qv= .slice A 0 c:=by
   rcases h2 with⟨rfl,_⟩ | ⟨g,off,cap,ds,rfl,_⟩
   ·exact⟨_,_,rfl⟩
   ·exact⟨_,_,rfl⟩
  obtain⟨A,c,rfl⟩:=hlen;have H1:=lz h1;have H2:=lz h2;have H3:=lz h3;clear h1 h2 h3;go_enter Tryz.func179,Tryz.ntmps179;go_wp2_with fail;refine bodyPost_ret (results_tmp2 rfl _ _ _) rfl ?_;exact⟨rfl,⟨⟨_,_,H1.out,H2.out⟩,H3.out⟩,Gr.refl _ _⟩
 | cons m r=>
  obtain⟨g,off,cap,rfl,hc1,qc,hcell,lS⟩:=pO.pop h2;have Mh:(1:Int)≤(cap:Int):=by omega
  have H1:=lz h1;have H3:=lz h3;by_cases aIh:cap=1
  ·subst aIh
   rw[if_pos rfl]at lS;have hr:r= []:=List.eq_nil_of_length_eq_zero oz;subst hr;have H2:=lz lS;clear h1 h2 h3 lS;go_enter Tryz.func179,Tryz.ntmps179;go_wp2_with fail;refine bodyPost_ret (results_tmp2 rfl _ _ _) rfl ?_;exact⟨rfl,⟨⟨_,_,H1.out.aEt _,H2.out.far (Gr.setCell (X:=(· =b)) _ _ _ rfl) H1.out.blk dz⟩,H3.out⟩,Gr.setCell _ _ _ rfl⟩
  ·rw[if_neg aIh]at lS
   have H2:=lz lS;clear h1 h2 h3 lS;go_enter Tryz.func179,Tryz.ntmps179;go_wp2_with fail;refine bodyPost_ret (results_tmp2 rfl _ _ _) rfl ?_;exact⟨rfl,⟨⟨_,_,H1.out.aEt _,H2.out.far (Gr.setCell (X:=(· =b)) _ _ _ rfl) H1.out.blk dz⟩,H3.out⟩,Gr.setCell _ _ _ rfl⟩
theorem Nw:(pG.info? 3).map (fun i=>(i.zero,i.size,i.bytes))=some (some (.int .i64 0),1,8):=by kernel_rfl
def PuX(w:World)(base b:Nat)(j:Nat):Prop:=j=b∨(base≤j∧∃ds,ah w j 3 ds)
theorem Xa(k:Nat)(w:World)(h:zM w base b mb q src n d p)(hq:q.length≤1000)(IG:base≤w.heap.size):
 Calls pG 178 #[.pointer (some ⟨b,0,none⟩),.int .i64 k] w fun e w'=>
  (∃v,e= .returned v)∧zM w' base b mb (q++ [k]) src n d p∧Gr (PuX w base b) w w':=by
 obtain⟨⟨qv,cs,h1,h2⟩,h3⟩:=h;have k0:=h1.k0;have f0:=h1.kf 0;obtain⟨i0,lX,hz0,hz1,hz2⟩:=info_parts Nw;obtain⟨w1,cN⟩:=ez (w.alloc (.cells #[.int .i64 k] 3));have bY:Below w.heap.size w w1:=by rw[cN];exact bN
 have h1':sB w1 b mb qv src n d p cs:=h1.move (h1.blk.below bY h1.blk.lt);have k1:w1.cell? ⟨b,0,none⟩=some qv:=h1'.k0;have f1:w1.frozen? ⟨b,0,none⟩=false:=h1'.kf 0;have Gl:∀j u,[Value.int .i64 (k:Int)][j]?=some u→w1.cell? ((⟨w.heap.size,0,none⟩:Addr).add j)=some u:=by
  intro j u hj;rw[bO,Nat.zero_add,cN,(ah.new w 3 #[.int .i64 k]).cell j];simpa using hj
 have key:∀(v:Value) (W:World),pO W base v (q++ [k])→sB W b mb qv src n d p cs→Gr (PuX w base b) w W→
  zM (W.setCell ⟨b,0,none⟩ v) base b mb (q++ [k]) src n d p∧Gr (PuX w base b) w (W.setCell ⟨b,0,none⟩ v):=fun v W hQ hS hG=>
  ⟨⟨⟨_,_,hS.aEt v,hQ.far (Gr.setCell (X:=(· =b)) _ _ _ rfl) hS.blk dz⟩,h3⟩,hG.trans' (Gr.setCell (X:=(· =b)) _ _ _ rfl) (fun j _ e=> .inl e)⟩
 have hg1:Gr (PuX w base b) w w1:=Gr.ak bY;have Key:=lz key;have lH:=lz cN;have cU:=lz bY;have H1:=lz h1';have Hg1:=lz hg1;rcases h2 with⟨rfl,rfl⟩ | ⟨g,off,cap,ds,rfl,hg0,aBY,hlc,Pk,hsz,hel⟩
 ·clear key cN bY h1 h1' hg1 k1 f1
  go_enter Tryz.func178,Tryz.ntmps178;go_wp2_with (at_builtin;rw[←lH.out];refine wpList_append_own _ rfl (.tmp 8) (.tmp 10) 36 rfl base 3 i0 (.int .i64 0) 1 8 Tryz.underlying36 lX hz0 hz1 hz2 rfl dz _ _ _ rfl (World.ownsRow_nil _ _ _ _) ⟨w.heap.size,0,none⟩ 1 1 [.int .i64 k] rfl rfl Gl ?c2 ?c3 ?c4 ?c5 ?_)
  case c2=>intro u' kQ;simp at kQ;subst kQ;rfl
  case c3=>unfold maxLen;omega
  case c4=>omega
  case c5=>have:=cU.out.size;omega
  intro v W hown hgr _;obtain⟨Av,cv,rfl,_⟩:=bp hown;have AX:Gr (PuX w base b) w W:=Hg1.out.trans' (Gr.eO (X:=fun _=>False) hgr (fun j e=>by cases e)) (fun j _ e=>e.elim);have jY:sB W b mb (.slice none 0 0) src n d p cs:=H1.out.move ((H1.out.blk).grown hgr (by simp[Value.ownBlock]));have Sk:pO W base (.slice Av (0+1) cv) [k]:=pO.Pw (L:= [k]) hown rfl;have k2:=jY.k0;have f2:=jY.kf 0;have HF:=lz (Key.out _ W Sk jY AX);clear jY Sk AX hown hgr Gl Key k0 f0;go_wp2_with fail;refine bodyPost_end (results_none rfl _ _ _) rfl ?_;exact⟨⟨_,rfl⟩,HF.out⟩
 ·have Ec:ah w1 g 3 ds:=aBY.below bY aBY.lt
  have hold:∀j u,(q.map fun x:Nat=>Value.int .i64 (x:Int))[j]?=some u→w1.cell? ⟨g,off+j,none⟩=some u:=by
   intro j u hj;rw[List.getElem?_map]at hj
   cases hqj:q[j]? with
   | none=>rw[hqj]at hj;cases hj
   | some x=>
    rw[hqj]at hj;obtain⟨hjl,hx⟩:=List.getElem?_eq_some_iff.1 hqj;rw[Ec.cell (off+j),hel j hjl,hx];simpa using hj
  have Fv:q.length+1≤cap→∀j,j< [Value.int .i64 (k:Int)].length→(w1.cell? ⟨g,off+q.length*1+j,none⟩).isSome=true∧w1.frozen? ⟨g,off+q.length*1+j,none⟩=false:=fun hr j hj=>by
   have:j=0:=by simpa using hj
   subst this;refine⟨?_,Ec.frozen _⟩;rw[Ec.cell];rw[Array.getElem?_eq_getElem oz];rfl
  have hgs:g≠b:=Ec.Fu h1'.blk dz;have hgw:∃es,ah w g 3 es:=⟨ds,aBY⟩;have Hgb:=lz Ec;have Hel:=lz hel;clear key cN bY h1 h1' hg1 k1 f1 Ec aBY hel;go_enter Tryz.func178,Tryz.ntmps178;go_wp2_with (at_builtin;rw[←lH.out];refine wpList_append_arg _ rfl (.tmp 8) (.tmp 10) 36 rfl 3 i0 (.int .i64 0) 1 8 Tryz.underlying36 lX hz0 hz1 hz2 rfl dz g off q.length cap (q.map fun x:Nat=>Value.int .i64 (x:Int)) rfl qz hold ⟨w.heap.size,0,none⟩ 1 1 [.int .i64 k] rfl rfl Gl ?c2 Fv ?c3 ?c4 ?room ?grow)
  case c2=>intro u' kQ;simp at kQ;subst kQ;rfl
  case c3=>unfold maxLen;omega
  case c4=>omega
  case room=>
   intro hr;have hgr:Gr (PuX w base b) w (w1.setCells g (off+q.length) [.int .i64 k]):=Hg1.out.trans' (Gr.setCell (X:=(· =g)) _ _ _ rfl) (fun j _ e=> .inr (by subst e;exact⟨hg0,hgw⟩));have jY:sB (w1.setCells g (off+q.length) [.int .i64 k]) b mb _ src n d p cs:=H1.out.move (H1.out.blk.far (Ne.symm hgs) _);have Sk:pO (w1.setCells g (off+q.length) [.int .i64 k]) base (.slice (some ⟨g,off,none⟩) (q.length+1) cap) (q++ [k]):=by
    refine .inr ⟨g,off,cap,ds.setIfInBounds (off+q.length) (.int .i64 k),qz,hg0,Hgb.out.bX _ _,qo,Pk,by simpa using hsz,fun j hj=> ?_⟩;rw[List.length_append,List.length_singleton]at hj;by_cases c:j<q.length
    ·rw[Array.getElem?_setIfInBounds_ne oz,List.getElem_append_left c];exact Hel.out j c
    ·have:j=q.length:=by omega
     subst this;rw[Array.getElem?_setIfInBounds_self_of_lt oz];simp
   have HF:=lz (Key.out _ _ Sk jY hgr);have k2:=jY.k0;have f2:=jY.kf 0;generalize w1.setCells g (off+q.length) [.int .i64 k]=W at *;clear jY Sk hgr Gl Key k0 f0 hold Fv;go_wp2_with fail;refine bodyPost_end (results_none rfl _ _ _) rfl ?_;exact⟨⟨_,rfl⟩,HF.out⟩
  case grow=>
   intro hr v W hown hgr;obtain⟨Av,cv,rfl,_⟩:=bp hown;have AX:Gr (PuX w base b) w W:=Hg1.out.trans' (Gr.eO (X:=fun _=>False) hgr (fun j e=>by cases e)) (fun j _ e=>e.elim);have jY:sB W b mb _ src n d p cs:=H1.out.move (H1.out.blk.grown hgr qz);have Sk:pO W base (.slice Av (q.length+1) cv) (q++ [k]):=pO.Pw (L:=q++ [k]) (by simpa using nV hown (show base≤w1.heap.size by have:=cU.out.size;omega)) qz;have k2:=jY.k0;have f2:=jY.kf 0;have HF:=lz (Key.out _ W Sk jY AX);clear jY Sk AX hown hgr Gl Key k0 f0 hold Fv;go_wp2_with fail;refine bodyPost_end (results_none rfl _ _ _) rfl ?_;exact⟨⟨_,rfl⟩,HF.out⟩
end
def orV(x y:Int):Int:=if x≠0 then x else y
theorem Sm(x y:Int)(A:Option Addr)(c:Nat)(w:World)(h:fV w w.heap.size A [x,y])(hc:2≤c):
 Calls pG 41 #[.slice A 2 c] w fun e w'=>e= .returned (.int .i64 (orV x y))∧w'=w:=by
 obtain⟨b,o,rfl,hb,hcell⟩:=h qz;have c0:w.cell? ⟨b,o,none⟩=some (.int .i64 x):=by simpa using hcell 0 qz
 have c1:w.cell? ⟨b,o+1,none⟩=some (.int .i64 y):=by simpa using hcell 1 qz
 go_enter Tryz.func41,Tryz.ntmps41;go_wp2;go_loopw [5,8] (fun v t wr=>∃k:Nat,k≤2∧t= .int .i64 k∧(1≤k→x=0)∧(2≤k→y=0)∧wr=w) (fun _ t _=>2-(intOf t).toNat)
 case atStart=>exact⟨0,oz,rfl,oz,oz,rfl⟩
 case round=>
  obtain⟨k,hk,rfl,h1,h2,rfl⟩:=hrel
  match k,hk with
  | 0,_=>
   by_cases hx:x=0
   ·subst hx
    go_wp2;go_roundw
    case rel=>exact⟨1,oz,by go_num,fun _=>trivial,fun h=>absurd h oz,trivial⟩
    case measure=>simp[intOf]
   ·have hx':(x !=0)=true:=by simpa using hx
    go_wp2;go_ret;exact⟨show Ending.returned (Value.int .i64 x)=_ from by unfold orV;rw[if_pos hx],rfl⟩
  | 1,_=>
   have hx:=h1 oz;subst hx;by_cases hy:y=0
   ·subst hy
    go_wp2;go_roundw
    case rel=>exact⟨2,oz,by go_num,fun _=>trivial,fun _=>trivial,trivial⟩
    case measure=>simp[intOf]
   ·have hy':(y !=0)=true:=by simpa using hy
    go_wp2;go_ret;exact⟨show Ending.returned (Value.int .i64 y)=_ from by unfold orV;rw[if_neg qz],rfl⟩
  | 2,_=>
   have hx:=h1 oz;have hy:=h2 oz;subst hx hy;go_wp2;go_ret;exact⟨rfl,rfl⟩
structure aQ.Fin(E:List aI)(N src:Nat)(s:aQ):Prop where
 inv:aQ.Inv E N src s
 q:s.q= []
theorem aBZ{E:List aI}{N src:Nat}(hE:∀e∈E,e.t<N)(hs:src<N):aQ.Fin E N src (bfs E N src):=⟨(Si hE hs).1,(Si hE hs).2⟩
abbrev aQ.par(s:aQ)(n:Nat):aI:=s.p.getD n aI.zero
theorem aQ.kR{E:List aI}{N src:Nat}{s:aQ}(h:aQ.Inv E N src s){n:Nat}(hn:0<s.at n):s.par n∈E∧(s.par n).t=n∧0≤s.at (s.par n).f∧s.at n=s.at (s.par n).f+1:=by
 obtain⟨e,he,ht,hd,hk,hp⟩:=h.pos n hn;have:s.par n=e:=by unfold aQ.par;rw[List.getD_eq_getElem?_getD,hp];rfl
 rw[this];exact⟨he,ht,hd,hk⟩
abbrev aQ.chain(s:aQ)(src m:Nat):List aI:=uQ s.p src (s.at m).toNat m
theorem IW(s:aQ)(src:Nat):∀k,uQ s.p src k src= []
 | 0=>rfl
 | k+1=>by unfold uQ;rw[if_pos rfl]
theorem iT{E:List aI}{N src:Nat}{s:aQ}(h:aQ.Inv E N src s){m:Nat}(hm:0<s.at m):s.chain src m=s.par m :: s.chain src (s.par m).f:=by
 obtain⟨_,ht,hd,hk⟩:=aQ.kR h hm;have hne:m≠src:=fun c=>by have:=(h.zero m).2 c;omega
 unfold aQ.chain;rw[show(s.at m).toNat=(s.at (s.par m).f).toNat+1 from by omega];show(if m=src then[]else _)=_;rw[if_neg hne]
theorem zN{E:List aI}{N src:Nat}{s:aQ}(h:aQ.Inv E N src s){m:Nat}(hm:s.at m=0):s.chain src m= []:=by
 unfold aQ.chain;rw[hm];rfl
theorem IX{E:List aI}{N src:Nat}{s:aQ}(h:aQ.Inv E N src s):∀(k m:Nat),s.at m=k→∀e∈s.chain src m,0<s.at e.t∧s.at e.t≤s.at m∧e=s.par e.t∧(e.t=m∨∃e'∈s.chain src m,e'.f=e.t)∧(e.f=src∨∃e'∈s.chain src m,e'.t=e.f)
 | 0,m,hk,e,he=>by rw[zN h (by simpa using hk)]at he;cases he
 | k+1,m,hk,e,he=>by
  have hm:0<s.at m:=by omega
  obtain⟨_,ht,hd,hkk⟩:=aQ.kR h hm;rw[iT h hm]at he ⊢;rcases List.mem_cons.1 he with rfl | he
  ·refine⟨by rw[ht];exact hm,by rw[ht];exact Int.le_refl _,by rw[ht],.inl ht,?_⟩
   by_cases c:(s.par m).f=src
   ·exact .inl c
   ·have hp:0<s.at (s.par m).f:=by
     have:s.at (s.par m).f≠0:=fun x=>c ((h.zero _).1 x)
     omega
    refine .inr ⟨s.par (s.par m).f,?_,(aQ.kR h hp).2.1⟩;rw[iT h hp];simp
  ·obtain⟨h1,h2,h3,h4,h5⟩:=IX h k (s.par m).f oz e he
   refine⟨h1,oz,h3,.inr ?_,?_⟩
   ·rcases h4 with h4 | ⟨e',jm,h4⟩
    ·exact⟨_,List.mem_cons_self ..,h4.symm⟩
    ·exact⟨e',List.mem_cons_of_mem _ jm,h4⟩
   ·rcases h5 with h5 | ⟨e',jm,h5⟩
    ·exact .inl h5
    ·exact .inr ⟨e',List.mem_cons_of_mem _ jm,h5⟩
theorem IY{E:List aI}{N src:Nat}{s:aQ}(h:aQ.Inv E N src s){out:List aI}(hp:∀e∈out,0<s.at e.t∧e=s.par e.t)(hc:∀e∈out,e.f=src∨∃e'∈out,e'.t=e.f):
 ∀(k m:Nat),s.at m=k→m∈out.map (·.t)→∀e∈s.chain src m,e∈out
 | 0,m,hk,_,e,he=>by rw[zN h (by simpa using hk)]at he;cases he
 | k+1,m,hk,hm,e,he=>by
  have yc:0<s.at m:=by omega
  obtain⟨a,ha,rfl⟩:=List.mem_map.1 hm;have hpa:=(hp a ha).2;obtain⟨_,ht,hd,hkk⟩:=aQ.kR h yc;rw[iT h yc]at he;rcases List.mem_cons.1 he with rfl | he
  ·rw[←hpa];exact ha
  ·rw[←hpa]at he hkk
   rcases hc a ha with c | ⟨e',jm,c⟩
   ·rw[c]at he
    rw[show s.chain src src= []from IW s src _]at he;cases he
   ·exact IY h hp hc k a.f oz (List.mem_map.2 ⟨e',jm,c⟩) e he
theorem uS{E:List aI}{N src:Nat}{s:aQ}(h:aQ.Inv E N src s){out:List aI}(hp:∀e∈out,0<s.at e.t∧e=s.par e.t)(hc:∀e∈out,e.f=src∨∃e'∈out,e'.t=e.f):
 ∀(k m:Nat) (met:List Nat),s.at m=k→(∀x∈met,s.at x≤k→x∈out.map (·.t))→(∀x∈out.map (·.t),x∈met)→(∀e∈dM met (s.chain src m),e∈s.chain src m)∧∀e∈s.chain src m,e∈out++dM met (s.chain src m)
 | 0,m,met,hk,_,_=>by rw[zN h (by simpa using hk)];exact⟨fun e he=>(by cases he),fun e he=>(by cases he)⟩
 | k+1,m,met,hk,h1,h2=>by
  have hm:0<s.at m:=by omega
  obtain⟨_,ht,hd,hkk⟩:=aQ.kR h hm;rw[iT h hm];unfold dM;rw[ht];split
  ·rename_i c
   refine⟨fun e he=>(by cases he),fun e he=> ?_⟩;rw[List.append_nil];rw[←iT h hm]at he;exact IY h hp hc (k+1) m hk (h1 m c oz) e he
  ·obtain⟨i1,i2⟩:=uS h hp hc k (s.par m).f (m :: met) oz (fun x hx WH=>by
    rcases List.mem_cons.1 hx with rfl | hx
    ·omega
    ·exact h1 x hx oz) (fun x hx=>List.mem_cons_of_mem _ (h2 x hx))
   refine⟨fun e he=> ?_,fun e he=> ?_⟩
   ·rcases List.mem_cons.1 he with rfl | he
    ·exact List.mem_cons_self ..
    ·exact List.mem_cons_of_mem _ (i1 e he)
   ·rcases List.mem_cons.1 he with rfl | he
    ·exact List.mem_append_right _ (List.mem_cons_self ..)
    ·rcases List.mem_append.1 (i2 e he)with he | he
     ·exact List.mem_append_left _ he
     ·exact List.mem_append_right _ (List.mem_cons_of_mem _ he)
structure qg(E:List aI)(s:aQ)(src:Nat)(ms:List Nat)(H:List aI):Prop where
 nodup:(H.map (·.t)).Nodup
 mem:∀e,e∈H↔∃m∈ms,e∈s.chain src m
theorem qg.of{E:List aI}{N src:Nat}{s:aQ}(h:aQ.Inv E N src s){ms:List Nat}{H:List aI}(hh:qg E s src ms H)(Pm:∀m∈ms,0≤s.at m):
 (∀e∈H,0<s.at e.t∧e=s.par e.t)∧(∀e∈H,e.f=src∨∃e'∈H,e'.t=e.f)∧(∀e∈H,e.t∈ms∨∃e'∈H,e'.f=e.t):=by
 refine⟨fun e he=> ?_,fun e he=> ?_,fun e he=> ?_⟩;all_goals
  obtain⟨m,hm,he⟩:=(hh.mem e).1 he;obtain⟨k,hk⟩:∃k:Nat,s.at m=k:=⟨(s.at m).toNat,by have:=Pm m hm;omega⟩;obtain⟨c1,c2,c3,c4,c5⟩:=IX h k m hk e he
 ·exact⟨c1,c3⟩
 ·rcases c5 with c5 | ⟨e',jm,c5⟩
  ·exact .inl c5
  ·exact .inr ⟨e',(hh.mem e').2 ⟨m,hm,jm⟩,c5⟩
 ·rcases c4 with c4 | ⟨e',jm,c4⟩
  ·exact .inl (c4▸hm)
  ·exact .inr ⟨e',(hh.mem e').2 ⟨m,hm,jm⟩,c4⟩
theorem Nx{E:List aI}{N src:Nat}{s:aQ}(h:aQ.Inv E N src s):∀(ms ds:List Nat) (out:List aI),(∀m∈ms,0≤s.at m)→(∀m∈ds,0≤s.at m)→qg E s src ds out→qg E s src (ds++ms) (jj s src ms out)
 | [],ds,out,_,_,ho=>by simpa [jj]using ho
 | m :: ms,ds,out,hm,hd,ho=>by
  obtain⟨p1,p2,p3⟩:=ho.of h hd;obtain⟨k,hk⟩:∃k:Nat,s.at m=k:=⟨(s.at m).toNat,by have:=hm m qz;omega⟩;obtain⟨t1,t2⟩:=uS h p1 p2 k m (out.map (·.t)) hk (fun x hx _=>hx) (fun x hx=>hx);obtain⟨n1,n2⟩:=uR (s.chain src m) (out.map (·.t));unfold jj;have h1:qg E s src (ds++ [m]) (out++dM (out.map (·.t)) (s.chain src m)):=by
   refine⟨?_,fun e=>⟨fun he=> ?_,fun he=> ?_⟩⟩
   ·rw[List.map_append]
    exact List.nodup_append.2 ⟨ho.nodup,n1,fun a ha b hb c=>n2 b hb (c▸ha)⟩
   ·rcases List.mem_append.1 he with he | he
    ·obtain⟨m',Kw,he⟩:=(ho.mem e).1 he
     exact⟨m',List.mem_append_left _ Kw,he⟩
    ·exact⟨m,qz,t1 e he⟩
   ·obtain⟨m',Kw,he⟩:=he
    rcases List.mem_append.1 Kw with Kw | Kw
    ·exact List.mem_append_left _ ((ho.mem e).2 ⟨m',Kw,he⟩)
    ·simp at Kw;subst Kw;exact t2 e he
  have:=Nx h ms (ds++ [m]) _ (fun x hx=>hm x (by simp[hx])) (fun x hx=>by
   rcases List.mem_append.1 hx with hx | hx
   ·exact hd x hx
   ·simp at hx;subst hx;exact hm x qz) h1
  simpa using this
theorem CR{E:List aI}{N src:Nat}{s:aQ}(h:aQ.Inv E N src s)(ms:List Nat)(hm:∀m∈ms,0≤s.at m):qg E s src ms (jj s src ms []):=by
 have:=Nx h ms [] [] hm (fun _ h=>by cases h) ⟨qz,fun e=>by simp⟩;simpa using this
structure jk(E:List aI)(s:aQ)(src:Nat)(ms:List Nat)(R:List aI):Prop where
 ok:qg E s src ms R
 ord:R.Pairwise (aI.before s)
theorem jk.Ky{E:List aI}{s:aQ}{src:Nat}{ms:List Nat}{H R:List aI}(h:qg E s src ms H)(hp:R.Perm H)(ho:R.Pairwise (aI.before s)):jk E s src ms R:=
 ⟨⟨(hp.map _).nodup_iff.2 h.nodup,fun e=>(hp.mem_iff).trans (h.mem e)⟩,ho⟩
def bU(met:List Nat):List aI→List Nat
 | []=>met
 | e :: L=>if e.f∈met then bU (e.t :: met) L else bU met L
theorem rD:∀(L:List aI) (met:List Nat),∀x∈met,x∈bU met L
 | [],met,x,h=>h
 | e :: L,met,x,h=>by
  unfold bU;split
  ·exact rD L _ x (by simp[h])
  ·exact rD L _ x h
theorem tW:∀(L:List aI) (met:List Nat),∀x∈bU met L,x∈met∨∃e∈L,e.t=x
 | [],met,x,h=> .inl h
 | e :: L,met,x,h=>by
  unfold bU at h;split at h
  ·rcases tW L _ x h with h | ⟨e',jm,h⟩
   ·rcases List.mem_cons.1 h with rfl | h
    ·exact .inr ⟨e,qz,rfl⟩
    ·exact .inl h
   ·exact .inr ⟨e',by simp[jm],h⟩
  ·rcases tW L _ x h with h | ⟨e',jm,h⟩
   ·exact .inl h
   ·exact .inr ⟨e',by simp[jm],h⟩
theorem pV:∀(L:List aI) (a b:List Nat),(∀x∈a,x∈b)→∀x∈bU a L,x∈bU b L
 | [],a,b,h,x,hx=>h x hx
 | e :: L,a,b,h,x,hx=>by
  unfold bU at hx ⊢;split at hx
  ·rename_i c
   rw[if_pos (h _ c)];refine pV L _ _ (fun y hy=> ?_) x hx;rcases List.mem_cons.1 hy with rfl | hy
   ·simp
   ·simp[h y hy]
  ·split
   ·exact pV L _ _ (fun y hy=>by simp[h y hy]) x hx
   ·exact pV L _ _ h x hx
theorem lT:∀(L M:List aI) (met:List Nat),bU met (L++M)=bU (bU met L) M
 | [],M,met=>rfl
 | e :: L,M,met=>by
  rw[List.cons_append];show(if e.f∈met then bU (e.t :: met) (L++M)else bU met (L++M))=bU (if e.f∈met then bU (e.t :: met) L else bU met L) M;split
  ·exact lT L M _
  ·exact lT L M _
theorem Ny{E:List aI}{N src:Nat}{s:aQ}(h:aQ.Inv E N src s){ms:List Nat}{R:List aI}(hr:jk E s src ms R)(Pm:∀m∈ms,0≤s.at m)(i:Nat)(hi:i<R.length):
 R[i].f=src∨R[i].f∈(R.take i).map (·.t):=by
 obtain⟨p1,p2,p3⟩:=hr.ok.of h Pm;rcases p2 R[i] (List.getElem_mem hi)with c | ⟨e',jm,c⟩
 ·exact .inl c
 ·refine .inr ?_
  obtain⟨j,hj,rfl⟩:=List.mem_iff_getElem.1 jm;have h1:=p1 R[i] (List.getElem_mem hi);have h2:=aQ.kR h h1.1;rw[←h1.2]at h2;have CA:j<i:=Classical.byContradiction fun hn=>by
   rcases Nat.lt_or_eq_of_le (Nat.not_lt.1 hn)with hn | hn
   ·have:=List.pairwise_iff_getElem.1 hr.ord i j hi hj hn
    unfold aI.before at this;rw[c]at this;omega
   ·subst hn;rw[c]at h2;omega
  exact List.mem_map.2 ⟨R[j],List.mem_iff_getElem.2 ⟨j,qo,qz⟩,c⟩
theorem IZ{src:Nat}:∀(R:List aI) (met:List Nat),src∈met→(∀i (hi:i<R.length),R[i].f=src∨R[i].f∈met∨R[i].f∈(R.take i).map (·.t))→∀x,x∈bU met R↔x∈met∨x∈R.map (·.t)
 | [],met,_,_,x=>by simp[bU]
 | e :: R,met,hs,h,x=>by
  have h0:e.f∈met:=by
   rcases h 0 (by simp)with c | c | c
   ·simp at c;rw[c];exact hs
   ·simpa using c
   ·simp at c
  have h1:∀i (hi:i<R.length),R[i].f=src∨R[i].f∈e.t :: met∨R[i].f∈(R.take i).map (·.t):=fun i hi=>by
   have:=h (i+1) (by simpa using hi);simp only[List.getElem_cons_succ,List.take_succ_cons,List.map_cons,List.mem_cons]at this;rcases this with c | c | c | c
   ·exact .inl c
   ·exact .inr (.inl (List.mem_cons_of_mem _ c))
   ·exact .inr (.inl (by rw[c];exact List.mem_cons_self ..))
   ·exact .inr (.inr c)
  unfold bU;rw[if_pos h0,IZ R (e.t :: met) (by simp[hs]) h1 x]
  ·simp only[List.map_cons,List.mem_cons]
   constructor
   ·rintro((c | c) | c)
    ·exact .inr (.inl c)
    ·exact .inl c
    ·exact .inr (.inr c)
   ·rintro(c | c | c)
    ·exact .inl (.inr c)
    ·exact .inl (.inl c)
    ·exact .inr c
theorem Nz{E:List aI}{N src:Nat}{s:aQ}(h:aQ.Inv E N src s){ms:List Nat}{R:List aI}(hr:jk E s src ms R)(Pm:∀m∈ms,0≤s.at m)(x:Nat):x∈bU [src] R↔x=src∨x∈R.map (·.t):=by
 rw[IZ (src:=src) R [src] qz (fun i hi=>by
  rcases Ny h hr Pm i hi with c | c
  ·exact .inl c
  ·exact .inr (.inr c)) x]
 simp
theorem Qj{E:List aI}{N src M:Nat}{s:aQ}(h:aQ.Inv E N src s){ms:List Nat}{R:List aI}(hr:jk E s src ms R)(Pm:∀m∈ms,0<s.at m)(hE:∀e∈E,e.f=src∨M≤e.f)(x:Nat)(hx:x<M)(hxs:x≠src):x∈R.map (·.t)↔x∈ms:=by
 have aN2:∀m∈ms,0≤s.at m:=fun m hm=>by have:=Pm m hm;omega
 obtain⟨p1,p2,p3⟩:=hr.ok.of h aN2;constructor
 ·intro hx'
  obtain⟨e,he,rfl⟩:=List.mem_map.1 hx';rcases p3 e he with c | ⟨e',jm,c⟩
  ·exact c
  ·have h1:=p1 e' jm
   have h2:=aQ.kR h h1.1;rw[←h1.2]at h2;rcases hE e' h2.1 with d | d
   ·exact absurd (c.symm.trans d) hxs
   ·omega
 ·intro hx'
  have h0:=Pm x hx';refine List.mem_map.2 ⟨s.par x,(hr.ok.mem _).2 ⟨x,hx',?_⟩,(aQ.kR h h0).2.1⟩;rw[iT h h0];simp
theorem CT{α:Type}[DecidableEq α]:∀(l m:List α),l.Nodup→(∀x∈l,x∈m)→l.length≤m.length
 | [],m,_,_=>Nat.zero_le _
 | a :: l,m,hn,hs=>by
  obtain⟨h1,h2⟩:=List.nodup_cons.1 hn;have ha:=hs a qz;have:=CT l (m.erase a) h2 fun x hx=>(List.mem_erase_of_ne (fun(c:x=a)=>h1 (c▸hx))).2 (hs x (by simp[hx]))
  rw[List.length_erase_of_mem ha]at this;have:0<m.length:=List.length_pos_of_mem ha;simp;omega
theorem Un{R:List aI}{src x:Nat}(hn:(R.map (·.t)).Nodup)(k:Nat)(hk:k<R.length)(hx:R[k].t≠src):R[k].t∉bU [src] (R.eraseIdx k):=fun h=>by
 rcases tW _ _ _ h with h | ⟨e,he,h⟩
 ·simp at h;exact hx h
 ·obtain⟨j,hj,hjk,hje⟩:=List.mem_eraseIdx_iff_getElem.1 he
  rw[←hje]at h;exact hjk ((List.getElem_inj (xs:=R.map fun e:aI=>e.t) (h₀:=by simpa using hj) (h₁:=by simpa using hk) hn).1 (by simpa using h))
theorem rE:∀(L:List aI) (met:List Nat) (e:aI),e.f∉bU met L→e.t∉met→(∀e'∈L,e'.t=e.t→e'=e)→e.t∉bU met L
 | [],met,e,_,ht,_=>ht
 | a :: L,met,e,hf,ht,hu=>by
  unfold bU at hf ⊢;split
  ·rename_i c
   rw[if_pos c]at hf;have hne:¬e.t=a.t:=fun d=>by
    have:=hu a qz d.symm;subst this;exact hf (rD _ _ _ (by simp[c]))
   exact rE L _ e hf (fun d=>by
    rcases List.mem_cons.1 d with d | d
    ·exact hne d
    ·exact ht d) (fun e' jm=>hu e' (by simp[jm]))
  ·rename_i c
   rw[if_neg c]at hf;exact rE L _ e hf ht (fun e' jm=>hu e' (by simp[jm]))
theorem Xb{E:List aI}{N src:Nat}{s:aQ}(h:aQ.Inv E N src s){ms:List Nat}{R:List aI}(hr:jk E s src ms R)(Pm:∀m∈ms,0≤s.at m)(hN:∀x,s.at x≤N)(k:Nat)(hk:k<R.length):
 ∃m∈ms,m≠src∧m∉bU [src] (R.eraseIdx k):=by
 obtain⟨p1,p2,p3⟩:=hr.ok.of h Pm;have hns:∀e∈R,e.t≠src:=fun e he c=>by
  have:=(p1 e he).1;rw[c,(h.zero src).2 rfl]at this;omega
 have go:∀(d:Nat) (e:aI),e∈R→(N:Int)-s.at e.t≤d→e.t∉bU [src] (R.eraseIdx k)→∃m∈ms,m≠src∧m∉bU [src] (R.eraseIdx k):=by
  intro d
  induction d with
  | zero=>
   intro e he hd hl;rcases p3 e he with c | ⟨e',jm,c⟩
   ·exact⟨_,c,hns e he,hl⟩
   ·have h1:=p1 e' jm
    have h2:=aQ.kR h h1.1;rw[←h1.2]at h2;have:=hN e'.t;rw[c]at h2;omega
  | succ d ih=>
   intro e he hd hl;rcases p3 e he with c | ⟨e',jm,c⟩
   ·exact⟨_,c,hns e he,hl⟩
   ·have h1:=p1 e' jm
    have h2:=aQ.kR h h1.1;rw[←h1.2]at h2;refine ih e' jm (by rw[c]at h2;omega) ?_;refine rE _ _ e' (by rw[c];exact hl) (by simpa using hns e' jm) (fun a ha hat=> ?_);have ha':a∈R:=List.mem_of_mem_eraseIdx ha;rw[(p1 a ha').2,h1.2,hat]
 exact go ((N:Int)-s.at R[k].t).toNat R[k] (List.getElem_mem hk) oz (Un (x:=src) hr.ok.nodup k hk (hns _ (List.getElem_mem hk)))
theorem rF:∀(R:List aI) (k:Nat) (met:List Nat),∀x∈bU met (R.eraseIdx k),x∈bU met R
 | [],k,met,x,h=>by simpa using h
 | e :: R,0,met,x,h=>by
  rw[List.eraseIdx_zero,List.tail_cons]at h;unfold bU;split
  ·exact pV R _ _ (fun y hy=>by simp[hy]) x h
  ·exact h
 | e :: R,k+1,met,x,h=>by
  rw[List.eraseIdx_cons_succ]at h;unfold bU at h ⊢;split
  ·rename_i c;rw[if_pos c]at h;exact rF R k _ x h
  ·rename_i c;rw[if_neg c]at h;exact rF R k _ x h
theorem Bn{p q:Nat→Bool}:∀(l:List Nat),(∀x,p x=true→q x=true)→(∃x∈l,q x=true∧p x=false)→(l.filter p).length<(l.filter q).length
 | [],_,h=>by obtain⟨x,hx,_⟩:=h;cases hx
 | y :: l,hpq,h=>by
  have hle:(l.filter p).length≤(l.filter q).length:=by
   clear h
   induction l with
   | nil=>simp
   | cons z l ih=>
    by_cases c:p z=true
    ·rw[List.filter_cons_of_pos c,List.filter_cons_of_pos (hpq z c)];simpa using ih
    ·rw[List.filter_cons_of_neg c]
     by_cases d:q z=true
     ·rw[List.filter_cons_of_pos d];simp;omega
     ·rw[List.filter_cons_of_neg d];exact ih
  obtain⟨x,hx,hq,hp⟩:=h;rcases List.mem_cons.1 hx with rfl | hx
  ·rw[List.filter_cons_of_pos hq,List.filter_cons_of_neg (by simp[hp])];simp;omega
  ·have ih:=Bn l hpq ⟨x,hx,hq,hp⟩
   by_cases c:p y=true
   ·rw[List.filter_cons_of_pos c,List.filter_cons_of_pos (hpq y c)];simpa using ih
   ·rw[List.filter_cons_of_neg c]
    by_cases d:q y=true
    ·rw[List.filter_cons_of_pos d];simp;omega
    ·rw[List.filter_cons_of_neg d];exact ih
theorem aQ.tX{E:List aI}{N src:Nat}{s:aQ}(h:aQ.Inv E N src s)(hN:0<N):∀x,s.at x≤N:=fun x=>by
 rcases Int.lt_or_le (s.at x) 0 with c | c
 ·omega
 have aJ:∀(k m:Nat),s.at m=k→∀j:Nat,j≤k→((j:Nat):Int)∈s.d:=by
  intro k
  induction k with
  | zero=>
   intro m hk j hj;have:j=0:=by omega
   subst this;have hm:m<s.d.length:=Classical.byContradiction fun hc=>by
    have:s.at m= -1:=by unfold aQ.at;rw[List.getD_eq_getElem?_getD,List.getElem?_eq_none oz];rfl
    omega
   have:s.d[m]=((0:Nat):Int):=by rw[←hk];unfold aQ.at;rw[List.getD_eq_getElem?_getD,List.getElem?_eq_getElem hm];rfl
   exact this▸List.getElem_mem hm
  | succ k ih=>
   intro m hk j hj;rcases Nat.lt_or_eq_of_le hj with hj | rfl
   ·obtain⟨_,_,hd,hkk⟩:=aQ.kR h (n:=m) oz
    exact ih (s.par m).f oz j oz
   ·have hm:m<s.d.length:=Classical.byContradiction fun hc=>by
     have:s.at m= -1:=by unfold aQ.at;rw[List.getD_eq_getElem?_getD,List.getElem?_eq_none oz];rfl
     omega
    have:s.d[m]=((k+1:Nat):Int):=by rw[←hk];unfold aQ.at;rw[List.getD_eq_getElem?_getD,List.getElem?_eq_getElem hm];rfl
    exact this▸List.getElem_mem hm
 obtain⟨k,hk⟩:∃k:Nat,s.at x=k:=⟨(s.at x).toNat,oz⟩;have h1:((List.range (k+1)).map fun j:Nat=>(j:Int)).length≤s.d.length:=by
  refine CT _ _ ?_ fun y hy=> ?_
  ·exact List.pairwise_map.2 (List.nodup_range.imp fun h c=>h oz)
  ·obtain⟨j,hj,rfl⟩:=List.mem_map.1 hy
   exact aJ k x hk j (by have:=List.mem_range.1 hj;omega)
 simp at h1;rw[h.len]at h1;omega
open Go.Act renaming put → zP
open List renaming setIfInBounds_toArray → zA, set_cons_zero → zB, set_cons_succ → zC
section
variable {base b mb nm:Nat} {D:DataW Value} {vf:Nat→Value} {F:Nat→List aI} {src n:Nat}
theorem zM.WX{W:World}{q:List Nat}{d:List Int}{p:List aI}(h:zM W base b mb q src n d p)(k:Nat)(hk:k<12)(v:Int):zM (W.setCell ⟨b,3+k,none⟩ (.int .i64 v)) base b mb q src n (d.set k v) p:=by
 obtain⟨⟨qv,cs,h1,h2⟩,h3⟩:=h;exact⟨⟨qv,_,h1.WX k hk v,h2.far (Gr.setCell (X:=(· =b)) _ _ _ rfl) h1.blk dz⟩,h3⟩
theorem zM.aBX{W:World}{q:List Nat}{d:List Int}{p:List aI}(h:zM W base b mb q src n d p)(k:Nat)(hk:k<12)(e:aI):zM (((W.setCell ⟨b,15+k*3,none⟩ (.int .i64 e.f)).setCell ⟨b,15+k*3+1,none⟩ (.int .i64 e.t)).setCell ⟨b,15+k*3+2,none⟩ (.int .i64 e.l)) base b mb q src n d (p.set k e):=by
 obtain⟨⟨qv,cs,h1,h2⟩,h3⟩:=h;refine⟨⟨qv,_,h1.aBX k hk e,?_⟩,h3⟩;have g1:Gr (· =b) W (((W.setCell ⟨b,15+k*3,none⟩ (.int .i64 e.f)).setCell ⟨b,15+k*3+1,none⟩ (.int .i64 e.t)).setCell ⟨b,15+k*3+2,none⟩ (.int .i64 e.l)):=
  ((Gr.setCell (X:=(· =b)) _ _ _ rfl).trans (Gr.setCell (X:=(· =b)) _ _ _ rfl)).trans (Gr.setCell (X:=(· =b)) _ _ _ rfl)
 exact h2.far g1 h1.blk dz
theorem zM.kd{W:World}{q:List Nat}{d:List Int}{p:List aI}(h:zM W base b mb q src n d p)(i:Nat)(hi:i<12):W.cell? ⟨b,3+i,none⟩=some (.int .i64 (d.getD i (-1)))∧W.frozen? ⟨b,3+i,none⟩=false:=by
 obtain⟨⟨qv,cs,h1,h2⟩,h3⟩:=h;exact⟨h1.kd i hi,h1.kf _⟩
theorem zM.kp{W:World}{q:List Nat}{d:List Int}{p:List aI}(h:zM W base b mb q src n d p)(i:Nat)(hi:i<12):W.cell? ⟨b,15+i*3,none⟩=some (.int .i64 (p.getD i aI.zero).f)∧W.cell? ⟨b,15+i*3+1,none⟩=some (.int .i64 (p.getD i aI.zero).t)∧W.cell? ⟨b,15+i*3+2,none⟩=some (.int .i64 (p.getD i aI.zero).l):=by
 obtain⟨⟨qv,cs,h1,h2⟩,h3⟩:=h;exact⟨(h1.blk.cell _).trans (h1.pc i hi 0 oz),(h1.blk.cell _).trans (h1.pc i hi 1 oz),(h1.blk.cell _).trans (h1.pc i hi 2 oz)⟩
theorem zM.kfp{W:World}{q:List Nat}{d:List Int}{p:List aI}(h:zM W base b mb q src n d p)(i j:Nat):W.frozen? ⟨b,15+i*3+j,none⟩=false:=by
 obtain⟨⟨qv,cs,h1,h2⟩,h3⟩:=h;exact h1.kf _
theorem zM.k2{W:World}{q:List Nat}{d:List Int}{p:List aI}(h:zM W base b mb q src n d p):W.cell? ⟨b,1,none⟩=some (.map (some mb))∧W.cell? ⟨b,2,none⟩=some (.int .i64 src)∧W.cell? ⟨b,51,none⟩=some (.int .i64 n):=by
 obtain⟨⟨qv,cs,h1,h2⟩,h3⟩:=h;exact⟨h1.k1,h1.k2,h1.k51⟩
structure yX(w0 W:World)(base b mb nm:Nat)(D:DataW Value)(vf:Nat→Value)(F:Nat→List aI)(src n:Nat)(s:aQ):Prop where
 q:zM W base b mb s.q src n s.d s.p
 e:uj W base mb nm D vf F
 lE:Below base w0 W
 sz:base≤W.heap.size
theorem zM.blk{W:World}{q:List Nat}{d:List Int}{p:List aI}(h:zM W base b mb q src n d p):∃cs,ah W b 110 cs:=by
 obtain⟨⟨qv,cs,h1,h2⟩,h3⟩:=h;exact⟨cs,h1.blk⟩
theorem Ed{X:Nat→Prop}{w0 W W':World}(h:Below base w0 W)(hs:base≤W.heap.size)(hG:Gr X W W')(hX:∀k,k<base→¬X k):Below base w0 W':=
 ⟨hG.os.trans h.os,hG.tape.trans h.tape,hG.output.trans h.output,nT h.size hG.size,fun j hj=>(hG.block j oz (hX j hj)).trans (h.block j hj)⟩
theorem yX.below{w0 W W':World}{s:aQ}(h:yX w0 W base b mb nm D vf F src n s)(hb:Below W.heap.size W W'):yX w0 W' base b mb nm D vf F src n s:=
 ⟨h.q.below hb,h.e.below hb,h.lE.trans (hb.mono h.sz),nT h.sz hb.size⟩
theorem yX.box{w0 W W':World}{s s':aQ}(h:yX w0 W base b mb nm D vf F src n s)(hg:Gr (· =b) W W')(hq:zM W' base b mb s'.q src n s'.d s'.p):yX w0 W' base b mb nm D vf F src n s':=by
 obtain⟨cs,hb⟩:=h.q.blk;have h3:=h.q.hb;exact⟨hq,h.e.blk hg hb dz,Ed h.lE h.sz hg (fun k hk e=>by omega),nT h.sz hg.size⟩
theorem yX.push{w0 W W':World}{s s':aQ}(h:yX w0 W base b mb nm D vf F src n s)(hg:Gr (PuX W base b) W W')(hq:zM W' base b mb s'.q src n s'.d s'.p):yX w0 W' base b mb nm D vf F src n s':=by
 obtain⟨cs,hb⟩:=h.q.blk;have h3:=h.q.hb;refine⟨hq,h.e.gr hg ?_ ?_,Ed h.lE h.sz hg (fun k hk e=> ?_),nT h.sz hg.size⟩
 ·rintro(e | ⟨_,ds,hd⟩)
  ·obtain⟨⟨es,clock,h1,_⟩,_⟩:=h.e.map
   rw[e]at h1;unfold ah at hb;rw[h1]at hb;cases hb
  ·obtain⟨⟨es,clock,h1,_⟩,_⟩:=h.e.map
   unfold ah at hd;rw[h1]at hd;cases hd
 ·rintro k hk g Nv (e | ⟨_,ds,hd⟩)
  ·exact aW (h.e.own k hk) hb dz (e▸Nv)
  ·exact aW (h.e.own k hk) hd dz Nv
 ·rcases e with e | ⟨e,_⟩<;>omega
theorem aEx{d:List Int}(hl:d.length=12)(h:∀i,i<12→d.getD i (-1)= -1):d=List.replicate 12 (-1):=by
 apply List.ext_getElem (by simp[hl]);intro i h1 h2;have:=h i oz;rw[List.getD_eq_getElem?_getD,List.getElem?_eq_getElem h1]at this;rw[List.getElem_replicate];exact this
def Xc:List Nat→Value
 | []=> .int .i64 0
 | m :: _=> .int .i64 (m:Int)
theorem I3(q:List Nat):aIg q= .tuple #[Xc q,.bool (!q.isEmpty)]:=by cases q<;>rfl
def leftOf(b:Nat)(w:World)(m:Value):Nat:=
 ((List.range 12).countP fun i=>match w.cell? ⟨b,3+i,none⟩with | some (.int _ v)=>decide (v<0) | _=>false)+(match w.cell? ⟨b,0,none⟩with | some (.slice _ n _)=>n | _=>0)+(match m with | .bool true=>1 | _=>0)
theorem Kz(d:List Int)(hd:d.length=12):((List.range 12).countP fun i=>decide (d.getD i (-1)<0))=d.countP fun x=>decide (x<0):=by
 have:d=(List.range 12).map fun i=>d.getD i (-1):=by
  apply List.ext_getElem (by simp[hd]);intro i h1 h2;rw[List.getElem_map,List.getElem_range,List.getD_eq_getElem?_getD,List.getElem?_eq_getElem h1];rfl
 conv=>rhs;rw[this,List.countP_map]
 rfl
theorem I4{w0 W:World}{s:aQ}{q':List Nat}{m:Value}(h:yX w0 W base b mb nm D vf F src n ⟨s.d,s.p,q'⟩):leftOf b W m=(s.d.countP fun x=>decide (x<0))+q'.length+(match m with | .bool true=>1 | _=>0):=by
 obtain⟨⟨qv,cs,h1,h2⟩,h3⟩:=h.q;unfold leftOf;rw[h1.k0];have hq:(match (some qv:Option Value)with | some (.slice _ n _)=>n | _=>0)=q'.length:=by
  rcases h2 with⟨rfl,h⟩ | ⟨g,off,cap,ds,rfl,_⟩
  ·have:q'= []:=h
   rw[this];rfl
  ·rfl
 rw[hq];congr 2;rw[←Kz s.d h1.dl];apply List.countP_congr;intro i hi;rw[h1.kd i (List.mem_range.1 hi)]
theorem aBa(E:List aI)(f:Nat)(d:List Int)(p:List aI):aQ.run E f ⟨d,p,[]⟩=⟨d,p,[]⟩:=by cases f<;>rfl
theorem aBb{e o:aI}(h1:e.f<1000)(h2:o.f<1000):decide (orV ((e.f:Int)-o.f) ((e.l:Int)-o.l)≥0)= !e.less o:=by
 unfold orV aI.less;by_cases c:e.f=o.f
 ·rw[if_neg oz]
  by_cases d:e.l<o.l
  ·rw[dF oz];simp[c,d]
  ·rw[dT oz];simp[c,d]
 ·rw[if_pos oz]
  by_cases d:e.f<o.f
  ·rw[dF oz];simp[d]
  ·rw[dT oz];simp[d,c]
theorem I5{E:List aI}{N src m:Nat}{d:List Int}{p:List aI}{q:List Nat}(h:aQ.Inv E N src ⟨d,p,m :: q⟩):aQ.Ui E N src m (aQ.at ⟨d,p,q⟩ m) [] ⟨d,p,q⟩:=by
 have hk:=h.q0 m qz;have Vu:=List.pairwise_cons.1 h.qs;exact⟨h.len,h.Gi,hk,rfl,h.low,fun x hx=>h.q0 x (by simp[hx]),fun x hx=>Vu.1 x hx,Vu.2,fun y=>h.top m qz y,
  fun a ha hq hn e he hf=>h.old a ha (fun c=>by rcases List.mem_cons.1 c with c | c;exact hn c;exact hq c) e he hf,(fun e he=>by cases he),h.pos,h.zero⟩
theorem Qk{k:Int}{s:aQ}(L:List aI)(j:Nat)(hj:j<L.length):(L.take (j+1)).foldl (aQ.relax k) s=((L.take j).foldl (aQ.relax k) s).relax k L[j]:=by
 rw[List.take_succ_eq_append_getElem hj,List.foldl_append];rfl
theorem aIi(E:List aI)(hE:∀e∈E,e.t<12∧e.f<12∧e.l<1000)(hF:∀k,k<12→F k=Ph E k)(w0 w:World)(hS:yX w0 w base b mb nm D vf F src n ⟨List.replicate 12 0,List.replicate 12 aI.zero,[]⟩)(KA:src<12):
 Calls pG 103 #[.pointer (some ⟨b,0,none⟩)] w fun e w'=>
  (∃v,e= .returned v)∧yX w0 w' base b mb nm D vf F src n (bfs E 12 src):=by
 have hsi:(src:Int)<12:=by omega
 have HS:=lz hS;have HF:=lz hF;clear hS hF;go_enter Tryz.func103,Tryz.ntmps103;go_wp2;go_loopw [8] (fun t wr=>∃(k:Nat) (d:List Int),k≤12∧t= .int .i64 k∧d.length=12∧(∀i,i<k→d.getD i (-1)= -1)∧yX w0 wr base b mb nm D vf F src n ⟨d,List.replicate 12 aI.zero,[]⟩) (fun t _=>12-(intOf t).toNat)
 case atStart=>exact⟨0,_,oz,rfl,qz,fun i hi=>absurd hi oz,HS.out⟩
 case round=>
  clear HS;obtain⟨k,d,hk,rfl,I6,hd,hS⟩:=hrel;have Hdl:=lz I6;clear I6;by_cases hlt:k<12
  ·obtain⟨kd,kf⟩:=hS.q.kd k hlt
   have HS:=lz hS;have Hd:=lz hd;clear hS hd;go_wp2;go_roundw
   case rel=>
    refine⟨k+1,d.set k (-1),oz,by go_num,by simpa using Hdl.out,fun i hi=> ?_,HS.out.box (Gr.setCell (X:=(· =b)) _ _ _ rfl) (HS.out.q.WX k hlt (-1))⟩;rw[gQ _ _ _ _ _ (by rw[Hdl.out];exact hlt)];split
    ·rfl
    ·exact Hd.out i oz
   case measure=>simp[intOf];omega
  ·obtain rfl:k=12:=by omega
   have aN3:=aEx Hdl.out hd;subst aN3;have hS1:=hS.below (W':=wr.drew) (Below.refl _ _).drew;obtain⟨kd,kf⟩:=hS1.q.kd src KA;have k2:=hS1.q.k2.2.1;have HS:=lz hS1;clear hS hd hS1;go_wp2_with fail;refine aT (fun W'=>W'.cell? ⟨b,2,none⟩=some (.int .i64 src)) 8 kz k2 (fun hHeld=> ?_);refine TS 0 rfl hHeld ?_;simp only[zP,zA,zB,zC];refine TS 1 rfl hHeld ?_;simp only[zP,zA,zB,zC];refine TS 2 rfl hHeld ?_;simp only[zP,zA,zB,zC];refine TS 3 rfl hHeld ?_;simp only[zP,zA,zB,zC];refine TS 4 rfl hHeld ?_;simp only[zP,zA,zB,zC];refine TS 5 rfl hHeld ?_;simp only[zP,zA,zB,zC];refine TS 6 rfl hHeld ?_;simp only[zP,zA,zB,zC];refine TS 7 rfl hHeld ?_;simp only[zP,zA,zB,zC];refine RQ 8 rfl fun K hK=> ?_
   go_simp;refine hK.out _ _ (fun h=>absurd h dz) ?_;clear hK hHeld;refine aL kz ?_ _;have jY:yX w0 (wr.setCell ⟨b,3+src,none⟩ (.int .i64 0)).drew base b mb nm D vf F src n ⟨(List.replicate 12 (-1)).set src 0,List.replicate 12 aI.zero,[]⟩:=(show yX w0 (wr.drew.setCell ⟨b,3+src,none⟩ (.int .i64 0)) base b mb nm D vf F src n ⟨(List.replicate 12 (-1)).set src 0,List.replicate 12 aI.zero,[]⟩from HS.out.box (Gr.setCell (X:=(· =b)) _ _ _ rfl) (HS.out.q.WX src KA 0));obtain⟨W2,Sn⟩:=ez ((wr.setCell ⟨b,3+src,none⟩ (.int .i64 0)).drew);rw[←Sn]at jY ⊢;have sC:=lz (jY.below (W':=W2.drew) (Below.refl _ _).drew);have k3:W2.drew.cell? ⟨b,2,none⟩=some (.int .i64 src):=sC.out.q.k2.2.1;clear HS jY Sn k2 kd kf;go_wp2_with fail;refine aT (fun W'=>W'.cell? ⟨b,2,none⟩=some (.int .i64 src)) 7 kz k3 (fun hHeld=> ?_);refine TS 0 rfl hHeld ?_;simp only[zP,zA,zB,zC];refine TS 1 rfl hHeld ?_;simp only[zP,zA,zB,zC];refine TS 2 rfl hHeld ?_;simp only[zP,zA,zB,zC];refine TS 3 rfl hHeld ?_;simp only[zP,zA,zB,zC];refine TS 4 rfl hHeld ?_;simp only[zP,zA,zB,zC];refine TS 5 rfl hHeld ?_;simp only[zP,zA,zB,zC];refine TS 6 rfl hHeld ?_;simp only[zP,zA,zB,zC];refine RQ 7 rfl fun K hK=> ?_
   go_simp;refine(Xa src _ sC.out.q qz sC.out.sz).mono ?_;rintro e W3 ⟨⟨v,rfl⟩,Pc,hg3⟩;refine hK.out _ _ (fun h=>absurd h dz) ?_;clear hK hHeld;refine aL kz ?_ _;have pP:Hid (yX w0 W3 base b mb nm D vf F src n (aQ.init 12 src)):=lz (sC.out.push hg3 Pc);clear sC Pc hg3 k3;go_wp2_with fail;refine(aDZ _ pP.out.q (by simp[aQ.init])).mono ?_;rintro e W4 ⟨rfl,hq4,Xd⟩;have vw:yX w0 W4 base b mb nm D vf F src n ⟨(aQ.init 12 src).d,(aQ.init 12 src).p,(aQ.init 12 src).q.tail⟩:=pP.out.box Xd hq4;have sD:=lz vw;rw[I3];clear vw hq4 Xd pP;go_wp2;go_loopw [3,4] (fun a m wr=>∃(f:Nat) (s:aQ),a=Xc s.q∧m= .bool (!s.q.isEmpty)∧Hid (aQ.run E f s=bfs E 12 src∧aQ.Inv E 12 src s∧s.left≤f∧f≤13)∧yX w0 wr base b mb nm D vf F src n ⟨s.d,s.p,s.q.tail⟩) (fun _ m wr=>leftOf b wr m)
   case atStart=>exact⟨13,aQ.init 12 src,rfl,rfl,lz ⟨rfl,(aQ.qF KA).1,(aQ.qF (E:=E) KA).2,oz⟩,sD.out⟩
   case round=>
    clear sD;obtain⟨f,⟨d,p,q⟩,rfl,rfl,hR,hS⟩:=hrel;have aIj:=lz (I4 (s:=⟨d,p,q⟩) (m:= .bool (!q.isEmpty)) hS)
    cases q with
    | nil=>
     have hb:=hR.out.1;rw[aBa]at hb;have HE:=lz (show yX w0 wr base b mb nm D vf F src n (bfs E 12 src)from hb▸hS);clear hS hR hb;go_wp2_with fail;refine bodyPost_end (results_none rfl _ _ _) rfl ?_;exact⟨⟨_,rfl⟩,HE.out⟩
    | cons m q=>
     obtain⟨hrun,hinv,hlf,Xe⟩:=hR.out;have hm:m<12:=by
      have h0:=hinv.q0 m qz;have hl:=hinv.len;exact Classical.byContradiction fun c=>by
       have:aQ.at ⟨d,p,m :: q⟩ m= -1:=by unfold aQ.at;rw[List.getD_eq_getElem?_getD,List.getElem?_eq_none oz];rfl
       omega
     obtain⟨f,rfl⟩:∃f',f=f'+1:=⟨f-1,by have:(aQ.left ⟨d,p,m :: q⟩)=q.length+1+(d.countP fun x=>decide (x<0)):=rfl;omega⟩;have hmi:(m:Int)<12:=by omega
     obtain⟨Am,cm,hvm,hc1,qc⟩:=bp (hS.e.own m hm);have uT:=hS.e.map.look (m:Int) (x9 m oz) (hS.e.at_ m hm);rw[hvm]at uT;have k1:=hS.q.k2.1;have hlen:((F m).length:Int)≤9223372036854775807:=by unfold maxLen at qc;omega
     have HR:=lz (ai hrun (ai hinv (ai hlf Xe)));have HV:=lz hvm;have HS:=lz hS;clear hR hS hrun hinv hlf Xe hvm;rw[show Xc (m :: q)=Value.int .i64 (m:Int)from rfl];go_wp2_with fail;have Xf:aQ.Ui E 12 src m (aQ.at ⟨d,p,q⟩ m) [] ⟨d,p,q⟩:=I5 HR.out.2.1;obtain⟨kk,hkk⟩:=ez (aQ.at ⟨d,p,q⟩ m);rw[←hkk]at Xf;have aDc:=lz Xf;have Hkk:=lz hkk;clear Xf hkk k1;go_loopw [55] (fun t wr'=>∃(j:Nat),j≤(F m).length∧t= .int .i64 j∧Hid (aQ.Ui E 12 src m kk ((F m).take j) (((F m).take j).foldl (aQ.relax kk) ⟨d,p,q⟩))∧yX w0 wr' base b mb nm D vf F src n (((F m).take j).foldl (aQ.relax kk) ⟨d,p,q⟩)) (fun t _=>(F m).length-(intOf t).toNat)
     case atStart=>exact⟨0,nZ,rfl,aDc,HS.out⟩
     case round=>
      clear HS aDc;obtain⟨j,hj,rfl,hM,hS⟩:=hrel;obtain⟨s,hs⟩:=ez (((F m).take j).foldl (aQ.relax kk) ⟨d,p,q⟩);rw[←hs]at hM hS;have Hs:=lz hs;clear hs;by_cases hlt:j<(F m).length
      ·have Xg:F m=Ph E m:=HF.out m hm
       have iU:(F m)[j]∈Ph E m:=Xg▸List.getElem_mem hlt;have NA:=List.mem_filter.1 iU;have KC:(F m)[j].f=m:=by simpa using NA.2
       obtain⟨Bh,_⟩:=hE _ NA.1;have aIl:=lz NA.1;obtain⟨be,oe,rfl,NC,hce⟩:=Gj (l:=F m) (HV.out▸hS.e.own m hm) (show 0<(F m).length by omega);obtain⟨ce0,ce1,ce2⟩:=hce j hlt;have pE:((F m).take (j+1)).foldl (aQ.relax kk) ⟨d,p,q⟩=s.relax kk (F m)[j]:=by rw[Qk _ _ hlt,←Hs.out]
       have hmx:aQ.Ui E 12 src m kk ((F m).take (j+1)) (s.relax kk (F m)[j]):=by
        rw[List.take_succ_eq_append_getElem hlt];exact aQ.zK hM.out NA.1 KC Bh
       have lg:=lz (ai pE hmx);obtain⟨e,he⟩:=ez ((F m)[j]);rw[←he]at KC Bh ce0 ce1 ce2 lg aIl;have Hee:=aIl;have hti:(e.t:Int)<12:=by omega
       have CA:(j:Int)<((F m).length:Int):=by omega
       obtain⟨kdt,fdt⟩:=hS.q.kd e.t Bh;obtain⟨kdm,fdm⟩:=hS.q.kd m hm;obtain⟨p0,p1,p2⟩:=hS.q.kp e.t Bh;have hkm:s.d.getD m (-1)=kk:=hM.out.kn;rw[hkm]at kdm;have HS:=lz hS;have HM:=lz hM;clear hS hM iU NA hce pE hmx he Xg hkm;have aUe:0≤kk:=HM.out.k0;have Hql:Hid (s.q.length≤1000):=lz (by
        have h0:aQ.Ui E 12 src m kk [] ⟨d,p,q⟩:=by
         have:=I5 HR.out.2.1
         rwa[←Hkk.out]at this
        have h1:s.left=aQ.left ⟨d,p,q⟩:=by
         rw[Hs.out];exact aQ.qd _ [] _ h0 (fun e' jm=>by
          have h2:=List.mem_of_mem_take jm;rw[HF.out m hm]at h2;have h3:=List.mem_filter.1 h2;exact⟨h3.1,by simpa using h3.2,(hE _ h3.1).1⟩)
        have h4:s.left=s.q.length+s.d.countP (fun x=>decide (x<0)):=rfl;have h5:aQ.left ⟨d,p,q⟩+1=aQ.left ⟨d,p,m :: q⟩:=by
         show q.length+_+1=(m :: q).length+_;simp;omega
        have h6:=HR.out.2.2.1;have h7:=HR.out.2.2.2;omega)
       have aUg:kk≤12:=Hkk.out▸aQ.tX HR.out.2.1 oz m;go_wp2_with fail;have Xh:ah (wr.alloc (.cells #[.int .i64 m,.int .i64 e.t,.int .i64 e.l] 107)) wr.heap.size 107 #[.int .i64 m,.int .i64 e.t,.int .i64 e.l]:=ah.new wr _ _;have hS1:=HS.out.below (W':=(wr.alloc (.cells #[.int .i64 m,.int .i64 e.t,.int .i64 e.l] 107)).drew) (bN).drew;obtain⟨W1,hW1⟩:=ez (wr.alloc (.cells #[.int .i64 m,.int .i64 e.t,.int .i64 e.l] 107));rw[←hW1]at Xh hS1 ⊢;have KD:W1.heap.size=wr.heap.size+1:=by rw[hW1];simp
       obtain⟨eb,Uo⟩:=ez wr.heap.size;rw[←Uo]at Xh KD ⊢;have sE:=lz hS1;have aEz:=lz Xh;have KE:=lz hW1;have Heb:=lz Uo;have I7:=HS;obtain⟨p0,p1,p2⟩:=hS1.q.kp e.t Bh;obtain⟨o,ho⟩:=ez (s.p.getD e.t aI.zero);rw[←ho]at p0 p1 p2;have Ho:=lz ho;clear ho;have aU:=Xh.cell 1;clear hS1 Xh hW1 Uo HS ce0 ce1 ce2 kdt fdt kdm fdm uT NC;refine aT (fun W'=>W'.cell? ⟨eb,1,none⟩=some (.int .i64 e.t)∧W'.cell? ⟨b,15+e.t*3,none⟩=some (.int .i64 o.f)∧W'.cell? ⟨b,15+e.t*3+1,none⟩=some (.int .i64 o.t)∧W'.cell? ⟨b,15+e.t*3+2,none⟩=some (.int .i64 o.l)∧W'.cell? ⟨eb,1,none⟩=some (.int .i64 e.t)) 8 kz ⟨aU,p0,p1,p2,aU⟩ (fun hHeld=> ?_);refine TS 0 rfl hHeld ?_;simp only[zP,zA,zB,zC];refine TS 1 rfl hHeld ?_;simp only[zP,zA,zB,zC];refine TS 2 rfl hHeld ?_;simp only[zP,zA,zB,zC];refine TS 3 rfl hHeld ?_;simp only[zP,zA,zB,zC];refine TS 4 rfl hHeld ?_;simp only[zP,zA,zB,zC];refine TS 5 rfl hHeld ?_;simp only[zP,zA,zB,zC];refine TS 6 rfl hHeld ?_;simp only[zP,zA,zB,zC];refine RQ 7 rfl fun K hK=> ?_
       go_simp;have Xi:(W1.alloc (.cells #[.int .i64 0,.int .i64 0,.int .i64 0] 107)).drew.cell? ⟨eb,1,none⟩=some (.int .i64 e.t)∧(W1.alloc (.cells #[.int .i64 0,.int .i64 0,.int .i64 0] 107)).drew.cell? ⟨b,15+e.t*3,none⟩=some (.int .i64 o.f)∧(W1.alloc (.cells #[.int .i64 0,.int .i64 0,.int .i64 0] 107)).drew.cell? ⟨b,15+e.t*3+1,none⟩=some (.int .i64 o.t)∧(W1.alloc (.cells #[.int .i64 0,.int .i64 0,.int .i64 0] 107)).drew.cell? ⟨b,15+e.t*3+2,none⟩=some (.int .i64 o.l)∧(W1.alloc (.cells #[.int .i64 0,.int .i64 0,.int .i64 0] 107)).drew.cell? ⟨eb,1,none⟩=some (.int .i64 e.t):=by
        have jY:=sE.out.below (W':=(W1.alloc (.cells #[.int .i64 0,.int .i64 0,.int .i64 0] 107)).drew) ((Below.refl _ W1.drew).alloc nL _);have aIo:ah (W1.alloc (.cells #[.int .i64 0,.int .i64 0,.int .i64 0] 107)).drew eb 107 #[.int .i64 m,.int .i64 e.t,.int .i64 e.l]:=(aEz.out.alloc _).drew;obtain⟨v0,v1,v2⟩:=jY.q.kp e.t Bh;rw[←Ho.out]at v0 v1 v2;exact⟨aIo.cell 1,v0,v1,v2,aIo.cell 1⟩
       refine hK.out _ _ (fun _=>Xi) ?_;clear hK hHeld p0 p1 p2 aU Xi;refine RQ 8 rfl fun K hK=> ?_
       go_simp;refine hK.out _ _ (fun h=>absurd h dz) ?_;clear hK;refine aL kz ?_ _;obtain⟨W3,Bv⟩:=ez ((W1.alloc (.cells #[.int .i64 o.f,.int .i64 o.t,.int .i64 o.l] 107)).drew);have Pn:Below W1.drew.heap.size W1.drew W3:=by rw[Bv];exact((Below.refl _ W1.drew).alloc nL _)
       have aE0:ah W3 (eb+1) 107 #[.int .i64 o.f,.int .i64 o.t,.int .i64 o.l]:=by
        have:=ah.new W1 107 #[.int .i64 o.f,.int .i64 o.t,.int .i64 o.l];rw[KD]at this;rw[Bv];exact this
       have aE1:ah W3 eb 107 #[.int .i64 m,.int .i64 e.t,.int .i64 e.l]:=by rw[Bv];exact(aEz.out.alloc _).drew
       have CD:=sE.out.below Pn;rw[←Bv];have pP:=lz CD;have aBd:=lz aE1;have aIp:=lz aE0;obtain⟨kdt,fdt⟩:=CD.q.kd e.t Bh;obtain⟨dt,hdt⟩:=ez (s.d.getD e.t (-1));rw[←hdt]at kdt;have Hdt:=lz hdt;have x1:=aE1.cell 1;have aUh:eb+1<W3.heap.size:=aE0.lt;clear Bv Pn aE0 aE1 CD sE aEz KD hdt;by_cases rG:dt<0
       ·have hng:decide (dt<0)=true:=dT rG
        go_wp2_with fail;go_quiet (fail);go_wp2_with fail;obtain⟨V3,hV3⟩:=ez (W3.drewN nq);have Pn:Below W3.heap.size W3 V3:=by rw[hV3];exact aD (Below.refl _ _)
        have kq:ah V3 eb 107 #[.int .i64 m,.int .i64 e.t,.int .i64 e.l]:=by rw[hV3];exact aBd.out
        rw[←hV3];have vw:=(pP.out.below Pn).below (W':=V3.drew) (Below.refl _ _).drew;have mF:ah V3.drew eb 107 #[.int .i64 m,.int .i64 e.t,.int .i64 e.l]:=kq;have hwk:IntKind.i64.wrap (kk+1)=kk+1:=IntWalk.i64_in _ ⟨oz,oz⟩;clear hV3 Pn kq;have z1:=mF.cell 1;obtain⟨a1,a2⟩:=vw.q.kd e.t Bh;obtain⟨a3,_⟩:=vw.q.kd m hm;rw[show s.d.getD m (-1)=kk from HM.out.kn]at a3;have CF:yX w0 (V3.setCell ⟨b,3+e.t,none⟩ (.int .i64 (kk+1))).drew base b mb nm D vf F src n ⟨s.d.set e.t (kk+1),s.p,s.q⟩:=(show yX w0 (V3.drew.setCell ⟨b,3+e.t,none⟩ (.int .i64 (kk+1))) base b mb nm D vf F src n ⟨s.d.set e.t (kk+1),s.p,s.q⟩from vw.box (Gr.setCell (X:=(· =b)) _ _ _ rfl) (vw.q.WX e.t Bh (kk+1)));obtain⟨csb,aIq⟩:=vw.q.blk;have aIr:eb≠b:=mF.Fu aIq dz;have Hb5:Hid (ah (V3.setCell ⟨b,3+e.t,none⟩ (.int .i64 (kk+1))).drew eb 107 #[.int .i64 m,.int .i64 e.t,.int .i64 e.l]):=lz (show ah (V3.drew.setCell ⟨b,3+e.t,none⟩ (.int .i64 (kk+1))) eb _ _ from mF.far aIr _);have qu:=lz CF;clear vw mF CF aIq x1 kdt fdt pP aBd;refine aT (fun W'=>W'.cell? ⟨eb,1,none⟩=some (.int .i64 e.t)∧W'.cell? ⟨b,3+m,none⟩=some (.int .i64 kk)) 13 kz ⟨z1,a3⟩ (fun hHeld=> ?_);refine TS 0 rfl hHeld ?_;simp only[zP,zA,zB,zC];refine TS 1 rfl hHeld ?_;simp only[zP,zA,zB,zC];refine TS 2 rfl hHeld ?_;simp only[zP,zA,zB,zC];refine TS 3 rfl hHeld ?_;simp only[zP,zA,zB,zC];refine TS 4 rfl hHeld ?_;simp only[zP,zA,zB,zC];refine TS 5 rfl hHeld ?_;simp only[zP,zA,zB,zC];refine TS 6 rfl hHeld ?_;simp only[zP,zA,zB,zC];refine TS 7 rfl hHeld ?_;simp only[zP,zA,zB,zC];refine TS 8 rfl hHeld ?_;simp only[zP,zA,zB,zC];refine TS 9 rfl hHeld ?_;simp only[zP,zA,zB,zC];refine TS 10 rfl hHeld ?_;simp only[zP,zA,zB,zC];refine TS 11 rfl hHeld ?_;simp only[zP,zA,zB,zC];refine TS 12 rfl hHeld ?_;simp only[zP,zA,zB,zC];refine RQ 13 rfl fun K hK=> ?_
        go_simp;refine hK.out _ _ (fun h=>absurd h dz) ?_;clear hK hHeld;refine aL kz ?_ _;obtain⟨W5,Xj⟩:=ez ((V3.setCell ⟨b,3+e.t,none⟩ (.int .i64 (kk+1))).drew);rw[←Xj]at qu Hb5 ⊢;clear Xj z1 a1 a2 a3;have nN:=lz (qu.out.below (W':=W5.drew) (Below.refl _ _).drew);have rz:ah W5.drew eb 107 #[.int .i64 m,.int .i64 e.t,.int .i64 e.l]:=Hb5.out;have z1:=rz.cell 1;have Hb6:=lz rz;clear qu Hb5 rz;go_wp2_with fail;refine aT (fun W'=>W'.cell? ⟨eb,1,none⟩=some (.int .i64 e.t)) 5 kz z1 (fun hHeld=> ?_);refine TS 0 rfl hHeld ?_;simp only[zP,zA,zB,zC];refine TS 1 rfl hHeld ?_;simp only[zP,zA,zB,zC];refine TS 2 rfl hHeld ?_;simp only[zP,zA,zB,zC];refine TS 3 rfl hHeld ?_;simp only[zP,zA,zB,zC];refine TS 4 rfl hHeld ?_;simp only[zP,zA,zB,zC];refine RQ 5 rfl fun K hK=> ?_
        go_simp;refine(Xa e.t _ nN.out.q ?Fz nN.out.sz).mono ?_
        case Fz=>
         show s.q.length≤1000;exact Hql.out
        rintro e' W7 ⟨⟨v7,rfl⟩,hq7,Vv⟩;refine hK.out _ _ (fun h=>absurd h dz) ?_;clear hK hHeld;refine aL kz ?_ _;have Dr:yX w0 W7 base b mb nm D vf F src n ⟨s.d.set e.t (kk+1),s.p,s.q++ [e.t]⟩:=nN.out.push Vv hq7;have Nk:ah W7 eb 107 #[.int .i64 m,.int .i64 e.t,.int .i64 e.l]:=Vv.blk Hb6.out (by
         rintro(c | ⟨_,ds,hd⟩)
         ·exact aIr c
         ·exact Hb6.out.Fu hd dz rfl)
        have Po:=lz Dr;have Hb7:=lz Nk;clear Dr Nk hq7 Vv nN Hb6 z1;have FN:=Po.out.below (W':=W7.drew) (Below.refl _ _).drew;have Mi:ah W7.drew eb 107 #[.int .i64 m,.int .i64 e.t,.int .i64 e.l]:=Hb7.out;obtain⟨v0,v1,v2⟩:=FN.q.kp e.t Bh;have u0:=FN.q.kfp e.t 0;have u1:=FN.q.kfp e.t 1;have u2:=FN.q.kfp e.t 2;rw[Nat.add_zero]at u0;obtain⟨_,t1,t2⟩:=Po.out.q.kp e.t Bh;have t3:=Po.out.q.kfp e.t 1;have t4:=Po.out.q.kfp e.t 2;have z0:=Mi.cell 0;have z1:=Mi.cell 1;have z2:=Mi.cell 2;have Vp:yX w0 (((W7.setCell ⟨b,15+e.t*3,none⟩ (.int .i64 m)).setCell ⟨b,15+e.t*3+1,none⟩ (.int .i64 e.t)).setCell ⟨b,15+e.t*3+2,none⟩ (.int .i64 e.l)).drew base b mb nm D vf F src n ⟨s.d.set e.t (kk+1),s.p.set e.t e,s.q++ [e.t]⟩:=by
         have g1:Gr (· =b) W7.drew (((W7.drew.setCell ⟨b,15+e.t*3,none⟩ (.int .i64 e.f)).setCell ⟨b,15+e.t*3+1,none⟩ (.int .i64 e.t)).setCell ⟨b,15+e.t*3+2,none⟩ (.int .i64 e.l)):=
          ((Gr.setCell (X:=(· =b)) _ _ _ rfl).trans (Gr.setCell (X:=(· =b)) _ _ _ rfl)).trans (Gr.setCell (X:=(· =b)) _ _ _ rfl)
         have:=FN.box (s':=⟨s.d.set e.t (kk+1),s.p.set e.t e,s.q++ [e.t]⟩) g1 (FN.q.aBX e.t Bh e);rw[KC]at this;exact this
        have HS9:=lz Vp;clear FN Mi Vp;go_wp2_with fail;refine aT (fun W'=>W'.cell? ⟨eb,0,none⟩=some (.int .i64 m)∧W'.cell? ⟨eb,1,none⟩=some (.int .i64 e.t)∧W'.cell? ⟨eb,2,none⟩=some (.int .i64 e.l)) 7 kz ⟨z0,z1,z2⟩ (fun hHeld=> ?_);refine TS 0 rfl hHeld ?_;simp only[zP,zA,zB,zC];refine TS 1 rfl hHeld ?_;simp only[zP,zA,zB,zC];refine TS 2 rfl hHeld ?_;simp only[zP,zA,zB,zC];refine TS 3 rfl hHeld ?_;simp only[zP,zA,zB,zC];refine TS 4 rfl hHeld ?_;simp only[zP,zA,zB,zC];refine TS 5 rfl hHeld ?_;simp only[zP,zA,zB,zC];refine TS 6 rfl hHeld ?_;simp only[zP,zA,zB,zC];refine RQ 7 rfl fun K hK=> ?_
        go_simp;refine hK.out _ _ (fun h=>absurd h dz) ?_;clear hK hHeld;refine aL kz ?_ _;obtain⟨W9,hW9⟩:=ez ((((W7.setCell ⟨b,15+e.t*3,none⟩ (.int .i64 m)).setCell ⟨b,15+e.t*3+1,none⟩ (.int .i64 e.t)).setCell ⟨b,15+e.t*3+2,none⟩ (.int .i64 e.l)).drew);rw[←hW9]at HS9 ⊢;clear hW9 v0 v1 v2 u0 u1 u2 z0 z1 z2 t1 t2 t3 t4;have hrel:s.relax kk e=⟨s.d.set e.t (kk+1),s.p.set e.t e,s.q++ [e.t]⟩:=by unfold aQ.relax;rw[if_pos (show s.at e.t<0 from by rw[show s.at e.t=dt from Hdt.out.symm];exact rG)]
        have HE:=lz hrel;clear hrel;go_wp2;go_roundw
        case rel=>
         refine⟨j+1,oz,by go_num,?_,?_⟩
         ·rw[lg.out.1];exact lz lg.out.2
         ·rw[lg.out.1,HE.out];exact HS9.out
        case measure=>simp[intOf];omega
       ·have hng:decide (dt<0)=false:=dF rG
        go_wp2_with fail;go_quiet (fail);go_wp2_with fail;obtain⟨V3,hV3⟩:=ez (W3.drewN nq);have Pn:Below W3.heap.size W3 V3:=by rw[hV3];exact aD (Below.refl _ _)
        have kq:ah V3 eb 107 #[.int .i64 m,.int .i64 e.t,.int .i64 e.l]:=by rw[hV3];exact aBd.out
        have ho3:ah V3 (eb+1) 107 #[.int .i64 o.f,.int .i64 o.t,.int .i64 o.l]:=by rw[hV3];exact aIp.out
        rw[←hV3];have sD:=lz (pP.out.below Pn);have Hb4:=lz kq;have Ho4:=lz ho3;have hwk:IntKind.i64.wrap (kk+1)=kk+1:=IntWalk.i64_in _ ⟨oz,oz⟩;obtain⟨a1,_⟩:=sD.out.q.kd e.t Bh;obtain⟨a3,_⟩:=sD.out.q.kd m hm;rw[show s.d.getD m (-1)=kk from HM.out.kn]at a3;rw[←Hdt.out]at a1;have z0:=kq.cell 0;have z1:=kq.cell 1;have z2:=kq.cell 2;have o0:=ho3.cell 0;have o2:=ho3.cell 2;clear hV3 Pn kq ho3 pP aBd aIp kdt fdt x1;by_cases Cq:dt=kk+1
        ·have hne:(dt !=kk+1)=false:=by simpa using Cq
         obtain⟨e',jm,aOC,_,_,hp'⟩:=HM.out.pos e.t (by rw[show s.at e.t=dt from Hdt.out.symm];omega);have hoe:o=e':=by rw[Ho.out,List.getD_eq_getElem?_getD,hp'];rfl
         obtain⟨_,hof,hol⟩:=hE e' jm;obtain⟨_,_,hel⟩:=hE e Hee.out;rw[←hoe]at hof hol;have cN:IntKind.i64.wrap ((m:Int)-o.f)=(m:Int)-o.f:=IntWalk.i64_in _ ⟨oz,oz⟩;have hw2:IntKind.i64.wrap ((e.l:Int)-o.l)=(e.l:Int)-o.l:=IntWalk.i64_in _ ⟨oz,oz⟩;have hor:=aBb (e:=e) (o:=o) oz oz;rw[KC]at hor;have Vw:Hid (s.at e.t=kk+1):=lz (by rw[show s.at e.t=dt from Hdt.out.symm];exact Cq);have Hor:=lz hor;have aIs:Hid (s.p.getD e.t aI.zero=o):=lz Ho.out.symm;clear hp' hoe jm aOC hor Cq;refine aT (fun W'=>W'.cell? ⟨eb,0,none⟩=some (.int .i64 m)∧W'.cell? ⟨eb,1,none⟩=some (.int .i64 e.t)∧W'.cell? ⟨eb,2,none⟩=some (.int .i64 e.l)∧W'.cell? ⟨eb+1,0,none⟩=some (.int .i64 o.f)∧W'.cell? ⟨eb+1,2,none⟩=some (.int .i64 o.l)∧W'.cell? ⟨b,3+e.t,none⟩=some (.int .i64 dt)∧W'.cell? ⟨b,3+m,none⟩=some (.int .i64 kk)) 30 kz ⟨z0,z1,z2,o0,o2,a1,a3⟩ (fun hHeld=> ?_);refine TS 0 rfl hHeld ?_;simp only[zP,zA,zB,zC];refine TS 1 rfl hHeld ?_;simp only[zP,zA,zB,zC];refine TS 2 rfl hHeld ?_;simp only[zP,zA,zB,zC];refine TS 3 rfl hHeld ?_;simp only[zP,zA,zB,zC];refine TS 4 rfl hHeld ?_;simp only[zP,zA,zB,zC];refine TS 5 rfl hHeld ?_;simp only[zP,zA,zB,zC];refine TS 6 rfl hHeld ?_;simp only[zP,zA,zB,zC];refine TS 7 rfl hHeld ?_;simp only[zP,zA,zB,zC];refine TS 8 rfl hHeld ?_;simp only[zP,zA,zB,zC];refine TS 9 rfl hHeld ?_;simp only[zP,zA,zB,zC];refine TS 10 rfl hHeld ?_;simp only[zP,zA,zB,zC];refine TS 11 rfl hHeld ?_;simp only[zP,zA,zB,zC];refine TS 12 rfl hHeld ?_;simp only[zP,zA,zB,zC];refine TS 13 rfl hHeld ?_;simp only[zP,zA,zB,zC];refine TS 14 rfl hHeld ?_;simp only[zP,zA,zB,zC];refine TS 15 rfl hHeld ?_;simp only[zP,zA,zB,zC];refine TS 16 rfl hHeld ?_ (hx:=by kernel_rfl);simp only[zP,zA,zB,zC];refine TS 17 rfl hHeld ?_ (hx:=by kernel_rfl);simp only[zP,zA,zB,zC];refine TS 18 rfl hHeld ?_ (hx:=by kernel_rfl);simp only[zP,zA,zB,zC];refine TS 19 rfl hHeld ?_ (hx:=by kernel_rfl);simp only[zP,zA,zB,zC];refine TS 20 rfl hHeld ?_ (hx:=by kernel_rfl);simp only[zP,zA,zB,zC];refine TS 21 rfl hHeld ?_ (hx:=by kernel_rfl);simp only[zP,zA,zB,zC];refine TS 22 rfl hHeld ?_ (hx:=by kernel_rfl);simp only[zP,zA,zB,zC];refine TS 23 rfl hHeld ?_ (hx:=by kernel_rfl);simp only[zP,zA,zB,zC];refine TS 24 rfl hHeld ?_ (hx:=by kernel_rfl);simp only[zP,zA,zB,zC];refine TS 25 rfl hHeld ?_ (hx:=by kernel_rfl);simp only[zP,zA,zB,zC];refine RQ 26 rfl fun K hK=> ?_
         go_simp;obtain⟨W4,Ql⟩:=ez ((V3.alloc (.cells #[.int .i64 ((m:Int)-o.f),.int .i64 ((e.l:Int)-o.l)] 3)).drew);have Mj:Below V3.heap.size V3 W4:=by rw[Ql];exact(bN).drew
         have fK:fV W4 W4.heap.size (some ⟨V3.heap.size,0,none⟩) [(m:Int)-o.f,(e.l:Int)-o.l]:=by
          intro _;have hn:=ah.new V3 3 #[.int .i64 ((m:Int)-o.f),.int .i64 ((e.l:Int)-o.l)];refine⟨V3.heap.size,0,rfl,by rw[Ql];exact hn.lt,fun q hq=> ?_⟩;rw[Ql]
          match q,hq with
          | 0,_=>exact hn.cell 0
          | 1,_=>exact hn.cell 1
         have hor:=Sm ((m:Int)-o.f) ((e.l:Int)-o.l) _ 2 W4 fK nL;have CF:=sD.out.below Mj;have jU:=Hb4.out.below Mj Hb4.out.lt;have ho5:=Ho4.out.below Mj Ho4.out.lt;obtain⟨c1,_⟩:=CF.q.kd e.t Bh;obtain⟨c3,_⟩:=CF.q.kd m hm;rw[show s.d.getD m (-1)=kk from HM.out.kn]at c3;rw[←Hdt.out]at c1;have tq:W4.cell? ⟨eb,0,none⟩=some (.int .i64 m)∧W4.cell? ⟨eb,1,none⟩=some (.int .i64 e.t)∧W4.cell? ⟨eb,2,none⟩=some (.int .i64 e.l)∧W4.cell? ⟨eb+1,0,none⟩=some (.int .i64 o.f)∧W4.cell? ⟨eb+1,2,none⟩=some (.int .i64 o.l)∧W4.cell? ⟨b,3+e.t,none⟩=some (.int .i64 dt)∧W4.cell? ⟨b,3+m,none⟩=some (.int .i64 kk):=⟨jU.cell 0,jU.cell 1,jU.cell 2,ho5.cell 0,ho5.cell 2,c1,c3⟩;have qu:=lz CF;have Hb5:=lz jU;have HC:=lz hor;rw[←Ql];clear Ql Mj fK hor CF jU ho5 c1 c3 z0 z1 z2 o0 o2 a1 a3 sD Hb4 Ho4;refine hK.out _ _ (fun _=>tq) ?_;clear hK hHeld;refine RQ 27 rfl fun K hK=> ?_
         go_simp;refine HC.out.mono ?_;rintro e'' W6 ⟨rfl,rfl⟩;refine hK.out _ _ (fun _=>tq) ?_;clear hK HC
         cases hl:e.less o with
         | false=>
          have hor:decide (orV ((m:Int)-o.f) ((e.l:Int)-o.l)≥0)=true:=by rw[Hor.out,hl];rfl
          refine TS 28 rfl tq ?_ (hx:=by kernel_rfl);simp only[zP,zA,zB,zC];refine TS 29 rfl tq ?_ (hx:=by kernel_rfl);simp only[zP,zA,zB,zC];refine RQ 30 rfl fun K hK=> ?_
          go_simp;refine hK.out _ _ (fun h=>absurd h dz) ?_;clear hK tq;refine aL kz ?_ _;have hrel:s.relax kk e=s:=by unfold aQ.relax;rw[if_neg (show¬s.at e.t<0 from by rw[Vw.out];omega),if_pos (.inr (by rw[aIs.out];exact hl))]
          have HE:=lz hrel;clear hrel;go_wp2;go_roundw
          case rel=>
           refine⟨j+1,oz,by go_num,?_,?_⟩
           ·rw[lg.out.1];exact lz lg.out.2
           ·rw[lg.out.1,HE.out];exact qu.out
          case measure=>simp[intOf];omega
         | true=>
          have hor:decide (orV ((m:Int)-o.f) ((e.l:Int)-o.l)≥0)=false:=by rw[Hor.out,hl];rfl
          refine TS 28 rfl tq ?_ (hx:=by kernel_rfl);simp only[zP,zA,zB,zC];refine TS 29 rfl tq ?_ (hx:=by kernel_rfl);simp only[zP,zA,zB,zC];refine RQ 30 rfl fun K hK=> ?_
          go_simp;refine hK.out _ _ (fun h=>absurd h dz) ?_;clear hK tq;refine aL kz ?_ _;go_wp2_with fail;have FN:=qu.out.below (W':=W6.drew) (Below.refl _ _).drew;have Mi:ah W6.drew eb 107 #[.int .i64 m,.int .i64 e.t,.int .i64 e.l]:=Hb5.out;obtain⟨v0,v1,v2⟩:=FN.q.kp e.t Bh;have u0:=FN.q.kfp e.t 0;have u1:=FN.q.kfp e.t 1;have u2:=FN.q.kfp e.t 2;rw[Nat.add_zero]at u0;obtain⟨_,t1,t2⟩:=qu.out.q.kp e.t Bh;have t3:=qu.out.q.kfp e.t 1;have t4:=qu.out.q.kfp e.t 2;have z0:=Mi.cell 0;have z1:=Mi.cell 1;have z2:=Mi.cell 2;have Vp:yX w0 (((W6.setCell ⟨b,15+e.t*3,none⟩ (.int .i64 m)).setCell ⟨b,15+e.t*3+1,none⟩ (.int .i64 e.t)).setCell ⟨b,15+e.t*3+2,none⟩ (.int .i64 e.l)).drew base b mb nm D vf F src n ⟨s.d,s.p.set e.t e,s.q⟩:=by
           have g1:Gr (· =b) W6.drew (((W6.drew.setCell ⟨b,15+e.t*3,none⟩ (.int .i64 e.f)).setCell ⟨b,15+e.t*3+1,none⟩ (.int .i64 e.t)).setCell ⟨b,15+e.t*3+2,none⟩ (.int .i64 e.l)):=
            ((Gr.setCell (X:=(· =b)) _ _ _ rfl).trans (Gr.setCell (X:=(· =b)) _ _ _ rfl)).trans (Gr.setCell (X:=(· =b)) _ _ _ rfl)
           have:=FN.box (s':=⟨s.d,s.p.set e.t e,s.q⟩) g1 (FN.q.aBX e.t Bh e);rw[KC]at this;exact this
          have HS9:=lz Vp;clear FN Mi Vp;refine aT (fun W'=>W'.cell? ⟨eb,0,none⟩=some (.int .i64 m)∧W'.cell? ⟨eb,1,none⟩=some (.int .i64 e.t)∧W'.cell? ⟨eb,2,none⟩=some (.int .i64 e.l)) 7 kz ⟨z0,z1,z2⟩ (fun hHeld=> ?_);refine TS 0 rfl hHeld ?_;simp only[zP,zA,zB,zC];refine TS 1 rfl hHeld ?_;simp only[zP,zA,zB,zC];refine TS 2 rfl hHeld ?_;simp only[zP,zA,zB,zC];refine TS 3 rfl hHeld ?_;simp only[zP,zA,zB,zC];refine TS 4 rfl hHeld ?_;simp only[zP,zA,zB,zC];refine TS 5 rfl hHeld ?_;simp only[zP,zA,zB,zC];refine TS 6 rfl hHeld ?_;simp only[zP,zA,zB,zC];refine RQ 7 rfl fun K hK=> ?_
          go_simp;refine hK.out _ _ (fun h=>absurd h dz) ?_;clear hK hHeld;refine aL kz ?_ _;obtain⟨W9,hW9⟩:=ez ((((W6.setCell ⟨b,15+e.t*3,none⟩ (.int .i64 m)).setCell ⟨b,15+e.t*3+1,none⟩ (.int .i64 e.t)).setCell ⟨b,15+e.t*3+2,none⟩ (.int .i64 e.l)).drew);rw[←hW9]at HS9 ⊢;clear hW9 v0 v1 v2 u0 u1 u2 z0 z1 z2 t1 t2 t3 t4;have hrel:s.relax kk e=⟨s.d,s.p.set e.t e,s.q⟩:=by unfold aQ.relax;rw[if_neg (show¬s.at e.t<0 from by rw[Vw.out];omega),if_neg (by rintro(c | c);exact c Vw.out;rw[aIs.out,hl]at c;cases c)]
          have HE:=lz hrel;clear hrel;go_wp2;go_roundw
          case rel=>
           refine⟨j+1,oz,by go_num,?_,?_⟩
           ·rw[lg.out.1];exact lz lg.out.2
           ·rw[lg.out.1,HE.out];exact HS9.out
          case measure=>simp[intOf];omega
        ·have hne:(dt !=kk+1)=true:=by simpa using Cq
         go_quiet (fail);go_wp2_with fail;have HS9:=lz (sD.out.below (W':=V3.drewN nq) (aD (Below.refl _ _)));have hrel:s.relax kk e=s:=by unfold aQ.relax;rw[if_neg (show¬s.at e.t<0 from by rw[show s.at e.t=dt from Hdt.out.symm];omega),if_pos (.inl (by rw[show s.at e.t=dt from Hdt.out.symm];exact Cq))]
         have HE:=lz hrel;clear hrel;go_roundw
         case rel=>
          refine⟨j+1,oz,by go_num,?_,?_⟩
          ·rw[lg.out.1];exact lz lg.out.2
          ·rw[lg.out.1,HE.out];exact HS9.out
         case measure=>simp[intOf];omega
      ·obtain rfl:j=(F m).length:=by omega
       rw[List.take_length]at Hs hM;have hFm:F m=Ph E m:=HF.out m hm;have MQ:aQ.step E m ⟨d,p,q⟩=s:=by
        rw[Hs.out];unfold aQ.step;rw[hFm,Hkk.out]
       have aE5:=aQ.IQ (fun e he=>(hE e he).1) HR.out.2.1;have aE6:=aQ.Eb (fun e he=>(hE e he).1) HR.out.2.1;rw[MQ]at aE5 aE6;have hrun:aQ.run E f s=bfs E 12 src:=by
        have:=HR.out.1;rw[show aQ.run E (f+1) ⟨d,p,m :: q⟩=aQ.run E f (aQ.step E m ⟨d,p,q⟩)from rfl,MQ]at this;exact this
       have hlf:s.left≤f:=by have:=HR.out.2.2.1;omega
       have Xe:f≤13:=by have:=HR.out.2.2.2;omega
       have HN:=lz (ai hrun (ai aE6 (ai hlf Xe)));have aOE:=lz aE5;have HS:=lz hS;clear hS hM Hs hFm MQ aE5 aE6 hrun hlf Xe HR;go_wp2_with fail;refine(aDZ _ HS.out.q ?hq).mono ?_
       case hq=>
        have h1:s.left=s.q.length+s.d.countP (fun x=>decide (x<0)):=rfl;have h2:=HN.out.2.2;omega
       rintro e W4 ⟨rfl,hq4,Xd⟩;have vw:yX w0 W4 base b mb nm D vf F src n ⟨s.d,s.p,s.q.tail⟩:=HS.out.box Xd hq4;have Xk:=I4 (m:= .bool (!s.q.isEmpty)) vw;have sD:=lz vw;have Hl4:=lz Xk;rw[I3];clear vw hq4 Xd HS Xk;go_wp2;go_roundw
       case rel=>exact⟨f,s,rfl,rfl,HN,sD.out⟩
       case measure=>
        rw[Hl4.out,aIj.out];have h0:=aOE.out;have h1:s.left=s.q.length+s.d.countP (fun x=>decide (x<0)):=rfl;have h2:aQ.left ⟨d,p,m :: q⟩=q.length+1+d.countP (fun x=>decide (x<0)):=rfl;have h3:s.q.tail.length+(match (Value.bool (!s.q.isEmpty))with | .bool true=>1 | _=>0)=s.q.length:=by cases s.q<;>rfl
        show _+_+_<_+q.length+1;omega
end
end
end Go.Proofs.YtmdgooofdmpcjaaGreatDoor
