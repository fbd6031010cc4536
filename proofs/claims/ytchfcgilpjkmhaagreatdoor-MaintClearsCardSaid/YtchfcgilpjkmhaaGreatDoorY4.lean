import Derived.BigQuiet
import Derived.Test.YtchfcgilpjkmhaaGreatDoorY3
import Derived.Test.YtchfcgilpjkmhaaGreatDoorY0
set_option maxRecDepth 100000
set_option linter.unusedSimpArgs false
set_option linter.unusedVariables false
set_option linter.unusedSectionVars false
namespace Go.Proofs.YtchfcgilpjkmhaaGreatDoor
open Go.ChangeShapes Go.WideShapes Go.ChangeAt Go.RowKit
attribute [local go_sem] Oper.semAt_some
theorem accL_len{ν ρ:Type}[DecidableEq ν][DecidableEq ρ](l:List (Ca ν ρ))(reps:List ρ):∀(a out:List ν),(accL l reps a out).length≤a.length+out.length
 | [],out=>by simp[accL]
 | u :: a,out=>by
  have:=accL_len l reps a (if hitV l reps out u then out++ [u]else out);unfold accL;split at this<;>simp_all<;>omega
theorem accL_snoc{ν ρ:Type}[DecidableEq ν][DecidableEq ρ](l:List (Ca ν ρ))(reps:List ρ)(a:List ν)(u:ν)(out:List ν):accL l reps (a++ [u]) out=if hitV l reps (accL l reps a out) u then accL l reps a out++ [u]else accL l reps a out:=accL_append l reps a [u] out
theorem hit_no{L:List CsV}{reps:List Rep}{acc:List ByteArray}{u:ByteArray}(h:∀y∈upTo L u L.length,holdB reps acc y.x.c=false):hitV (csOf L) reps acc u=false:=by
 unfold hitV;rw[List.any_eq_false];intro c hc;obtain⟨x,hx,rfl⟩:=List.mem_map.1 hc;obtain⟨i,hi,rfl⟩:=List.getElem_of_mem hx;by_cases e:L[i].c.unit=u
 ·have:=h ⟨i,L[i],List.getElem?_eq_getElem hi,e⟩ ((upTo_mem _ _).2 hi)
  unfold holdB at this;simp[this]
 ·simp[e]
theorem hit_yes{L:List CsV}{reps:List Rep}{acc:List ByteArray}{u:ByteArray}(y:Hit L u)(h:holdB reps acc y.x.c=true):hitV (csOf L) reps acc u=true:=by
 unfold hitV;rw[List.any_eq_true];refine⟨y.x.c,List.mem_map_of_mem (List.mem_of_getElem? y.h),?_⟩;unfold holdB at h;simp[h,y.hu]
theorem keepsB{B:Nat}{W W':World}(h:Below W.heap.size W W'):KeepsFrom B W W':=⟨h.size,fun k o _ hk _=>(h.block k (Array.getElem?_eq_some_iff.1 hk).1).trans hk⟩
theorem keeps_own{B base:Nat}{e:TypeId}{size n:Nat}{v:Value}{xs:List Value}{X Y:World}(hown:X.ownsRow base e size v n xs)(hg:X.grownBy Y v.ownBlock):KeepsFrom B X Y:=
 ⟨hg.size,fun k o _ hk ho=>(hg.block k (Array.getElem?_eq_some_iff.1 hk).1 (fun e=>own_blk_def hown hk ho e.symm)).trans hk⟩
theorem keeps_set{B g:Nat}{t:TypeId}{cs:Array Value}{X:World}(hb:Blk X g t cs)(u:Value):KeepsFrom B X (X.setCell ⟨g,0,none⟩ u):=
 ⟨by simp[World.setCell],fun k o _ hk ho=>(Below.heap_setCell X ⟨g,0,none⟩ u k (fun e=>by
  have e:k=g:=e;subst e;rw[show X.heap[k]?=_ from hb]at hk
  cases hk;cases ho)).trans hk⟩
theorem grown_setCell(X:World)(p:Addr)(u:Value):X.grownBy (X.setCell p u) (some p.block):=⟨rfl,rfl,rfl,by simp[World.setCell],fun k _ hn=>Below.heap_setCell X p u k (fun e=>hn (by rw[e]))⟩
structure AccSt(w1:World)(acc:List ByteArray)(v:Value)(Ds:List Nat)(hi:Nat)(W:World):Prop where
 below:Below w1.heap.size w1 W
 size:w1.heap.size+3≤W.heap.size
 box9:Blk W w1.heap.size 46 #[v]
 box10:Blk W (w1.heap.size+2) 113 #[.map (some (w1.heap.size+1))]
 map:CntMap KS W (w1.heap.size+1) acc
 own:W.ownsRow (w1.heap.size+3) 9 1 v acc.length (acc.map Value.string)
 nodup:Ds.Nodup
 marks:∀D∈Ds,w1.heap.size+3≤D∧D<hi∧W.heap[D]?=some (.deferred (some []))
section
variable {w1:World} {acc:List ByteArray} {v:Value} {Ds:List Nat} {hi:Nat} {W W':World}
theorem AccSt.more(h:AccSt w1 acc v Ds hi W){hi':Nat}(hh:hi≤hi'):AccSt w1 acc v Ds hi' W:=
 {h with marks:=fun D hD=>⟨(h.marks D hD).1,by have:=(h.marks D hD).2.1;omega,(h.marks D hD).2.2⟩}
theorem AccSt.grow(h:AccSt w1 acc v Ds hi W){row:Option Nat}(hg:W.grownBy W' row)(hr:∀r,row=some r→w1.heap.size+3≤r∧hi≤r∧(∀o:Obj,W.heap[r]?=some o→o.isCells=false)):AccSt w1 acc v Ds hi W' where
 below:=h.below.grown hg (by have:=h.size;omega) (fun j e=>by have:=(hr j e).1;omega)
 size:=Nat.le_trans h.size hg.size
 box9:=h.box9.grown hg (fun e=>by have:=(hr _ e.symm).1;omega)
 box10:=h.box10.grown hg (fun e=>by have:=(hr _ e.symm).1;omega)
 map:=h.map.kept hg (fun e=>by have:=(hr _ e.symm).1;omega)
 own:=h.own.kept hg (by
  rcases h.own.2 with⟨rfl,_⟩ | ⟨g,cap,cur,rfl,_,hh,_⟩
  ·exact .inl rfl
  ·exact .inr (fun e=>by
    have:=(hr g e.symm).2.2 _ hh
    cases this))
 nodup:=h.nodup
 marks:=fun D hD=>⟨(h.marks D hD).1,(h.marks D hD).2.1,(hg.block D (Array.getElem?_eq_some_iff.1 (h.marks D hD).2.2).1 (fun e=>by
  have:=(hr D e.symm).2.1;have:=(h.marks D hD).2.1;omega)).trans (h.marks D hD).2.2⟩
end
theorem AccSt.mark{w1:World}{acc:List ByteArray}{v:Value}{Ds:List Nat}{hi:Nat}{W:World}{D:Nat}(h:AccSt w1 acc v Ds hi W)(hs:hi≤W.heap.size)(hw:w1.heap.size+3≤D)(hD:hi≤D)(hK:W.heap[D]?=some (.deferred (some []))):AccSt w1 acc v (D :: Ds) W.heap.size W:=
 {h with
  nodup:=List.nodup_cons.2 ⟨fun hm=>by have:=(h.marks D hm).2.1;omega,h.nodup⟩
  marks:=fun E hE=>by
   rcases List.mem_cons.1 hE with rfl | hE
   ·exact⟨hw,(Array.getElem?_eq_some_iff.1 hK).1,hK⟩
   ·exact⟨(h.marks E hE).1,by have:=(h.marks E hE).2.1;omega,(h.marks E hE).2.2⟩}
theorem AccSt.step{w1:World}{acc:List ByteArray}{v v':Value}{Ds:List Nat}{hi:Nat}{W wm wo:World}{u:ByteArray}{o:Obj}(h:AccSt w1 acc v Ds hi W)
 (hm:CntMap KS wm (w1.heap.size+1) (acc++ [u])) (hg:W.grownBy wm (some (w1.heap.size+1))) (hown1:(wm.alloc o).ownsRow (w1.heap.size+3) 9 1 v acc.length (acc.map Value.string))
 (hown:wo.ownsRow (w1.heap.size+3) 9 1 v' (acc.length+1) (acc.map Value.string++ [.string u])) (hg2:(wm.alloc o).grownBy wo v.ownBlock):AccSt w1 (acc++ [u]) v' Ds hi (wo.setCell ⟨w1.heap.size,0,none⟩ v'):=by
 have hs1:=hg.size;have hs2:=hg2.size;simp at hs2;have hsz:=h.size;have hnb:∀g,g<w1.heap.size+3→some g≠v.ownBlock:=fun g hlt e=>by have:=(hown1.lt g e.symm).1;omega
 have hb1:Below w1.heap.size w1 (wm.alloc o):=(h.below.grown hg (by omega) (fun j e=>by cases e;omega)).alloc (by omega) _;have hb2:Below w1.heap.size w1 wo:=hb1.grown hg2 (by simp;omega) (fun g hg=>by have:=(hown1.lt g hg).1;omega);have b9:Blk wo w1.heap.size 46 #[v]:=((h.box9.grown hg (by simp)).alloc o).grown hg2 (hnb _ (by omega));have b9':=b9.set_ 0 v';refine⟨?_,by simp[World.setCell];omega,by simpa using b9',?_,?_,?_,h.nodup,fun D hD=> ?_⟩
 ·exact hb2.setCell (Nat.le_refl _) _
 ·exact(((h.box10.grown hg (by simp)).alloc o).grown hg2 (hnb _ (by omega))).far (by simp) _
 ·exact((hm.alloc o).kept hg2 (hnb _ (by omega))).setCell (by simp) _
 ·have:wo.ownsRow (w1.heap.size+3) 9 1 v' (acc++ [u]).length ((acc++ [u]).map Value.string):=by simpa using hown
  exact this.kept (grown_setCell wo ⟨w1.heap.size,0,none⟩ v') (.inr (own_blk_ne this b9 (by decide)))
 ·have hd:=h.marks D hD
  have hlt:=(Array.getElem?_eq_some_iff.1 hd.2.2).1;have e1:wm.heap[D]?=some (.deferred (some [])):=(hg.block D hlt (by simp;omega)).trans hd.2.2;have e2:(wm.alloc o).heap[D]?=some (.deferred (some [])):=(Below.heap_alloc _ _ _ (by omega)).trans e1;have e3:wo.heap[D]?=some (.deferred (some [])):=(hg2.block D (by simp;omega) (fun e=>own_blk_def hown1 e2 rfl e.symm)).trans e2;exact⟨hd.1,hd.2.1,(Below.heap_setCell _ _ _ _ (by show D≠w1.heap.size;omega)).trans e3⟩
structure FA(A:Option Addr)(n c g3 g9 g10:Nat)(A2:Option Addr)(n2 c2:Nat)(Ds:List Nat)(k:Nat)(a:Act):Prop where
 size:a.tmps.size=49
 s0:a.tmps.getD 0 undef= .slice A n c
 s3:a.tmps.getD 3 undef= .pointer (some ⟨g3,0,none⟩)
 s9:a.tmps.getD 9 undef= .pointer (some ⟨g9,0,none⟩)
 s10:a.tmps.getD 10 undef= .pointer (some ⟨g10,0,none⟩)
 s23:a.tmps.getD 23 undef= .slice A2 n2 c2
 s24:a.tmps.getD 24 undef= .int .i64 n2
 s25:a.tmps.getD 25 undef= .int .i64 k
 defers:a.defers=Ds.map markD
theorem FA.lit{A:Option Addr}{n c g3 g9 g10:Nat}{A2:Option Addr}{n2 c2:Nat}{Ds:List Nat}{k:Nat}{a:Act}(h:FA A n c g3 g9 g10 A2 n2 c2 Ds k a):∃z:Nat→Value,a={tmps:=List.toArray [.slice A n c,z 1,z 2,.pointer (some ⟨g3,0,none⟩),z 4,z 5,z 6,z 7,z 8,.pointer (some ⟨g9,0,none⟩),.pointer (some ⟨g10,0,none⟩),z 11,z 12,z 13,z 14,z 15,z 16,z 17,z 18,z 19,z 20,z 21,z 22,.slice A2 n2 c2,.int .i64 n2,.int .i64 k,z 26,z 27,z 28,z 29,z 30,z 31,z 32,z 33,z 34,z 35,z 36,z 37,z 38,z 39,z 40,z 41,z 42,z 43,z 44,z 45,z 46,z 47,z 48],defers:=Ds.map markD}:=by
 obtain⟨T,d⟩:=a;obtain⟨h1,h2,h3,h4,h5,h6,h7,h8,h9⟩:=h;simp only at h1 h2 h3 h4 h5 h6 h7 h8 h9;obtain⟨z,hz,hg⟩:=frame_of 49 T h1;refine⟨z,?_⟩;rw[←hg]at h2 h3 h4 h5 h6 h7 h8;rw[h9,hz,←h2,←h3,←h4,←h5,←h6,←h7,←h8];rfl
theorem RdStr.at_{w:World}{B:Nat}{A:Option Addr}{l:List ByteArray}(h:RdStr w B A l){k:Nat}(hk:k<l.length):∃b o,A=some ⟨b,o,none⟩∧b<B∧w.cell? ⟨b,o+k,none⟩=some (.string l[k]):=by
 obtain⟨b,o,h1,h2,h3⟩:=h (by omega);exact⟨b,o,h1,h2,h3 k hk⟩
set_option maxHeartbeats 4000000 in
theorem accused_c3(L:List CsV)(reps:List Rep)(b:Nat)(A:Option Addr)(c:Nat)(w:World)(h:RdCs w w.heap.size A L)(ok:∀x∈L,OkC x.c)(hl:L.length≤100000)(hm:CntMap KR w b reps):
 Calls Tryz.prog 38 #[.slice A L.length c,.map (some b)] w fun e w'=>Below w.heap.size w w'∧
  (if okV (csOf L)=true then∃A' c' b',e= .returned (.tuple #[.slice A' (accV (csOf L) reps).length c',.map (some b'),.int .i64 0])∧RdStr w' w'.heap.size A' (accV (csOf L) reps)∧CntMap KS w' b' (accV (csOf L) reps)∧(accV (csOf L) reps).length≤c'∧c'≤maxLen
  else e= .returned (.tuple #[.slice none 0 0,.map none,.int .i64 400])):=by
 have hord:=order_ok (csOf L);have hou:∀x∈orderV (csOf L),x.size≤maxLen:=fun x hx=>by
  have:=hord.sub x hx;rw[mem_units]at this;obtain⟨c,hc,rfl⟩:=this;obtain⟨y,hy,rfl⟩:=List.mem_map.1 hc;exact(ok y hy).u
 have hol:(orderV (csOf L)).length≤100000:=by
  have:=order_len (csOf L);have:=len_units (csOf L);simp at this;omega
 have H:=lz h;have Hm:=lz hm;have Hok:=lz ok;have Hou:=lz hou;have hoc:=order_c L A c;have hac:accV (csOf L) reps=accL (csOf L) reps (orderV (csOf L)) []:=rfl;have Hac:=lz hac;have hmk:= @run_makeMap Tryz.prog;obtain⟨kv,hkv⟩:∃kv,kv=okV (csOf L):=⟨_,rfl⟩;rw[←hkv]at hoc ⊢;have Hoc:=lz hoc;clear h ok hm hord hou hac hoc hkv;refine(callsIn_wide (n:=9)).1 ?_;refine callsIn_of_wp_marks Tryz.func38 rfl trivial ?_ rfl;simp only[Tryz.ntmps38,List.size_toArray,List.length_cons,List.length_nil,Nat.reduceAdd,Nat.reduceSub,Array.replicate_succ,Array.replicate_zero,List.push_toArray,List.append_toArray,List.nil_append,List.cons_append];refine wpIn_wide.2 ?_;go_wp2_with fail;have hH1:=H.out.below ((Below.refl _ w).alloc (Nat.le_refl _) (.cells #[.map (some b)] 101));refine(Hoc.out (w.alloc (.cells #[.map (some b)] 101)) hH1 Hok.out hl).mono ?_;rintro e w1 ⟨A2,c2,rfl,hrd,hb1⟩;have hB1:Below w.heap.size w w1:=((Below.refl _ w).alloc (Nat.le_refl _) (.cells #[.map (some b)] 101)).trans (hb1.mono (by simp));have hb3:Blk w1 w.heap.size 101 #[.map (some b)]:=(Blk.new w 101 #[.map (some b)]).below hb1 (by simp);have hsz1:=hb1.size;simp at hsz1;generalize orderV (csOf L)=ord at *;have HB1:=lz hB1;have Hb3:=lz hb3;have Hrd:=lz hrd;clear hH1 hrd hb1 hB1 hb3 Hoc
 cases kv with
 | false=>
  go_wp2_with fail;refine leaves_marks [] w1 w.heap.size List.nodup_nil (fun D h=>absurd h (by simp)) fun W' hSh=> ?_
  exact⟨.tuple #[.slice none 0 0,.map none,.int .i64 400],by simp[results,Tryz.f38,go_sem],HB1.out.trans (hSh.below.mono (by omega)),rfl⟩
 | true=>
  have hst:AccSt w1 [] (.slice none 0 0) [] w1.heap.size (((w1.alloc (.cells #[.slice none 0 0] 46)).alloc (.map #[] 0)).alloc (.cells #[.map (some (w1.heap.size+1))] 113)):=by
   refine⟨(((Below.refl _ w1).alloc (Nat.le_refl _) _).alloc (by simp) _).alloc (by simp;omega) _,by simp,((Blk.new w1 _ _).alloc _).alloc _,?_,?_,World.ownsRow_nil _ _ _ _,List.nodup_nil,fun D h=>absurd h (by simp)⟩
   ·have:=Blk.new ((w1.alloc (.cells #[.slice none 0 0] 46)).alloc (.map #[] 0)) 113 #[.map (some (w1.heap.size+1))]
    rw[World.size_alloc,World.size_alloc]at this;exact this
   ·have:=CntMap.made (M:=KS) (w1.alloc (.cells #[.slice none 0 0] 46))
    rw[World.size_alloc]at this;exact this.alloc _
  have Hst:=lz hst;clear hst;go_wp2_with fail;refine wp_loop (fun a wr=>∃(k:Nat) (v:Value) (Ds:List Nat),k≤ord.length∧AccSt w1 (accL (csOf L) reps (ord.take k) []) v Ds wr.heap.size wr∧FA A L.length c w.heap.size w1.heap.size (w1.heap.size+2) A2 ord.length c2 Ds k a) (fun a _=>ord.length-(intOf (a.tmps.getD 25 undef)).toNat) ?h0 ?round
  case h0=>exact⟨0,_,[],Nat.zero_le _,Hst.out.more (by simp;omega),⟨rfl,rfl,rfl,rfl,rfl,rfl,rfl,rfl,rfl⟩⟩
  case round=>
   clear Hst;rintro a w3 ⟨k,v,Ds,hk,hS,hF⟩;obtain⟨z,rfl⟩:=hF.lit;clear hF;by_cases hlt:k<ord.length
   ·obtain⟨bo,oo,rfl,hbo,hco⟩:=(Hrd.out.keep hS.below).at_ hlt
    have hu:ord[k].size≤maxLen:=Hou.out _ (List.getElem_mem hlt);have htk:ord.take (k+1)=ord.take k++ [ord[k]]:=List.take_succ_eq_append_getElem hlt;have hbw:bo<w3.heap.size:=World.block_lt_of_cell? w3 _ hco;have hnx:=accL_snoc (csOf L) reps (ord.take k) ord[k] [];rw[←htk]at hnx;have Hnx:=lz hnx;have hacl:(accL (csOf L) reps (ord.take k) []).length≤100000:=by
     have:=accL_len (csOf L) reps (ord.take k) [];simp at this;omega
    have HS:=lz hS;have hsz3:=hS.size;clear htk hnx hS;generalize accL (csOf L) reps (ord.take k) []=acc at *;obtain⟨acc',hacc'⟩:∃a,a=accL (csOf L) reps (ord.take (k+1)) []:=⟨_,rfl⟩;rw[←hacc']at Hnx;have Hacc:=lz hacc';clear hacc';generalize ord[k]=u at *;go_wp2_with fail;refine(all_c _ _ _ _ _).mono ?_;rintro e w4 ⟨rfl,hw4⟩;have hB4:Below w3.heap.size w3 w4:=by rw[hw4];exact(((Below.refl _ w3).alloc (Nat.le_refl _) _).alloc (by simp) _).alloc (by simp;omega) _
    have hz4:w4.heap.size=w3.heap.size+3:=by rw[hw4];simp
    have hb12:Blk w4 w3.heap.size 9 #[.string u]:=by rw[hw4];exact((Blk.new w3 _ _).alloc _).alloc _
    have hbl:Blk w4 (w3.heap.size+1) 97 #[.slice A L.length c]:=by
     rw[hw4];have:=Blk.new (w3.alloc (.cells #[.string u] 9)) 97 #[.slice A L.length c];rw[World.size_alloc]at this;exact this.alloc _
    have hbu:Blk w4 (w3.heap.size+2) 9 #[.string u]:=by
     rw[hw4];have:=Blk.new ((w3.alloc (.cells #[.string u] 9)).alloc (.cells #[.slice A L.length c] 97)) 9 #[.string u];rw[World.size_alloc,World.size_alloc]at this;exact this
    have hS4:AccSt w1 acc v Ds w4.heap.size w4:=(HS.out.grow (below_grown (row:=none) hB4) (fun r e=>by cases e)).more (by omega);have hwb:=(HB1.out.trans (hS4.below.mono HB1.out.size));have HL4:=lz (H.out.keep hwb);have HM4:=lz (Hm.out.below hwb Hm.out.lt);have HS4:=lz hS4;have H12:=lz hb12;have Hbl:=lz hbl;have Hbu:=lz hbu;have Hz4:=lz hz4;clear hw4 hB4 hb12 hbl hbu hS4 hwb hz4 HS hco;go_wp2_with fail;have hz4:=Hz4.out;refine(wpIn_wide (n:=9)).1 ?_;refine wpIn_rangeFunc_ownH (F:=Fence.wide) rfl (by omega) (gf:=111) (lb:= #[.pointer (some ⟨w3.heap.size+1,0,none⟩),.pointer (some ⟨w3.heap.size+2,0,none⟩)]) rfl trivial (enters_of Tryz.func111 kz rfl)
     (encs:=Hit.enc (L:=L) (u:=u)) (all1_seq L u A c w.heap.size (w3.heap.size+1) (w3.heap.size+2) (9-1) w4 (by omega) (by omega) (by omega) (by omega) Hbl.out Hbu.out HL4.out (by omega))
     (fun h1 h2=>h1.trans h2) (KpA.put (by omega) (by omega) (by omega)) (Below.refl _ _) (fun _=>rfl)
     (fun pre W=>Below w4.heap.size w4 W∧∀y∈pre,holdB reps acc y.x.c=false)
     (fun cd _ W=>cd=Code.exit 2∧∃v',AccSt w1 (acc++ [u]) v' Ds w4.heap.size W∧hitV (csOf L) reps acc u=true)
     (fun _ X Y row hs hg hr=>⟨hs.1.grown hg hs.1.size (fun j e=>(hr j e).1),hs.2⟩)
     (fun _ _ X Y row hs hg hr=>by
      obtain⟨h1,v',h2,h3⟩:=hs;exact⟨h1,v',h2.grow hg (fun r e=>by obtain⟨q1,o,q2,q3⟩:=hr r e;have:=HS4.out.size;exact⟨by omega,q1,fun o' ho'=>by rw[q2]at ho';cases ho';exact q3⟩),h3⟩)
     ⟨Below.refl _ _,fun y h=>absurd h (by simp)⟩
     (fun y a' W=>∃Bx,w4.heap.size≤Bx∧Blk W Bx 48 #[.string y.x.c.unit,.slice y.x.n.a y.x.n.n y.x.n.c,.slice y.x.x.a y.x.x.n y.x.x.c]∧a'={tmps:=(((List.toArray [.slice A L.length c,z 1,z 2,.pointer (some ⟨w.heap.size,0,none⟩),z 4,z 5,z 6,z 7,z 8,.pointer (some ⟨w1.heap.size,0,none⟩),.pointer (some ⟨w1.heap.size+2,0,none⟩),z 11,.pointer (some ⟨w3.heap.size,0,none⟩),z 13,z 14,z 15,z 16,z 17,z 18,z 19,z 20,z 21,z 22,.slice (some ⟨bo,oo,none⟩) ord.length c2,.int .i64 ord.length,.int .i64 k,.bool true,.pointer (some ⟨bo,oo+k,none⟩),.string u,.slice A L.length c,.string u,.func (.func 111) #[] #[.pointer (some ⟨w3.heap.size+1,0,none⟩),.pointer (some ⟨w3.heap.size+2,0,none⟩)],z 32,z 33,z 34,z 35,z 36,z 37,z 38,z 39,z 40,z 41,z 42,z 43,z 44,z 45,z 46,z 47,z 48]).setIfInBounds 32 (.int .i64 y.i)).setIfInBounds 33 y.x.val).setIfInBounds 14 (.pointer (some ⟨Bx,0,none⟩)),defers:= []})
     (fun y a' s X Y row hs hg hr=>by obtain⟨Bx,h1,h2,h3⟩:=hs;exact⟨Bx,h1,ownFrom_blk (β:=Unit) w4.heap.size _ _ _ s X Y row h2 hg hr,h3⟩) ?assign ?body ?done ?stop
    case assign=>
     intro l pre y W K hI hK;have hs4:=hI.1.size;dsimp only[Hit.enc,CsV.val];gi_wp2;exact hK _ _ ((KeepsOthers.alloc _ _).from _) (KpA.of_below ((Below.refl _ W).alloc (Nat.le_refl _) _) (by omega) (by omega) (by omega)) ⟨hI.1.alloc hs4 _,hI.2⟩ ⟨W.heap.size,hs4,by simpa using Blk.new W 48 _,rfl⟩
    case body=>
     rintro l pre y a' W hl ⟨r,hr⟩ hI ⟨Bx,hBx,hbx,rfl⟩ hlt2;simp only[List.setIfInBounds_toArray,List.set_cons_succ,List.set_cons_zero];have hSW:AccSt w1 acc v Ds w4.heap.size W:=HS4.out.grow (below_grown (row:=none) hI.1) (fun r e=>by cases e);have hsW:=hI.1.size;have c3:=(Hb3.out.below hSW.below (by omega)).cell 0;have c9:=hSW.box9.cell 0;have c10:=hSW.box10.cell 0;have H12W:=lz (H12.out.below hI.1 (by omega));have hwW:=HB1.out.trans (hSW.below.mono HB1.out.size);have hx:=(rd_of (H.out.keep hwW) y.h).more (B':=W.heap.size) (by omega);have hok:=Hok.out y.x (List.mem_of_getElem? y.h);have Hcall:=lz (holds_c reps acc b (w1.heap.size+1) y.x W hx hok (Hm.out.below hwW Hm.out.lt) hSW.map);have HSW:=lz hSW;have HI:=lz hI;have Hbx:=lz hbx;have r0:=hbx.cell 0;have r1:=hbx.cell 1;have r2:=hbx.cell 2;clear hSW hwW hx hok hI hbx;gi_wp2_with fail;refine round_call Hcall.out ?_;rintro e W2 ⟨rfl,hb2⟩;have HIb:=lz (HI.out.1.trans (hb2.mono hsW));have hs2:=hb2.size;have HS2:=lz (HSW.out.grow (below_grown (row:=none) hb2) (fun r e=>by cases e));have H122:=lz (H12W.out.below hb2 (by omega));have c9:=HS2.out.box9.cell 0;have f9:=HS2.out.box9.frozen 0;have c10:=HS2.out.box10.cell 0;have c12:=H122.out.cell 0;have HKp:Hid (KpA w.heap.size (w3.heap.size+1) (w3.heap.size+2) W W2):=lz (KpA.of_below hb2 (by omega) (by omega) (by omega));have HK:=lz (keepsB (B:=w4.heap.size) hb2);clear Hcall hb2 HSW H12W r0 r1 r2
     cases hq:holdB reps acc y.x.c with
     | false=>
      gi_wp2;exact⟨HK.out,HKp.out,HIb.out,fun y' hy'=>by
       rcases List.mem_append.1 hy' with hy' | hy'
       ·exact HI.out.2 y' hy'
       ·simp at hy';subst hy';exact hq⟩
     | true=>
      have hh:=lz (hit_yes y hq);have hcl':=cnt_le u acc;have hlen64:acc.length<maxLen:=by unfold maxLen;omega
      have hcb:(cntB u acc:Int)≤9223372036854775806:=by omega
      have hc0:(0:Int)≤(cntB u acc:Int):=by omega
      have hown:=HS2.out.own;have hSz:=HS2.out.size;obtain⟨i0,hi0,hz0,hz1,hz2⟩:=info_parts info9;clear hq hcl' HKp;gi_wp2_with (first
       | (gi_at_lookup;refine wpListIn_cnt (M:=KS) rfl (.tmp 38) (.tmp 39) rfl rfl HS2.out.map u hu rfl ?_)
       | (gi_at_mapUpdate;refine wpListIn_push (M:=KS) rfl (.tmp 38) (.tmp 39) (.tmp 41) rfl rfl HS2.out.map hlen64 u hu rfl rfl ?_;intro wm hwm hgm;have c92:wm.cell? ⟨w1.heap.size,0,none⟩=some v:=(HS2.out.box9.grown hgm (by simp)).cell 0;have c122:wm.cell? ⟨w3.heap.size,0,none⟩=some (.string u):=(H122.out.grown hgm (by simp;omega)).cell 0;have hown1:=(hown.kept hgm (.inr (fun e=>by have:=(hown.lt _ e).1;omega))).alloc (.cells #[.string u] 9))
       | (gi_at_builtin;refine wpListIn_append_own _ rfl _ _ 46 rfl (w1.heap.size+3) 9 i0 (.string ⟨#[]⟩) 1 16 Tryz.underlying46 hi0 hz0 hz1 hz2 rfl (by decide) _ _ _ rfl hown1 ⟨wm.heap.size,0,none⟩ 1 1 [.string u] rfl rfl ?c1 ?c2 ?c3 ?c4 ?c5 ?_))
      case c1=>
       intro j u' hj;rcases j with _ | j
       ·simp at hj
        subst hj;exact(Blk.new wm 9 #[.string u]).cell 0
       ·simp at hj
      case c2=>simp[Value.oneCell']
      case c3=>unfold maxLen;omega
      case c4=>omega
      case c5=>have:=hgm.size;have:=hSz;simp;omega
      intro v5 wo hown5 hg5 _;obtain⟨g5,cp5,rfl,_⟩:=hown5.form (by omega);have hsm:=hgm.size;have hso:=hg5.size;simp at hso;have b9o:=((HS2.out.box9.grown hgm (by simp)).alloc (.cells #[.string u] 9)).grown hg5 (fun e=>by have:=(hown1.lt _ e.symm).1;omega);have f9:=b9o.frozen 0;have c9:=b9o.cell 0;have HS5:=lz (HS2.out.step hwm hgm hown1 hown5 hg5);have hK5:KeepsFrom w4.heap.size W (wo.setCell ⟨w1.heap.size,0,none⟩ (.slice (some ⟨g5,0,none⟩) (acc.length+1) cp5)):=
       HK.out.trans ((KeepsFrom.of_grownBy hgm (fun j e=>by cases e;omega)).trans (((KeepsOthers.alloc _ _).from _).trans ((keeps_own hown1 hg5).trans (keeps_set b9o _))))
      have HK5:=lz hK5;clear hK5 b9o hown5 hg5 hown1 hgm hwm hown;gi_wp2_with fail;exact⟨HK5.out,rfl,_,HS5.out,hh.out⟩
    case done=>
     rintro D ys W hD rfl hI hK;have hno:=hit_no hI.2;rw[hno]at Hnx;have hsW:=hI.1.size;have HSW:Hid (AccSt w1 acc v (D :: Ds) W.heap.size W):=lz ((HS4.out.grow (below_grown (row:=none) hI.1) (fun r e=>by cases e)).mark hsW (by omega) (by omega) hK);clear hI hno hK;have hacc:acc'=acc:=by simpa using Hnx.out
     rw[hacc]at Hacc;clear hacc Hnx;go_wp2_with fail;exact⟨⟨k+1,v,D :: Ds,by omega,by rw[←Hacc.out];exact HSW.out,⟨rfl,rfl,rfl,rfl,rfl,rfl,rfl,by simp,rfl⟩⟩,by simp[intOf];omega⟩
    case stop=>
     rintro D c' pre W hD hpre ⟨rfl,v',hS',hh⟩ hK;rw[hh]at Hnx;have HSW:=lz (hS'.mark (by have:=(Array.getElem?_eq_some_iff.1 hK).1;omega) (by have:=HS4.out.size;omega) hD hK);have hacc:acc'=acc++ [u]:=by simpa using Hnx.out
     rw[hacc]at Hacc;clear hS' hh hK hacc Hnx;gi_wp2_with fail;go_wp2_with fail;exact⟨⟨k+1,v',D :: Ds,by omega,by rw[←Hacc.out];exact HSW.out,⟨rfl,rfl,rfl,rfl,rfl,rfl,rfl,by simp,rfl⟩⟩,by simp[intOf];omega⟩
   ·obtain rfl:k=ord.length:=by omega
    rw[List.take_length,←Hac.out]at hS;have HS:=lz hS;clear hS;obtain⟨Av,cv,rfl,hcv⟩:∃Av cv,v= .slice Av (accV (csOf L) reps).length cv∧((accV (csOf L) reps).length≤cv∧cv≤maxLen):=by
     rcases HS.out.own.2 with⟨rfl,h0⟩ | ⟨g,cap,cur,rfl,_,_,h1,h2,_⟩
     ·exact⟨none,0,by rw[h0],by omega,by unfold maxLen;omega⟩
     ·exact⟨_,_,rfl,h1,h2⟩
    have Hcv:=lz hcv;clear hcv;have c9:=HS.out.box9.cell 0;have c10:=HS.out.box10.cell 0;go_wp2_with fail;go_quiet (fail);go_wp2_with fail;refine leaves_marks Ds _ (w1.heap.size+3) HS.out.nodup (fun D hD=>⟨(HS.out.marks D hD).1,(HS.out.marks D hD).2.2⟩) fun W' hSh=> ?_
    have hbs:Below (w1.heap.size+3) w3 W':=⟨hSh.below.os,hSh.below.tape,hSh.below.output,hSh.below.size,hSh.below.block⟩;refine⟨.tuple #[.slice Av (accV (csOf L) reps).length cv,.map (some (w1.heap.size+1)),.int .i64 0],by simp[results,Tryz.f38,go_sem],?_,Av,cv,w1.heap.size+1,rfl,?_,?_,Hcv.out.1,Hcv.out.2⟩
    ·exact(HB1.out.trans (HS.out.below.mono HB1.out.size)).trans (hbs.mono (by omega))
    ·exact hSh.str (rdStr_of_own HS.out.own)
    ·exact HS.out.map.below hbs (by omega)
theorem accused_c(L:List CsV)(reps:List Rep)(b:Nat)(A:Option Addr)(c:Nat)(w:World)(h:RdCs w w.heap.size A L)(ok:∀x∈L,OkC x.c)(hl:L.length≤100000)(hm:CntMap KR w b reps):
 Calls Tryz.prog 38 #[.slice A L.length c,.map (some b)] w fun e w'=>Below w.heap.size w w'∧
  (if okV (csOf L)=true then∃A' c' b',e= .returned (.tuple #[.slice A' (accV (csOf L) reps).length c',.map (some b'),.int .i64 0])∧RdStr w' w'.heap.size A' (accV (csOf L) reps)∧CntMap KS w' b' (accV (csOf L) reps)
  else e= .returned (.tuple #[.slice none 0 0,.map none,.int .i64 400])):=(accused_c3 L reps b A c w h ok hl hm).mono fun e w' ⟨hb,he⟩=>⟨hb,by
 by_cases ho:okV (csOf L)=true
 ·rw[if_pos ho]at he⊢
  obtain⟨A',c',b',h1,h2,h3,_⟩:=he;exact⟨A',c',b',h1,h2,h3⟩
 ·rw[if_neg ho]at he⊢
  exact he⟩
end Go.Proofs.YtchfcgilpjkmhaaGreatDoor
namespace Go.Proofs.YtchfcgilpjkmhaaGreatDoor
open Go.ChangeShapes Go.WideShapes Go.ChangeAt Go.RowKit
theorem Order_c(L:List CsV)(A:Option Addr)(c:Nat)(w:World)(h:RdCs w w.heap.size A L)(ok:∀x∈L,OkC x.c)(hl:L.length≤100000):
 Calls Tryz.prog 13 #[.slice A L.length c] w fun e w'=>Below w.heap.size w w'∧
  (if okV (csOf L)=true then∃A' c',e= .returned (.tuple #[.slice A' (orderV (csOf L)).length c',.int .i64 0])∧RdStr w' w'.heap.size A' (orderV (csOf L))
  else e= .returned (.tuple #[.slice none 0 0,.int .i64 400])):=by
 have hoc:=order_c L A c w h ok hl;obtain⟨kv,hkv⟩:∃kv,kv=okV (csOf L):=⟨_,rfl⟩;rw[←hkv]at hoc ⊢;have Hoc:=lz hoc;clear h ok hoc hkv;go_enter Tryz.func13,Tryz.ntmps13
 cases kv with
 | false=>
  go_wp2_with fail;refine Hoc.out.mono ?_;rintro e w1 ⟨A',c',rfl,hr,hb⟩;clear Hoc hr;go_wp2_with fail;refine bodyPost_ret (results_tmp2 rfl _ _ _) rfl ?_;exact⟨hb,rfl⟩
 | true=>
  go_wp2_with fail;refine Hoc.out.mono ?_;rintro e w1 ⟨A',c',rfl,hr,hb⟩;clear Hoc;have Hr:=lz hr;have Hb:=lz hb;clear hr hb;go_wp2_with fail;refine bodyPost_ret (results_tmp2 rfl _ _ _) rfl ?_;exact⟨Hb.out,A',⟨c',rfl⟩,Hr.out⟩
theorem Accused_c3(L:List CsV)(reps:List Rep)(A:Option Addr)(c:Nat)(A2:Option Addr)(c2:Nat)(w:World)(h:RdCs w w.heap.size A L)(ok:∀x∈L,OkC x.c)(hl:L.length≤100000)
 (hr:RdRep w w.heap.size A2 reps) (okr:∀r∈reps,r.ok) (hl2:reps.length<maxLen):
 Calls Tryz.prog 14 #[.slice A L.length c,.slice A2 reps.length c2] w fun e w'=>Below w.heap.size w w'∧
  (if okV (csOf L)=true then∃A' c',e= .returned (.tuple #[.slice A' (accV (csOf L) reps).length c',.int .i64 0])∧RdStr w' w'.heap.size A' (accV (csOf L) reps)∧(accV (csOf L) reps).length≤c'∧c'≤maxLen
  else e= .returned (.tuple #[.slice none 0 0,.int .i64 400])):=by
 have hof:=of_c reps A2 c2 w hr okr hl2;have hac:=fun w1 (hb:Below w.heap.size w w1) (hm:CntMap KR w1 w.heap.size reps)=>accused_c3 L reps w.heap.size A c w1 (h.below hb) ok hl hm
 obtain⟨kv,hkv⟩:∃kv,kv=okV (csOf L):=⟨_,rfl⟩;rw[←hkv]at hac ⊢;have Hof:=lz hof;have Hac:=lz hac;clear h ok hr okr hof hac hkv;generalize accV (csOf L) reps=acc at *;go_enter Tryz.func14,Tryz.ntmps14;go_wp2_with fail;refine Hof.out.mono ?_;rintro e w1 ⟨rfl,hm,hb⟩;have Hac1:=lz (Hac.out w1 hb hm);have Hb:=lz hb;clear hb hm Hac Hof;go_wp2_with fail;refine Hac1.out.mono ?_
 cases kv with
 | false=>
  rintro e w2 ⟨hb2,he⟩;simp only[Bool.false_eq_true,if_false]at he;subst he;have Hb2:=lz (Hb.out.trans (hb2.mono Hb.out.size));clear hb2 Hac1;go_wp2_with fail;refine bodyPost_ret (results_tmp2 rfl _ _ _) rfl ?_;exact⟨Hb2.out,rfl⟩
 | true=>
  rintro e w2 ⟨hb2,he⟩;simp only[if_true]at he;obtain⟨A',c',b',rfl,hrd,_,hcap⟩:=he;have Hcap:=lz hcap;clear hcap;have Hb2:=lz (Hb.out.trans (hb2.mono Hb.out.size));have Hrd:=lz hrd;clear hb2 Hac1 hrd;go_wp2_with fail;refine bodyPost_ret (results_tmp2 rfl _ _ _) rfl ?_;exact⟨Hb2.out,A',⟨c',rfl,Hrd.out,Hcap.out⟩⟩
theorem Accused_c(L:List CsV)(reps:List Rep)(A:Option Addr)(c:Nat)(A2:Option Addr)(c2:Nat)(w:World)(h:RdCs w w.heap.size A L)(ok:∀x∈L,OkC x.c)(hl:L.length≤100000)
 (hr:RdRep w w.heap.size A2 reps) (okr:∀r∈reps,r.ok) (hl2:reps.length<maxLen):
 Calls Tryz.prog 14 #[.slice A L.length c,.slice A2 reps.length c2] w fun e w'=>Below w.heap.size w w'∧
  (if okV (csOf L)=true then∃A' c',e= .returned (.tuple #[.slice A' (accV (csOf L) reps).length c',.int .i64 0])∧RdStr w' w'.heap.size A' (accV (csOf L) reps)
  else e= .returned (.tuple #[.slice none 0 0,.int .i64 400])):=(Accused_c3 L reps A c A2 c2 w h ok hl hr okr hl2).mono fun e w' ⟨hb,he⟩=>⟨hb,by
 by_cases ho:okV (csOf L)=true
 ·rw[if_pos ho]at he⊢
  obtain⟨A',c',h1,h2,_⟩:=he;exact⟨A',c',h1,h2⟩
 ·rw[if_neg ho]at he⊢
  exact he⟩
end Go.Proofs.YtchfcgilpjkmhaaGreatDoor
