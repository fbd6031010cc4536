import Derived.ScopeJumps
import Derived.WideKeyEntry
import Derived.RegionTactic
import Derived.ChangeAlike
import Derived.Test.YtchfcgilpjkmhaaGreatDoorY2
import Derived.Test.YtchfcgilpjkmhaaGreatDoorY0
set_option maxRecDepth 100000
set_option linter.unusedSimpArgs false
set_option linter.unusedVariables false
set_option linter.unusedSectionVars false
namespace Go.Proofs.YtchfcgilpjkmhaaGreatDoor
open Go.ChangeShapes Go.WideShapes Go.ChangeAt Go.RowKit
attribute [local go_sem] Oper.semAt_some
theorem all_c(A:Option Addr)(n c:Nat)(u:ByteArray)(w:World):
 Calls Tryz.prog 42 #[.slice A n c,.string u] w fun e w'=>e= .returned (.func (.func 111) #[] #[.pointer (some ⟨w.heap.size,0,none⟩),.pointer (some ⟨w.heap.size+1,0,none⟩)])∧
  w'=(w.alloc (.cells #[.slice A n c] 97)).alloc (.cells #[.string u] 9):=by
 go_enter Tryz.func42,Tryz.ntmps42;go_wp2;go_ret;exact⟨rfl,rfl⟩
def unitsOf(L:List CsV):List ByteArray:=L.map (·.c.unit)
section
variable {P:Program} {a:Act} {w:World} {Q:Exit→Act→World→Prop}
theorem wp_scope_jumps2{c R:Code}(l:Nat)(J:Act→World→Prop)(μ:Act→World→Nat)(hf:findLabel c l=some (.seq .skip R))
 (pass:∀a w,J a w→R.wp P (Exit.jump l (fun a' w'=>J a' w'∧μ a' w'<μ a w) Q) a w)
 (first:∀Q':Exit→Act→World→Prop,(∀a w,J a w→R.wp P Q' a w)→c.wp P Q' a w):(Code.scope c).wp P Q a w:=by
 refine wp_scope_jumps l J μ hf (first _ fun a w hJ=>wp_mono (pass a w hJ) ?_) fun a w hJ=>wp_seq (wp_skip (pass a w hJ))
 rintro e a' w' hq
 cases e with
 | goto l'=>exact⟨hq.1,hq.2.1⟩
 | _=>exact hq
end
abbrev csOf(L:List CsV):List Cs:=L.map (·.c)
theorem free_hits(L:List CsV)(out:List ByteArray)(u:ByteArray):((upTo L u L.length).all fun y=>y.x.c.excl.all fun x=>memB x out)=freeV (csOf L) out u:=by
 rw[Bool.eq_iff_iff,free_iff,List.all_eq_true];constructor
 ·intro h c hc e x hx
  obtain⟨y,hy,rfl⟩:=List.mem_map.1 hc;obtain⟨i,hi,rfl⟩:=List.getElem_of_mem hy;have:=h ⟨i,L[i],List.getElem?_eq_getElem hi,e⟩ ((upTo_mem _ _).2 hi);rw[List.all_eq_true]at this;exact memB_iff.1 (this x hx)
 ·intro h y hy
  rw[List.all_eq_true];intro x hx;have hm:y.x∈L:=List.mem_of_getElem? y.h;exact memB_iff.2 (h y.x.c (List.mem_map_of_mem hm) y.hu x hx)
def canB(L:List CsV)(out:List ByteArray)(x:CsV):Bool:= !memB x.c.unit out&&freeV (csOf L) out x.c.unit
theorem next_at{L:List CsV}{out:List ByteArray}{k:Nat}(hk:k<L.length)(h:canB L out L[k]=true)(hall:∀j (h:j<L.length),j<k→canB L out L[j]=false):nextV (csOf L) out=some L[k].c.unit:=by
 unfold nextV;have:(csOf L).find? (fun c=> !memB c.unit out&&freeV (csOf L) out c.unit)=some L[k].c:=by
  rw[List.find?_map,Option.map_eq_some_iff];refine⟨L[k],?_,rfl⟩;rw[List.find?_eq_some_iff_getElem];exact⟨h,k,hk,rfl,fun j hj=>by
   have:=hall j (by omega) hj;show(!canB L out L[j])=true;rw[this];rfl⟩
 exact congrArg (Option.map Ca.unit) this
theorem next_no{L:List CsV}{out:List ByteArray}(hall:∀j (h:j<L.length),canB L out L[j]=false):nextV (csOf L) out=none:=by
 unfold nextV;rw[Option.map_eq_none_iff,List.find?_eq_none];intro c hc;obtain⟨x,hx,rfl⟩:=List.mem_map.1 hc;obtain⟨j,hj,rfl⟩:=List.getElem_of_mem hx;have:=hall j hj;unfold canB memB at this;simpa using this
theorem order_step{l:List Cs}{out:List ByteArray}{u:ByteArray}(h:nextV l out=some u)(hlen:out.length≤l.length)(ho:orderL l (l.length+1-out.length) out=orderV l):orderL l (l.length+1-(out++ [u]).length) (out++ [u])=orderV l:=by
 rw[show l.length+1-out.length=(l.length+1-(out++ [u]).length)+1 by simp;omega]at ho;simp only[orderL,h]at ho;exact ho
theorem order_end{l:List Cs}{out:List ByteArray}(h:nextV l out=none)(hlen:out.length≤l.length)(ho:orderL l (l.length+1-out.length) out=orderV l):out=orderV l:=by
 rw[show l.length+1-out.length=(l.length-out.length)+1 by omega]at ho;simp only[orderL,h]at ho;exact ho
theorem rdStr_of_own{W:World}{base c:Nat}{A:Option Addr}{l:List ByteArray}(h:W.ownsRow base 9 1 (.slice A l.length c) l.length (l.map Value.string)):RdStr W W.heap.size A l:=fun hn=>by
 obtain⟨g,cap,hv,_,hlt⟩:=h.form hn;have hA:A=some ⟨g,0,none⟩:=by injection hv
 subst hA;refine⟨g,0,rfl,hlt,fun i hi=> ?_⟩;have:=h.cells (g:=g) rfl i (.string l[i]) (by simp[hi])
 rwa[add_none]at this
theorem Shut.str{B:Nat}{W W':World}{A:Option Addr}{l:List ByteArray}(h:Shut B W W')(hr:RdStr W W.heap.size A l):RdStr W' W'.heap.size A l:=fun hn=>by
 obtain⟨b,o,rfl,hb,hc⟩:=hr hn;refine⟨b,o,rfl,Nat.lt_of_lt_of_le hb h.size,fun i hi=> ?_⟩;obtain⟨ob,ho,hcl⟩:=cells_of_cell (hc i hi);exact(World.cell?_of_block ((h.cells _ _ ho hcl).trans ho.symm)).trans (hc i hi)
structure OrdSt(w:World)(L:List CsV)(out:List ByteArray)(v:Value)(Ds:List Nat)(W:World):Prop where
 below:Below w.heap.size w W
 size:w.heap.size+3≤W.heap.size
 box:Blk W (w.heap.size+1) 113 #[.map (some w.heap.size)]
 listed:CntMap KS W w.heap.size out
 units:CntMap KS W (w.heap.size+2) (unitsOf L)
 own:W.ownsRow (w.heap.size+3) 9 1 v out.length (out.map Value.string)
 nodup:Ds.Nodup
 marks:∀D∈Ds,w.heap.size+3≤D∧W.heap[D]?=some (.deferred (some []))
 ord:OrdOk (csOf L) out
 fuel:orderL (csOf L) ((csOf L).length+1-out.length) out=orderV (csOf L)
section
variable {w:World} {L:List CsV} {out:List ByteArray} {v:Value} {Ds:List Nat} {W W':World}
theorem OrdSt.len(h:OrdSt w L out v Ds W):out.length≤L.length:=by
 have:=len_le _ _ h.ord.nodup h.ord.sub;have:=len_units (csOf L);simp at this;omega
theorem OrdSt.next(h:OrdSt w L out v Ds W)(hb:Below W.heap.size W W'):OrdSt w L out v Ds W' where
 below:=h.below.trans (hb.mono h.below.size)
 size:=Nat.le_trans h.size hb.size
 box:=h.box.below hb h.box.lt
 listed:=h.listed.next hb
 units:=h.units.next hb
 own:=h.own.kept (below_grown (row:=none) hb) (by
  rcases h.own.2 with⟨rfl,_⟩ | ⟨g,cap,cur,rfl,_,hh,_⟩
  ·exact .inl rfl
  ·exact .inr (fun e=>by cases e))
 nodup:=h.nodup
 marks:=fun D hD=>⟨(h.marks D hD).1,(hb.block D (Array.getElem?_eq_some_iff.1 (h.marks D hD).2).1).trans (h.marks D hD).2⟩
 ord:=h.ord
 fuel:=h.fuel
end
theorem frame_of(n:Nat)(T:Array Value)(h:T.size=n):∃z:Nat→Value,T=((List.range n).map z).toArray∧∀i,z i=T.getD i undef:=by
 refine⟨fun i=>T.getD i undef,?_,fun _=>rfl⟩;apply Array.ext
 ·simp[h]
 ·intro i h1 h2
  simp[Array.getD,h1]
structure FJ(w:World)(A:Option Addr)(n c:Nat)(v:Value)(Ds:List Nat)(a:Act):Prop where
 size:a.tmps.size=80
 s0:a.tmps.getD 0 undef= .slice A n c
 s4:a.tmps.getD 4 undef=v
 s5:a.tmps.getD 5 undef= .pointer (some ⟨w.heap.size+1,0,none⟩)
 s6:a.tmps.getD 6 undef= .map (some (w.heap.size+2))
 defers:a.defers=Ds.map markD
structure FL(w:World)(A:Option Addr)(n c:Nat)(v:Value)(Ds:List Nat)(k:Nat)(a:Act):Prop where
 j:FJ w A n c v Ds a
 s30:a.tmps.getD 30 undef= .slice A n c
 s31:a.tmps.getD 31 undef= .int .i64 n
 s32:a.tmps.getD 32 undef= .int .i64 k
theorem FJ.lit{w:World}{A:Option Addr}{n c:Nat}{v:Value}{Ds:List Nat}{a:Act}(h:FJ w A n c v Ds a):∃z:Nat→Value,a={tmps:=List.toArray [.slice A n c,z 1,z 2,z 3,v,.pointer (some ⟨w.heap.size+1,0,none⟩),.map (some (w.heap.size+2)),z 7,z 8,z 9,z 10,z 11,z 12,z 13,z 14,z 15,z 16,z 17,z 18,z 19,z 20,z 21,z 22,z 23,z 24,z 25,z 26,z 27,z 28,z 29,z 30,z 31,z 32,z 33,z 34,z 35,z 36,z 37,z 38,z 39,z 40,z 41,z 42,z 43,z 44,z 45,z 46,z 47,z 48,z 49,z 50,z 51,z 52,z 53,z 54,z 55,z 56,z 57,z 58,z 59,z 60,z 61,z 62,z 63,z 64,z 65,z 66,z 67,z 68,z 69,z 70,z 71,z 72,z 73,z 74,z 75,z 76,z 77,z 78,z 79],defers:=Ds.map markD}:=by
 obtain⟨T,d⟩:=a;obtain⟨h1,h2,h3,h4,h5,h6⟩:=h;simp only at h1 h2 h3 h4 h5 h6;obtain⟨z,hz,hg⟩:=frame_of 80 T h1;refine⟨z,?_⟩;rw[←hg]at h2 h3 h4 h5;rw[h6,hz,←h2,←h3,←h4,←h5];rfl
theorem FL.lit{w:World}{A:Option Addr}{n c:Nat}{v:Value}{Ds:List Nat}{k:Nat}{a:Act}(h:FL w A n c v Ds k a):∃z:Nat→Value,a={tmps:=List.toArray [.slice A n c,z 1,z 2,z 3,v,.pointer (some ⟨w.heap.size+1,0,none⟩),.map (some (w.heap.size+2)),z 7,z 8,z 9,z 10,z 11,z 12,z 13,z 14,z 15,z 16,z 17,z 18,z 19,z 20,z 21,z 22,z 23,z 24,z 25,z 26,z 27,z 28,z 29,.slice A n c,.int .i64 n,.int .i64 k,z 33,z 34,z 35,z 36,z 37,z 38,z 39,z 40,z 41,z 42,z 43,z 44,z 45,z 46,z 47,z 48,z 49,z 50,z 51,z 52,z 53,z 54,z 55,z 56,z 57,z 58,z 59,z 60,z 61,z 62,z 63,z 64,z 65,z 66,z 67,z 68,z 69,z 70,z 71,z 72,z 73,z 74,z 75,z 76,z 77,z 78,z 79],defers:=Ds.map markD}:=by
 obtain⟨T,d⟩:=a;obtain⟨⟨h1,h2,h3,h4,h5,h6⟩,h7,h8,h9⟩:=h;simp only at h1 h2 h3 h4 h5 h6 h7 h8 h9;obtain⟨z,hz,hg⟩:=frame_of 80 T h1;refine⟨z,?_⟩;rw[←hg]at h2 h3 h4 h5 h7 h8 h9;rw[h6,hz,←h8,←h9,←h3,←h4,←h5];rw[show(.slice A n c:Value)=z 0 from h2.symm];simp only[List.range_eq_range',List.range',List.map];rw[h7,←h2]
theorem RS.ord{w:World}{L:List CsV}{out:List ByteArray}{v:Value}{Ds:List Nat}{W4 W:World}{Bf:Nat}{f f':Value}(h:RS W4 Bf 4 f W)(hS:OrdSt w L out v Ds W4)(hf:Blk W4 Bf 4 #[f'])(hB:w.heap.size+3≤Bf):OrdSt w L out v Ds W where
 below:=h.below hS.below hS.below.size (by omega)
 size:=Nat.le_trans hS.size h.size
 box:=h.blk hS.box (by omega)
 listed:=hS.listed.same (h.block _ hS.listed.lt (by omega))
 units:=hS.units.same (h.block _ hS.units.lt (by omega))
 own:=by
  have hg:W4.grownBy W (some Bf):=⟨h.os,h.tape,h.output,h.size,fun k hk hn=>h.block k hk (fun e=>hn (by rw[e]))⟩;refine hS.own.kept hg (.inr ?_);exact own_blk_ne hS.own hf (by decide)
 nodup:=hS.nodup
 marks:=fun D hD=>⟨(hS.marks D hD).1,(h.block D (Array.getElem?_eq_some_iff.1 (hS.marks D hD).2).1 (fun e=>by
  have:=(hS.marks D hD).2;rw[e,show W4.heap[Bf]?=_ from hf]at this
  cases this)).trans (hS.marks D hD).2⟩
 ord:=hS.ord
 fuel:=hS.fuel
theorem OrdSt.mark{w:World}{L:List CsV}{out:List ByteArray}{v:Value}{Ds:List Nat}{W:World}{D lo:Nat}(h:OrdSt w L out v Ds W)(hlo:∀E∈Ds,E<lo)(hD:lo≤D)(hw:w.heap.size+3≤D)(hK:W.heap[D]?=some (.deferred (some []))):OrdSt w L out v (D :: Ds) W:=
 {h with
  nodup:=List.nodup_cons.2 ⟨fun hm=>by have:=hlo D hm;omega,h.nodup⟩
  marks:=fun E hE=>by
   rcases List.mem_cons.1 hE with rfl | hE
   ·exact⟨hw,hK⟩
   ·exact h.marks E hE}
theorem info9:(Tryz.prog.info? 9).map (fun i=>(i.zero,i.size,i.bytes))=some (some (.string ⟨#[]⟩),1,16):=by kernel_rfl
theorem own_blk_def{w:World}{base:Nat}{e:TypeId}{size n g:Nat}{v:Value}{xs:List Value}{o:Obj}(h:w.ownsRow base e size v n xs)(hg:w.heap[g]?=some o)(hn:o.isCells=false):v.ownBlock≠some g:=by
 rcases h.2 with⟨rfl,_⟩ | ⟨g',cap,cur,rfl,_,hh,_⟩
 ·simp[Value.ownBlock]
 ·intro he
  have:g'=g:=by simpa [Value.ownBlock]using he
  subst this;rw[hh]at hg;injection hg with hg
  subst hg
  cases hn
theorem OrdSt.step{w:World}{L:List CsV}{out:List ByteArray}{v v':Value}{Ds:List Nat}{W w1 w2:World}{u:ByteArray}{o:Obj}(h:OrdSt w L out v Ds W)(hu:nextV (csOf L) out=some u)
 (hm:CntMap KS w1 w.heap.size (out++ [u])) (hg:W.grownBy w1 (some w.heap.size)) (hown1:(w1.alloc o).ownsRow (w.heap.size+3) 9 1 v out.length (out.map Value.string))
 (hown:w2.ownsRow (w.heap.size+3) 9 1 v' (out.length+1) (out.map Value.string++ [.string u])) (hg2:(w1.alloc o).grownBy w2 v.ownBlock):OrdSt w L (out++ [u]) v' Ds w2:=by
 have hs1:=hg.size;have hs2:=hg2.size;simp at hs2;have hsz:=h.size;have hnb:∀g,g<w.heap.size+3→some g≠v.ownBlock:=fun g hlt e=>by have:=(hown1.lt g e.symm).1;omega
 have hb1:Below w.heap.size w (w1.alloc o):=(h.below.grown hg (by omega) (fun j e=>by cases e;omega)).alloc (by omega) _;have hob:=next_some hu;refine⟨hb1.grown hg2 (by simp;omega) (fun g hg=>by have:=(hown1.lt g hg).1;omega),by omega,?_,?_,?_,?_,h.nodup,fun D hD=> ?_,?_,?_⟩
 ·exact((h.box.grown hg (by simp)).alloc o).grown hg2 (hnb _ (by omega))
 ·exact(hm.alloc o).kept hg2 (hnb _ (by omega))
 ·exact((h.units.kept hg (by simp)).alloc o).kept hg2 (hnb _ (by omega))
 ·simpa using hown
 ·have hd:=h.marks D hD
  have hlt:=(Array.getElem?_eq_some_iff.1 hd.2).1;have e1:w1.heap[D]?=some (.deferred (some [])):=(hg.block D hlt (by simp;omega)).trans hd.2;have e2:(w1.alloc o).heap[D]?=some (.deferred (some [])):=(Below.heap_alloc _ _ _ (by omega)).trans e1;exact⟨hd.1,(hg2.block D (by simp;omega) (fun e=>own_blk_def hown1 e2 rfl e.symm)).trans e2⟩
 ·exact h.ord.push hob.1 hob.2.1 hob.2.2
 ·exact order_step hu (by have:=h.len;simpa using this) h.fuel
def allIn(out:List ByteArray){L:List CsV}{u:ByteArray}(pre:List (Hit L u)):Bool:=pre.all fun y=>y.x.c.excl.all fun s=>memB s out
set_option maxHeartbeats 4000000 in
theorem order_c2(L:List CsV)(A:Option Addr)(c:Nat)(w:World)(h:RdCs w w.heap.size A L)(ok:∀x∈L,OkC x.c)(hl:L.length≤100000):
 Calls Tryz.prog 40 #[.slice A L.length c] w fun e w'=>∃A' c',e= .returned (.tuple #[.slice A' (orderV (csOf L)).length c',.bool (okV (csOf L))])∧
  RdStr w' w'.heap.size A' (orderV (csOf L))∧Below w.heap.size w w'∧(orderV (csOf L)).length≤c':=by
 have H:=lz h;have Hok:=lz ok;have hmm:= @run_makeMap Tryz.prog;clear h ok;refine(callsIn_wide (n:=9)).1 ?_;refine callsIn_of_wp_marks Tryz.func40 rfl trivial ?_ rfl;simp only[Tryz.ntmps40,List.size_toArray,List.length_cons,List.length_nil,Nat.reduceAdd,Nat.reduceSub,Array.replicate_succ,Array.replicate_zero,List.push_toArray,List.append_toArray,List.nil_append,List.cons_append];refine wpIn_wide.2 ?_;go_wp2_with fail;refine wp_scope_jumps2 0 (fun a wr=>∃(out:List ByteArray) (v:Value) (Ds:List Nat),OrdSt w L out v Ds wr∧FJ w A L.length c v Ds a)
  (fun a _=>match a.tmps.getD 4 undef with | .slice _ n _=>L.length+1-n | _=>0) rfl ?pass ?first
 case first=>
  intro Q' hR;have HR:=lz hR;clear hR;go_wp2_with fail;go_loopw [20] (fun t wr=>∃k:Nat,k≤L.length∧t= .int .i64 k∧CntMap KS wr (w.heap.size+2) (unitsOf (L.take k))∧CntMap KS wr w.heap.size []∧Blk wr (w.heap.size+1) 113 #[.map (some w.heap.size)]∧Below w.heap.size w wr∧w.heap.size+3≤wr.heap.size) (fun t wr=>L.length-(intOf t).toNat)
  case atStart=>
   refine⟨0,Nat.zero_le _,rfl,?_,(CntMap.made w).next (((Below.refl _ _).alloc (Nat.le_refl _) _).alloc (by simp) _),?_,?_,by simp⟩
   ·have:=CntMap.made (M:=KS) ((w.alloc (.map #[] 0)).alloc (.cells #[.map (some w.heap.size)] 113))
    rw[World.size_alloc,World.size_alloc]at this;exact this
   ·have:=Blk.new (w.alloc (.map #[] 0)) 113 #[.map (some w.heap.size)]
    rw[World.size_alloc]at this;exact this.alloc _
   ·exact(((Below.refl _ w).alloc (Nat.le_refl _) _).alloc (by simp) _).alloc (by simp;omega) _
  case round=>
   obtain⟨k,hk,rfl,hcu,hcl,hbx,hB,hsz⟩:=hrel;by_cases hlt:k<L.length
   ·obtain⟨b,o,rfl,hb,hc⟩:=(H.out.keep hB) (by omega)
    obtain⟨d0,d1,d2,_⟩:=hc k hlt;have hu:=(Hok.out L[k] (List.getElem_mem hlt)).u;have hbw:b<wr.heap.size:=World.block_lt_of_cell? wr _ d0;have htk:unitsOf (L.take (k+1))=unitsOf (L.take k)++ [L[k].c.unit]:=by
     unfold unitsOf;rw[List.take_succ_eq_append_getElem hlt,List.map_append];rfl
    have hln:(unitsOf (L.take k)).length<maxLen:=by unfold unitsOf maxLen;simp;omega
    have Htk:=lz htk;have Hcu:=lz hcu;have Hcl:=lz hcl;have Hbx:=lz hbx;have HB:=lz hB;clear hc htk hcu hcl hbx hB;generalize L[k]=x at *;have hw:=Hcu.out.alloc (.cells #[.string x.c.unit,.slice x.n.a x.n.n x.n.c,.slice x.x.a x.x.n x.x.c] 48);have hcl':=cnt_le x.c.unit (unitsOf (L.take k));have hcb:(cntB x.c.unit (unitsOf (L.take k)):Int)≤9223372036854775806:=by unfold maxLen at hln;omega
    have hc0:(0:Int)≤(cntB x.c.unit (unitsOf (L.take k)):Int):=by omega
    have Hw:=lz hw;clear hw hcl';go_wp2_with (first
     | (at_lookup;refine wpList_cnt (M:=KS) rfl (.tmp 24) (.tmp 26) rfl rfl Hw.out x.c.unit hu rfl ?_)
     | (at_mapUpdate;refine wpList_push (M:=KS) rfl (.tmp 24) (.tmp 26) (.tmp 28) rfl rfl Hw.out hln x.c.unit hu rfl rfl ?_;intro w1 hw1 hg1))
    have hsz1:=hg1.size;have hne:w.heap.size≠w.heap.size+2:=by omega
    go_roundw
    case rel=>
     refine⟨k+1,by omega,by go_num,by rw[Htk.out];exact hw1,(Hcl.out.alloc _).kept hg1 (by simp;omega),(Hbx.out.alloc _).grown hg1 (by simp),?_,by simp at hsz1;omega⟩;exact(HB.out.alloc HB.out.size _).grown hg1 (by simp;have:=HB.out.size;omega) (fun j e=>by cases e;omega)
    case measure=>simp[intOf];omega
   ·obtain rfl:k=L.length:=by omega
    rw[List.take_length]at hcu;have Hst:Hid (OrdSt w L [] (.slice none 0 0) [] wr):=lz (⟨hB,hsz,hbx,hcl,hcu,World.ownsRow_nil _ _ _ _,List.nodup_nil,fun D h=>absurd h (by simp),OrdOk.nil _,rfl⟩);clear hcu hcl hbx hB;go_wp2_with fail;refine wp_label ?_;rename_i hK;refine hK _ _ (HR.out _ _ ?_);exact⟨[],_,[],Hst.out,⟨rfl,rfl,rfl,rfl,rfl,rfl⟩⟩
 case pass=>
  rintro a wr ⟨out,v,Ds,hS,hF⟩;obtain⟨z,rfl⟩:=hF.lit;clear hF;go_wp2_with fail;refine wp_loop (fun a wr=>∃(k:Nat) (Ds:List Nat),k≤L.length∧OrdSt w L out v Ds wr∧FL w A L.length c v Ds k a∧Hid (∀j (h:j<L.length),j<k→canB L out L[j]=false)) (fun a _=>L.length-(intOf (a.tmps.getD 32 undef)).toNat) ?h0 ?round
  case h0=>exact⟨0,Ds,Nat.zero_le _,hS,⟨⟨rfl,rfl,rfl,rfl,rfl,rfl⟩,rfl,rfl,rfl⟩,fun j _ h=>absurd h (by omega)⟩
  case round=>
   clear hS;rintro a w3 ⟨k,Ds,hk,hS,hF,hall⟩;obtain⟨z,rfl⟩:=hF.lit;clear hF;by_cases hlt:k<L.length
   ·have hcs:=H.out.keep hS.below
    obtain⟨b,o,rfl,hb,hc⟩:=hcs (by omega);obtain⟨d0,d1,d2,_⟩:=hc k hlt;have hu:=(Hok.out L[k] (List.getElem_mem hlt)).u;have hbw:b<w3.heap.size:=World.block_lt_of_cell? w3 _ d0;have hlen:=hS.len;have hnx:canB L out L[k]=true→nextV (csOf L) out=some L[k].c.unit:=fun hq=>next_at hlt hq hall.out
    have hno:canB L out L[k]=false→∀j (h:j<L.length),j<k+1→canB L out L[j]=false:=fun hq=>forall_succ (p:=fun x=>canB L out x=false) hall.out hq
    have Hcn:Hid (canB L out L[k]=(!memB L[k].c.unit out&&freeV (csOf L) out L[k].c.unit)):=lz rfl;have Hnx:=lz hnx;have Hno:=lz hno;have HS:=lz hS;have hsz:=hS.size;have Hgt:=lz (cnt_gt L[k].c.unit out);clear hc hnx hno hall hS hcs;generalize L[k]=x at *;have c5:(w3.alloc (.cells #[.string x.c.unit,.slice x.n.a x.n.n x.n.c,.slice x.x.a x.x.n x.x.c] 48)).cell? ⟨w.heap.size+1,0,none⟩=some (.map (some w.heap.size)):=(HS.out.box.alloc _).cell 0;have Hml:=lz (HS.out.listed.alloc (.cells #[.string x.c.unit,.slice x.n.a x.n.n x.n.c,.slice x.x.a x.x.n x.x.c] 48))
    cases hm:memB x.c.unit out with
    | true=>
     have hgt:=Hgt.out.trans hm;have hq:=lz (Hno.out (by rw[Hcn.out,hm];rfl));have HS1:=lz (HS.out.next ((Below.refl _ w3).alloc (Nat.le_refl _) (.cells #[.string x.c.unit,.slice x.n.a x.n.n x.n.c,.slice x.x.a x.x.n x.x.c] 48)));clear Hgt hm Hnx Hno Hcn;go_wp2_with (at_lookup;refine wpList_cnt (M:=KS) rfl (.tmp 36) (.tmp 38) rfl rfl Hml.out x.c.unit hu rfl ?_);exact⟨⟨k+1,Ds,by omega,HS1.out,⟨⟨rfl,rfl,rfl,rfl,rfl,rfl⟩,rfl,rfl,by simp⟩,hq⟩,by simp[intOf];omega⟩
    | false=>
     have hgt:=Hgt.out.trans hm;have hcn:=Hcn.out;rw[hm,Bool.not_false,Bool.true_and]at hcn;rw[hcn]at Hnx Hno;have Hfr:=lz (free_hits L out x.c.unit);clear Hgt hm Hcn hcn;go_wp2_with (at_lookup;refine wpList_cnt (M:=KS) rfl (.tmp 36) (.tmp 38) rfl rfl Hml.out x.c.unit hu rfl ?_);refine(all_c _ _ _ _ _).mono ?_;rintro e w4 ⟨rfl,hw4⟩;have hB4:Below w3.heap.size w3 w4:=by rw[hw4];exact((((Below.refl _ w3).alloc (Nat.le_refl _) _).alloc (by simp) _).alloc (by simp;omega) _).alloc (by simp;omega) _
     have hz4:w4.heap.size=w3.heap.size+4:=by rw[hw4];simp
     have hb10:Blk w4 w3.heap.size 48 #[.string x.c.unit,.slice x.n.a x.n.n x.n.c,.slice x.x.a x.x.n x.x.c]:=by rw[hw4];exact(((Blk.new w3 _ _).alloc _).alloc _).alloc _
     have hbf:Blk w4 (w3.heap.size+1) 4 #[.bool true]:=by
      rw[hw4];have:=Blk.new (w3.alloc (.cells #[.string x.c.unit,.slice x.n.a x.n.n x.n.c,.slice x.x.a x.x.n x.x.c] 48)) 4 #[.bool true];rw[World.size_alloc]at this;exact(this.alloc _).alloc _
     have hbl:Blk w4 (w3.heap.size+2) 97 #[.slice (some ⟨b,o,none⟩) L.length c]:=by
      rw[hw4];have:=Blk.new ((w3.alloc (.cells #[.string x.c.unit,.slice x.n.a x.n.n x.n.c,.slice x.x.a x.x.n x.x.c] 48)).alloc (.cells #[.bool true] 4)) 97 #[.slice (some ⟨b,o,none⟩) L.length c];rw[World.size_alloc,World.size_alloc]at this;exact this.alloc _
     have hbu:Blk w4 (w3.heap.size+3) 9 #[.string x.c.unit]:=by
      rw[hw4];have:=Blk.new (((w3.alloc (.cells #[.string x.c.unit,.slice x.n.a x.n.n x.n.c,.slice x.x.a x.x.n x.x.c] 48)).alloc (.cells #[.bool true] 4)).alloc (.cells #[.slice (some ⟨b,o,none⟩) L.length c] 97)) 9 #[.string x.c.unit];rw[World.size_alloc,World.size_alloc,World.size_alloc]at this;exact this
     have HS4:=lz (HS.out.next hB4);have HL4:=lz (H.out.keep (HS.out.next hB4).below);have H10:=lz hb10;have Hbf:=lz hbf;have Hbl:=lz hbl;have Hbu:=lz hbu;have Hz4:=lz hz4;clear hw4 hB4 hb10 hbf hbl hbu hz4 HS d0 d1 d2 c5 Hml;go_wp2_with fail;have hz4:=Hz4.out;refine(wpIn_wide (n:=9)).1 ?_;refine wpIn_rangeFunc_ownH (F:=Fence.wide) rfl (by omega) (gf:=111) (lb:= #[.pointer (some ⟨w3.heap.size+2,0,none⟩),.pointer (some ⟨w3.heap.size+3,0,none⟩)]) rfl trivial (enters_of Tryz.func111 kz rfl)
      (encs:=Hit.enc (L:=L) (u:=x.c.unit)) (all1_seq L x.c.unit (some ⟨b,o,none⟩) c w.heap.size (w3.heap.size+2) (w3.heap.size+3) (9-1) w4 (by omega) (by omega) (by omega) (by omega) Hbl.out Hbu.out HL4.out (by omega))
      (fun h1 h2=>h1.trans h2) (KpA.put (by omega) (by omega) (by omega)) (Below.refl _ _) (fun _=>rfl)
      (fun pre W=>RS w4 (w3.heap.size+1) 4 (.bool (allIn out pre)) W) (fun _ _ _=>False) (RS.own (by omega)) (fun _ _ _ _ _ hs _ _=>hs) (RS.refl Hbf.out)
      (fun y a' W=>∃Bx,w4.heap.size≤Bx∧Blk W Bx 48 #[.string y.x.c.unit,.slice y.x.n.a y.x.n.n y.x.n.c,.slice y.x.x.a y.x.x.n y.x.x.c]∧a'={tmps:=(((List.toArray [.slice (some ⟨b,o,none⟩) L.length c,z 1,z 2,z 3,v,.pointer (some ⟨w.heap.size+1,0,none⟩),.map (some (w.heap.size+2)),z 7,z 8,z 9,.pointer (some ⟨w3.heap.size,0,none⟩),.pointer (some ⟨w3.heap.size+1,0,none⟩),z 12,z 13,z 14,z 15,z 16,z 17,z 18,z 19,z 20,z 21,z 22,z 23,z 24,z 25,z 26,z 27,z 28,z 29,.slice (some ⟨b,o,none⟩) L.length c,.int .i64 L.length,.int .i64 k,.bool true,.pointer (some ⟨b,o+k*3,none⟩),.agg #[.string x.c.unit,.slice x.n.a x.n.n x.n.c,.slice x.x.a x.x.n x.x.c],.map (some w.heap.size),.pointer (some ⟨w3.heap.size,0,none⟩),.string x.c.unit,.int .i64 (cntB x.c.unit out),.bool false,.slice (some ⟨b,o,none⟩) L.length c,.pointer (some ⟨w3.heap.size,0,none⟩),.string x.c.unit,.func (.func 111) #[] #[.pointer (some ⟨w3.heap.size+2,0,none⟩),.pointer (some ⟨w3.heap.size+3,0,none⟩)],z 45,z 46,z 47,z 48,z 49,z 50,z 51,z 52,z 53,z 54,z 55,z 56,z 57,z 58,z 59,z 60,z 61,z 62,z 63,z 64,z 65,z 66,z 67,z 68,z 69,z 70,z 71,z 72,z 73,z 74,z 75,z 76,z 77,z 78,z 79]).setIfInBounds 45 (.int .i64 y.i)).setIfInBounds 46 y.x.val).setIfInBounds 13 (.pointer (some ⟨Bx,0,none⟩)),defers:= []})
      (fun y a' s X Y row hs hg hr=>by obtain⟨Bx,h1,h2,h3⟩:=hs;exact⟨Bx,h1,ownFrom_blk (β:=Unit) w4.heap.size _ _ _ s X Y row h2 hg hr,h3⟩) ?assign ?body ?done ?stop
     case assign=>
      intro l pre y W K hI hK;have hs4:=hI.size;dsimp only[Hit.enc,CsV.val];gi_wp2;exact hK _ _ ((KeepsOthers.alloc _ _).from _) (KpA.of_below ((Below.refl _ W).alloc (Nat.le_refl _) _) (by omega) (by omega) (by omega)) (hI.alloc _) ⟨W.heap.size,hI.size,by simpa using Blk.new W 48 _,rfl⟩
     case body=>
      rintro l pre y a' W hl ⟨r,hr⟩ hI ⟨Bx,hBx,hbx,rfl⟩ hlt2;simp only[List.setIfInBounds_toArray,List.set_cons_succ,List.set_cons_zero];have hx:=rd_of (HL4.out.to_ (Nat.le_refl _) fun b i hb=>World.cell?_of_block (hI.block b (by omega) (by omega))) y.h;have hok:=Hok.out y.x (List.mem_of_getElem? y.h);have p2:W.cell? ⟨Bx,2,none⟩=some (.slice y.x.x.a y.x.c.excl.length y.x.x.c):=by rw[←hx.xl];exact hbx.cell 2
      have hSW:=hI.ord HS4.out Hbf.out (by omega);have Hx:=lz hx;have HokY:=lz hok;have HSW:=lz hSW;have HI:=lz hI;have hxm:y.x.c.excl.length≤9223372036854775807:=by rw[←hx.xl];exact Nat.le_trans hx.xc hx.xm
      have hIs:=hI.size;clear hx hok hSW hI hbx;gi_wp2;gi_loopw [50] (fun t wr=>∃m:Nat,m≤y.x.c.excl.length∧t= .int .i64 m∧RS W (w3.heap.size+1) 4 (.bool (allIn out pre&&(y.x.c.excl.take m).all fun s=>memB s out)) wr) (fun t wr=>y.x.c.excl.length-(intOf t).toNat)
      case atStart=>exact⟨0,Nat.zero_le _,rfl,by rw[List.take_zero,List.all_nil,Bool.and_true];exact RS.refl HI.out.bf⟩
      case round=>
       obtain⟨m,hm,rfl,hRx⟩:=hrel;have hSx:=hRx.ord HSW.out HI.out.bf (by omega);have hszx:=hRx.size;by_cases hltm:m<y.x.c.excl.length
       ·have hxx:=Hx.out.x
        have hA:∃b3 o3,y.x.x.a=some ⟨b3,o3,none⟩∧b3<wr.heap.size∧wr.cell? ⟨b3,o3+m,none⟩=some (.string y.x.c.excl[m]):=by
         obtain⟨b3,o3,hA,hb3,hc3⟩:=hxx (by omega);have:=hc3 m hltm;have hlt3:=World.block_lt_of_cell? W _ this;exact⟨b3,o3,hA,by simp at hlt3;omega,(World.cell?_of_block (hRx.block b3 hlt3 (by omega))).trans this⟩
        obtain⟨b3,o3,hA,hb3,hc3⟩:=hA;have c5:=hSx.box.cell 0;have f11:=hRx.bf.frozen 0;have c11:=hRx.bf.cell 0;have hs3:y.x.c.excl[m].size≤maxLen:=HokY.out.x _ (List.getElem_mem hltm);have hlk:=hSx.listed.run_look (M:=KS) (y:=y.x.c.excl[m]) hs3;have hgt:=cnt_gt y.x.c.excl[m] out;have htk:(allIn out pre&&(y.x.c.excl.take (m+1)).all fun s=>memB s out)=((allIn out pre&&(y.x.c.excl.take m).all fun s=>memB s out)&&memB y.x.c.excl[m] out):=by
         rw[List.take_succ_eq_append_getElem hltm,List.all_append,Bool.and_assoc];congr 2;simp
        have hlk:(Instr.lookup 113 (.map (some w.heap.size)) (.string y.x.c.excl[m]) false).run Tryz.prog wr= .ok (.int .i64 (cntB y.x.c.excl[m] out)) wr:=hlk;rw[hA];have Htk:=lz htk;have HRx:=lz hRx;clear htk hRx hSx hxx hA;generalize (allIn out pre&&(y.x.c.excl.take m).all fun s=>memB s out)=q at *;generalize y.x.c.excl[m]=s at *;generalize memB s out=q2 at*
        cases q with
        | true=>
         gi_wp2;go_roundw
         case rel=>exact⟨m+1,by omega,by go_num,by rw[Htk.out,Bool.true_and];exact HRx.out.set_ _⟩
         case measure=>simp[intOf];omega
        | false=>
         gi_wp2;go_roundw
         case rel=>exact⟨m+1,by omega,by go_num,by rw[Htk.out,Bool.false_and];exact HRx.out.set_ _⟩
         case measure=>simp[intOf];omega
       ·obtain rfl:m=y.x.c.excl.length:=by omega
        rw[List.take_length]at hRx;have hRz:RS W (w3.heap.size+1) 4 (.bool (allIn out (pre++ [y]))) wr:=by
         have e:allIn out (pre++ [y])=(allIn out pre&&y.x.c.excl.all fun s=>memB s out):=by simp[allIn]
         rw[e];exact hRx
        have HRz:=lz hRz;clear hRx hSx hRz;gi_wp2;exact⟨(HRz.out.keeps HI.out.bf).from _,HRz.out.kpa (by omega) (by omega) (by omega) (by omega) (by omega) (by omega),HI.out.trans HRz.out⟩
     case done=>
      rintro D ys W hD rfl hI hK;have hfr:allIn out (upTo L x.c.unit L.length)=freeV (csOf L) out x.c.unit:=Hfr.out;have hDw:w.heap.size+3≤D:=by omega
      have hSW0:=hI.ord HS4.out Hbf.out (by omega);have hlo:∀E∈Ds,E<w4.heap.size:=fun E hE=>(Array.getElem?_eq_some_iff.1 (HS4.out.marks E hE).2).1
      have hSW:=hSW0.mark hlo hD hDw hK;have hIs:=hI.size;have c11:=hI.bf.cell 0;have h10:=hI.blk H10.out (by omega);have c10:=h10.cell 0;have c5:=hSW.box.cell 0;rw[hfr]at c11;have HSW:=lz hSW;have HC10:=lz h10;clear hfr hSW0 hSW hI hK hlo h10 hz4 Hz4 HL4 HS4 H10 Hbf Hbl Hbu;clear Hfr
      cases hq:freeV (csOf L) out x.c.unit with
      | false=>
       rw[hq]at c11;have hall:=lz (Hno.out hq);clear Hno Hnx hq;go_wp2_with fail;exact⟨⟨k+1,D :: Ds,by omega,HSW.out,⟨⟨rfl,rfl,rfl,rfl,rfl,rfl⟩,rfl,rfl,by simp⟩,hall⟩,by simp[intOf];omega⟩
      | true=>
       rw[hq]at c11;have hnx:=lz (Hnx.out hq);clear Hno Hnx hq;have hcl':=cnt_le x.c.unit out;have hlen64:out.length<maxLen:=by unfold maxLen;omega
       have hcb:(cntB x.c.unit out:Int)≤9223372036854775806:=by omega
       have hc0:(0:Int)≤(cntB x.c.unit out:Int):=by omega
       clear hcl';have hown:=HSW.out.own;have hSz:=HSW.out.size;obtain⟨i0,hi0,hz0,hz1,hz2⟩:=info_parts info9;go_wp2_with (first
        | (at_lookup;refine wpList_cnt (M:=KS) rfl (.tmp 63) (.tmp 65) rfl rfl HSW.out.listed x.c.unit hu rfl ?_)
        | (at_mapUpdate;refine wpList_push (M:=KS) rfl (.tmp 63) (.tmp 65) (.tmp 67) rfl rfl HSW.out.listed hlen64 x.c.unit hu rfl rfl ?_;intro w1 hw1 hg1;have c12:w1.cell? ⟨w3.heap.size,0,none⟩=some (.string x.c.unit):=(HC10.out.grown hg1 (by simp;omega)).cell 0;have hown1:=(hown.kept hg1 (.inr (fun e=>by have:=(hown.lt _ e).1;omega))).alloc (.cells #[.string x.c.unit] 9))
        | (at_builtin;refine wpList_append_own _ rfl _ _ 46 rfl (w.heap.size+3) 9 i0 (.string ⟨#[]⟩) 1 16 Tryz.underlying46 hi0 hz0 hz1 hz2 rfl (by decide) _ _ _ rfl hown1 ⟨w1.heap.size,0,none⟩ 1 1 [.string x.c.unit] rfl rfl ?c1 ?c2 ?c3 ?c4 ?c5 ?_))
       case c1=>
        intro j u hj;rcases j with _ | j
        ·simp at hj
         subst hj;exact(Blk.new w1 9 #[.string x.c.unit]).cell 0
        ·simp at hj
       case c2=>simp[Value.oneCell']
       case c3=>unfold maxLen;omega
       case c4=>omega
       case c5=>have:=hg1.size;have:=hSz;simp;omega
       intro v5 w5 hown5 hg5 _;obtain⟨g5,cp5,rfl,_⟩:=hown5.form (by omega);obtain⟨Av,cv,rfl⟩:∃Av cv,v= .slice Av out.length cv:=by
        rcases HSW.out.own.2 with⟨rfl,h0⟩ | ⟨g,cap,cur,rfl,_⟩
        ·exact⟨none,0,by rw[h0]⟩
        ·exact⟨_,_,rfl⟩
       have hS5:=lz (HSW.out.step hnx.out hw1 hg1 hown1 hown5 hg5);clear hown5 hg5 hown1 hg1 hw1 hown HSW;go_wp2_with fail;refine wp_goto ?_;refine⟨rfl,⟨_,_,D :: Ds,hS5.out,⟨rfl,rfl,rfl,rfl,rfl,rfl⟩⟩,?_⟩;show L.length+1-(out.length+1)<L.length+1-out.length;omega
     case stop=>
      intro D c' pre W _ _ h _;exact h.elim
   ·have hnx:=next_no (L:=L) (out:=out) fun j hj=>hall.out j hj (by omega)
    have Hout:=lz (order_end hnx (by have:=hS.len;simpa using this) hS.fuel);have Hlen:=lz hS.units.run_len;have HS:=lz hS;clear hall hS hnx;obtain⟨Av,cv,rfl,hcap⟩:∃Av cv,v= .slice Av out.length cv∧out.length≤cv:=by
     rcases HS.out.own.2 with⟨rfl,h0⟩ | ⟨g,cap,cur,rfl,_,_,h1,h2,_⟩
     ·exact⟨none,0,by rw[h0],by omega⟩
     ·exact⟨_,cap,rfl,h1⟩
    have Hcap:=lz hcap;clear hcap;have hlw:∀ty,(Builtin.len_ #[113] ty #[.map (some (w.heap.size+2))]).run Tryz.prog w3= .ok (.int .i64 ((unitsOf L).foldl addU []).length) w3:=fun ty=>Hlen.out ty
    go_wp2_with fail;refine leaves_marks Ds w3 (w.heap.size+3) HS.out.nodup HS.out.marks fun W' hSh=> ?_
    refine⟨.tuple #[.slice Av out.length cv,.bool ((out.length:Int)==((unitsOf L).foldl addU []).length)],by simp[results,Tryz.f40,go_sem],Av,cv,?_,?_,?_,?_⟩
    ·have e:((out.length:Int)==((unitsOf L).foldl addU []).length)=okV (csOf L):=by
      unfold okV;rw[←Hout.out];have e2:unitsV (csOf L)=(unitsOf L).foldl addU []:=by simp[unitsV,unitsOf,List.map_map,Function.comp_def]
      rw[e2,Bool.eq_iff_iff,beq_iff_eq,decide_eq_true_eq];omega
     rw[e,←Hout.out]
    ·rw[←Hout.out]
     exact hSh.str (rdStr_of_own HS.out.own)
    ·exact HS.out.below.trans (hSh.below.mono (by omega))
    ·rw[←Hout.out];exact Hcap.out
theorem order_c(L:List CsV)(A:Option Addr)(c:Nat)(w:World)(h:RdCs w w.heap.size A L)(ok:∀x∈L,OkC x.c)(hl:L.length≤100000):
 Calls Tryz.prog 40 #[.slice A L.length c] w fun e w'=>∃A' c',e= .returned (.tuple #[.slice A' (orderV (csOf L)).length c',.bool (okV (csOf L))])∧
  RdStr w' w'.heap.size A' (orderV (csOf L))∧Below w.heap.size w w':=(order_c2 L A c w h ok hl).mono fun _ _ ⟨A',c',h1,h2,h3,_⟩=>⟨A',c',h1,h2,h3⟩
end Go.Proofs.YtchfcgilpjkmhaaGreatDoor
namespace Go.Proofs.YtchfcgilpjkmhaaGreatDoor
open Go.ChangeShapes Go.WideShapes Go.ChangeAt Go.RowKit
open Go.ChangeMaps (setBlock heap_setBlock_same)
open Go.WideMaps (KeyLaw)
open Go.ChangeMaps Go.WideElems
theorem setBlock_twice(w:World)(b:Nat)(o o':Obj):setBlock (setBlock w b o) b o'=setBlock w b o':=by
 simp[setBlock,Array.setIfInBounds_setIfInBounds]
theorem ok_inj{α:Type}{a b:α}{w w':World}(h:Result.ok a w=Result.ok b w'):a=b∧w=w':=by cases h;exact⟨rfl,rfl⟩
theorem CntMap.entryR{w:World}{b:Nat}{l:List Rep}(h:CntMap KR w b l)(hl:l.length<maxLen){y:Rep}(hy:y.ok):
 ∃v0 st W1 W2,(Instr.mapEntry 101 (.map (some b)) y.val).run Tryz.prog w= .ok (.tuple #[v0,.int .i64 ((st:Nat):Int)]) W1∧
  (Instr.lookup 101 (.map (some b)) y.val false).run Tryz.prog W1= .ok (.int .i64 (cntB y l)) W1∧
  (Instr.entryStore 101 (.map (some b)) (.int .i64 ((st:Nat):Int)) (.int .i64 ((cntB y l:Int)+1))).run Tryz.prog W1= .ok () W2∧
  CntMap KR W2 b (l++ [y])∧w.grownBy W2 (some b)∧∀p:Addr,p.block≠b→W1.cell? p=w.cell? p:=by
 obtain⟨n,hn,hO⟩:=h;have hO':=hO;obtain⟨D,⟨es,clock,hb,F,hsz,rfl⟩,hK⟩:=hO';have hkey:keyOf Tryz.prog 41 y.val=some _:=keyR y hy;obtain⟨v0,st,es1,clock1,hE,hcase,hS⟩:=WideElems.entry_then_store (t:=101) (w:=w) lawR Tryz.underlying101 zero3 hb F hkey;have hb1:(setBlock w b (.map es1 clock1)).heap[b]?=some (.map es1 clock1):=heap_setBlock_same hb _;obtain⟨es2,clock2,hR,hU⟩:=hS (setBlock w b (.map es1 clock1)) (.int .i64 ((cntB y l:Int)+1)) hb1;rw[setBlock_twice]at hR;have hc:=cnt_le y l;have hm:maxLen=9223372036854775807:=rfl;obtain⟨w',hr,r1,r2⟩:=hO.run_store (by omega) hy ((cntB y l:Int)+1) (WalkArith.wf_i64 (by omega));have e2:setBlock w b (.map es2 clock2)=w':=by
  have:Result.ok () (setBlock w b (.map es2 clock2))=Result.ok () w':=hU.symm.trans hr;exact(ok_inj this).2
 have hlook:(Instr.lookup 101 (.map (some b)) y.val false).run Tryz.prog (setBlock w b (.map es1 clock1))= .ok (.int .i64 (cntB y l)) (setBlock w b (.map es1 clock1)):=by
  rcases lawR.find w hkey es.toList F.keys with⟨h1,h2⟩ | ⟨j,e0,h1,h2,h3⟩
  ·have hE2:(Instr.mapEntry 101 (.map (some b)) y.val).run Tryz.prog w= .ok (.tuple #[.int .i64 0,goInt clock]) (setBlock w b (.map (es.push ⟨y.val,.int .i64 0,clock⟩) (clock+1))):=by
    simp[Instr.mapEntry,run_underlying (Tryz.underlying101),MapKept.run_getObj_map hb,lawR.check w false hkey,h1,zero3,MapKept.run_setObj_map _ hb,Result.andThen,setBlock]
   have hU2:(Instr.mapUpdate 101 (.map (some b)) y.val (.int .i64 0)).run Tryz.prog w= .ok () (setBlock w b (.map (es.push ⟨y.val,.int .i64 0,clock⟩) (clock+1))):=by
    simp[Instr.mapUpdate,run_underlying (Tryz.underlying101),MapKept.run_getObj_map hb,lawR.check w false hkey,h1,MapKept.run_setObj_map _ hb,Result.andThen,setBlock]
   have hL2:(Instr.lookup 101 (.map (some b)) y.val false).run Tryz.prog w= .ok (.int .i64 0) w:=by
    simp[Instr.lookup,run_underlying (Tryz.underlying101),MapKept.run_getObj_map hb,lawR.check w _ hkey,h1,zero3,Result.andThen]
   have h0:(cntB y l:Int)=0:=by
    have:=(ok_inj ((hO.run_look hy).symm.trans hL2)).1;injection this
   have e1:setBlock w b (.map es1 clock1)=setBlock w b (.map (es.push ⟨y.val,.int .i64 0,clock⟩) (clock+1)):=by
    exact(ok_inj (hE.symm.trans hE2)).2
   obtain⟨w0,hr0,r10,_⟩:=hO.run_store (by omega) hy 0 (WalkArith.wf_i64 (by omega));have e3:setBlock w b (.map (es.push ⟨y.val,.int .i64 0,clock⟩) (clock+1))=w0:=by
    exact(ok_inj (hU2.symm.trans hr0)).2
   rw[e1,e3];have:=r10.run_look hy;simp only[setF,if_pos]at this;rw[h0];exact this
  ·have hj:es[j]?=some e0:=by simpa using h2
   have hL3:=hO.run_look hy;have hsame:es.modify j (fun e=>{e with key:=y.val})=es:=by
    apply Array.ext';rw[Array.toList_modify,modify_eq_set _ _ _ _ h2];have:({e0 with key:=y.val}:MapEntry)=e0:=by rw[←h3]
    rw[this];exact WideElems.set_self _ _ _ h2
   have hE2:∃v,(Instr.mapEntry 101 (.map (some b)) y.val).run Tryz.prog w= .ok v (setBlock w b (.map es clock)):=by
    refine⟨.tuple #[e0.val,goInt e0.born],?_⟩;simp[Instr.mapEntry,run_underlying (Tryz.underlying101),MapKept.run_getObj_map hb,lawR.check w false hkey,h1,hj,h3,lawR.stays w hkey,hsame,MapKept.run_setObj_map _ hb,Result.andThen,setBlock]
   obtain⟨v,hE2⟩:=hE2;have e1:setBlock w b (.map es1 clock1)=setBlock w b (.map es clock):=by
    exact(ok_inj (hE.symm.trans hE2)).2
   rw[e1];exact(hO.same (w':=setBlock w b (.map es clock)) ((heap_setBlock_same hb _).trans hb.symm)).run_look hy
 refine⟨v0,st,_,_,hE,hlook,hR,?_,?_,fun p hp=> ?_⟩
 ·rw[e2];exact CntMap.push_ hn r1
 ·rw[e2];exact r2
 ·simp[World.cell?,setBlock,Ne.symm hp]
attribute [local go_sem] Oper.semAt_some
theorem of_c(reps:List Rep)(A:Option Addr)(c:Nat)(w:World)(h:RdRep w w.heap.size A reps)(ok:∀r∈reps,r.ok)(hl:reps.length<maxLen):
 Calls Tryz.prog 41 #[.slice A reps.length c] w fun e w'=>e= .returned (.map (some w.heap.size))∧CntMap KR w' w.heap.size reps∧Below w.heap.size w w':=by
 have H:=lz h;have Hok:=lz ok;have hmm:= @run_makeMap Tryz.prog;have hl2:reps.length<9223372036854775807:=hl;clear h ok;go_enter Tryz.func41,Tryz.ntmps41;go_wp2_with fail;go_loopw [9] (fun t wr=>∃k:Nat,k≤reps.length∧t= .int .i64 k∧CntMap KR wr w.heap.size (reps.take k)∧Below w.heap.size w wr∧w.heap.size+1≤wr.heap.size) (fun t wr=>reps.length-(intOf t).toNat)
 case atStart=>exact⟨0,Nat.zero_le _,rfl,CntMap.made w,(Below.refl _ w).alloc (Nat.le_refl _) _,by simp⟩
 case round=>
  obtain⟨k,hk,rfl,hcm,hB,hsz⟩:=hrel;by_cases hlt:k<reps.length
  ·obtain⟨b,o,rfl,hb,hc⟩:=(H.out.keep hB) (by omega)
   obtain⟨d0,d1⟩:=hc k hlt;have hok:=Hok.out reps[k] (List.getElem_mem hlt);have hbw:b<wr.heap.size:=World.block_lt_of_cell? wr _ d0;have htk:reps.take (k+1)=reps.take k++ [reps[k]]:=List.take_succ_eq_append_getElem hlt;have hln:(reps.take k).length<maxLen:=by simp;omega
   have hw0:=(hcm.alloc (.cells #[.string reps[k].unit,.int .i64 reps[k].code] 41)).drew;have hlk:=hw0.run_look (M:=KR) (y:=reps[k]) hok;obtain⟨v0,st,W1,W2,hE,hL,hS,hC2,hg2,hcell⟩:=hw0.entryR hln hok;have c1:=(Blk.new wr 41 #[.string reps[k].unit,.int .i64 reps[k].code]).cell 0;have c2:=(Blk.new wr 41 #[.string reps[k].unit,.int .i64 reps[k].code]).cell 1;have c3:=(hcell ⟨wr.heap.size,0,none⟩ (by show wr.heap.size≠w.heap.size;omega)).trans c1;have c4:=(hcell ⟨wr.heap.size,1,none⟩ (by show wr.heap.size≠w.heap.size;omega)).trans c2;have hlk:(Instr.lookup 101 (.map (some w.heap.size)) (.agg #[.string reps[k].unit,.int .i64 reps[k].code]) false).run Tryz.prog (wr.alloc (.cells #[.string reps[k].unit,.int .i64 reps[k].code] 41)).drew= .ok (.int .i64 (cntB reps[k] (reps.take k))) (wr.alloc (.cells #[.string reps[k].unit,.int .i64 reps[k].code] 41)).drew:=hlk;have hcl':=cnt_le reps[k] (reps.take k);have hcb:(cntB reps[k] (reps.take k):Int)≤9223372036854775806:=by unfold maxLen at hln;omega
   have hc0:(0:Int)≤(cntB reps[k] (reps.take k):Int):=by omega
   have hwr:IntKind.i64.wrap ((cntB reps[k] (reps.take k):Int)+1)=(cntB reps[k] (reps.take k):Int)+1:=IntWalk.i64_in _ (by omega);have Htk:=lz htk;have HC2:=lz hC2;have Hg2:=lz hg2;have HB:=lz hB;clear hc htk hcm hw0 hC2 hg2 hcell hB hcl';dsimp only[Rep.val]at hE hL;generalize reps[k]=r at *;go_wp2_with fail;go_region;go_wp2_with fail;go_roundw
   case rel=>
    have hs2:=Hg2.out.size;simp at hs2;refine⟨k+1,by omega,by go_num,by rw[Htk.out];exact HC2.out,?_,by omega⟩;exact((HB.out.alloc HB.out.size _).drew).grown Hg2.out (by simp;have:=HB.out.size;omega) (fun j e=>by cases e;omega)
   case measure=>simp[intOf];omega
  ·obtain rfl:k=reps.length:=by omega
   rw[List.take_length]at hcm;have HC:=lz hcm;have HB:=lz hB;clear hcm hB;go_wp2_with fail;go_ret;exact⟨rfl,HC.out,HB.out⟩
end Go.Proofs.YtchfcgilpjkmhaaGreatDoor
