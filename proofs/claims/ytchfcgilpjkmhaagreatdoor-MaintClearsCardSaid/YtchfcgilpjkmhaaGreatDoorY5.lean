import Derived.RegionIn
import Derived.Test.YtchfcgilpjkmhaaGreatDoorY4
import Derived.Test.YtchfcgilpjkmhaaGreatDoorY0
import Derived.Test.YtchfcgilpjkmhaaGreatDoorY1
set_option maxRecDepth 100000
set_option linter.unusedSimpArgs false
set_option linter.unusedVariables false
set_option linter.unusedSectionVars false
namespace Go.Proofs.YtchfcgilpjkmhaaGreatDoor
open Go.ChangeShapes Go.WideShapes Go.ChangeAt Go.RowKit
attribute [local go_sem] Oper.semAt_some
open Go.Act renaming put → zP
open List renaming setIfInBounds_toArray → zA, set_cons_zero → zB, set_cons_succ → zC
theorem only_grow{a w w':World}{m:Nat}{row:Option Nat}(h:a.grownBy w (some m))(hg:w.grownBy w' row)(hr:∀r,row=some r→r=m∨a.heap.size≤r):a.grownBy w' (some m):=
 ⟨hg.os.trans h.os,hg.tape.trans h.tape,hg.output.trans h.output,Nat.le_trans h.size hg.size,fun k hk hn=>(hg.block k (Nat.lt_of_lt_of_le hk h.size) (fun e=>by
  rcases hr k e.symm with h1 | h1
  ·exact hn (by rw[h1])
  ·omega)).trans (h.block k hk hn)⟩
theorem only_of_drew{w w':World}{o:Obj}{row:Option Nat}(h:(w.alloc o).drew.grownBy w' row):w.grownBy w' row:=
 ⟨h.os,h.tape,h.output,Nat.le_trans (by simp) h.size,fun k hk hn=>(h.block k (by simp;omega) hn).trans (Below.heap_alloc _ _ _ hk)⟩
theorem only_refl(w:World)(row:Option Nat):w.grownBy w row:=⟨rfl,rfl,rfl,Nat.le_refl _,fun _ _ _=>rfl⟩
def explOf(reps:List Rep)(us:List ByteArray){L:List CsV}{u:ByteArray}(pre:List (Hit L u)):List Rep:=pre.flatMap fun y=>if holdB reps us y.x.c then y.x.c.needs else[]
theorem explOf_snoc(reps:List Rep)(us:List ByteArray){L:List CsV}{u:ByteArray}(pre:List (Hit L u))(y:Hit L u):explOf reps us (pre++ [y])=explOf reps us pre++if holdB reps us y.x.c then y.x.c.needs else[]:=by simp[explOf]
theorem explOf_len(reps:List Rep)(us:List ByteArray){L:List CsV}{u:ByteArray}(hn:∀x∈L,x.c.needs.length≤1000):∀pre:List (Hit L u),(explOf reps us pre).length≤1000*pre.length
 | []=>by simp[explOf]
 | y :: pre=>by
  have ih:=explOf_len reps us hn pre;have:=hn y.x (List.mem_of_getElem? y.h);have e:explOf reps us (y :: pre)=(if holdB reps us y.x.c then y.x.c.needs else[])++explOf reps us pre:=by simp[explOf]
  rw[e,List.length_append,List.length_cons];split
  ·omega
  ·simp;omega
def explV(L:List CsV)(reps:List Rep)(us:List ByteArray)(u:ByteArray):List Rep:=explOf reps us (upTo L u L.length)
theorem mem_explV{L:List CsV}{reps:List Rep}{us:List ByteArray}{u:ByteArray}{r:Rep}:r∈explV L reps us u↔∃c∈csOf L,c.unit=u∧holdB reps us c=true∧r∈c.needs:=by
 unfold explV explOf;rw[List.mem_flatMap];constructor
 ·rintro⟨y,hy,hr⟩
  split at hr
  ·rename_i hh
   exact⟨y.x.c,List.mem_map_of_mem (List.mem_of_getElem? y.h),y.hu,hh,hr⟩
  ·cases hr
 ·rintro⟨c,hc,hu,hh,hr⟩
  obtain⟨x,hx,rfl⟩:=List.mem_map.1 hc;obtain⟨i,hi,rfl⟩:=List.getElem_of_mem hx;refine⟨⟨i,L[i],List.getElem?_eq_getElem hi,hu⟩,(upTo_mem _ _).2 hi,?_⟩;rw[if_pos hh];exact hr
set_option maxHeartbeats 4000000 in
theorem explained_c(L:List CsV)(reps:List Rep)(us:List ByteArray)(b b2:Nat)(u:ByteArray)(A:Option Addr)(c:Nat)(w:World)(h:RdCs w w.heap.size A L)(ok:∀x∈L,OkC x.c)(hl:L.length≤100000)(hn:∀x∈L,x.c.needs.length≤1000)
 (hm:CntMap KR w b reps) (hm2:CntMap KS w b2 us) (hu:u.size≤maxLen):
 Calls Tryz.prog 39 #[.slice A L.length c,.map (some b),.map (some b2),.string u] w fun e w'=>e= .returned (.map (some (w.heap.size+2)))∧CntMap KR w' (w.heap.size+2) (explV L reps us u)∧Below w.heap.size w w':=by
 obtain⟨w4,hw4⟩:∃w4,w4=(((((w.alloc (.cells #[.map (some b)] 101)).alloc (.cells #[.map (some b2)] 113)).alloc (.map #[] 0)).alloc (.cells #[.map (some (w.heap.size+2))] 101)).alloc (.cells #[.slice A L.length c] 97)).alloc (.cells #[.string u] 9):=⟨_,rfl⟩;have hB4:Below w.heap.size w w4:=by
  rw[hw4];exact((((((Below.refl _ w).alloc (Nat.le_refl _) _).alloc (by simp) _).alloc (by simp;omega) _).alloc (by simp;omega) _).alloc (by simp;omega) _).alloc (by simp;omega) _
 have hz4:w4.heap.size=w.heap.size+6:=by rw[hw4];simp
 have hb5:Blk w4 w.heap.size 101 #[.map (some b)]:=by rw[hw4];exact(((((Blk.new w _ _).alloc _).alloc _).alloc _).alloc _).alloc _
 have hb6:Blk w4 (w.heap.size+1) 113 #[.map (some b2)]:=by
  rw[hw4];have:=Blk.new (w.alloc (.cells #[.map (some b)] 101)) 113 #[.map (some b2)];rw[World.size_alloc]at this;exact(((this.alloc _).alloc _).alloc _).alloc _
 have hmb:CntMap KR w4 (w.heap.size+2) []:=by
  rw[hw4];have:=CntMap.made (M:=KR) ((w.alloc (.cells #[.map (some b)] 101)).alloc (.cells #[.map (some b2)] 113));rw[World.size_alloc,World.size_alloc]at this;exact((this.alloc _).alloc _).alloc _
 have hb9:Blk w4 (w.heap.size+3) 101 #[.map (some (w.heap.size+2))]:=by
  rw[hw4];have:=Blk.new (((w.alloc (.cells #[.map (some b)] 101)).alloc (.cells #[.map (some b2)] 113)).alloc (.map #[] 0)) 101 #[.map (some (w.heap.size+2))];rw[World.size_alloc,World.size_alloc,World.size_alloc]at this;exact(this.alloc _).alloc _
 have hbl:Blk w4 (w.heap.size+4) 97 #[.slice A L.length c]:=by
  rw[hw4];have:=Blk.new ((((w.alloc (.cells #[.map (some b)] 101)).alloc (.cells #[.map (some b2)] 113)).alloc (.map #[] 0)).alloc (.cells #[.map (some (w.heap.size+2))] 101)) 97 #[.slice A L.length c];rw[World.size_alloc,World.size_alloc,World.size_alloc,World.size_alloc]at this;exact this.alloc _
 have hbu:Blk w4 (w.heap.size+5) 9 #[.string u]:=by
  rw[hw4];have:=Blk.new (((((w.alloc (.cells #[.map (some b)] 101)).alloc (.cells #[.map (some b2)] 113)).alloc (.map #[] 0)).alloc (.cells #[.map (some (w.heap.size+2))] 101)).alloc (.cells #[.slice A L.length c] 97)) 9 #[.string u];rw[World.size_alloc,World.size_alloc,World.size_alloc,World.size_alloc,World.size_alloc]at this;exact this
 have H4:=lz (h.keep hB4);have Hm:=lz (hm.below hB4 hm.lt);have Hm2:=lz (hm2.below hB4 hm2.lt);have HB4:=lz hB4;have H5:=lz hb5;have H6:=lz hb6;have Hmb:=lz hmb;have H9:=lz hb9;have Hbl:=lz hbl;have Hbu:=lz hbu;have Hlb:=hm.lt;have Hlb2:=hm2.lt;have Hok:=lz ok;have Hn:=lz hn;have Hw4:=lz hw4;have Hz4:=lz hz4;have hmk:= @run_makeMap Tryz.prog;clear h ok hm hm2 hn hB4 hb5 hb6 hmb hb9 hbl hbu hw4 hz4;refine(callsIn_wide (n:=9)).1 ?_;refine callsIn_of_wp_marks Tryz.func39 rfl trivial ?_ rfl;simp only[Tryz.ntmps39,List.size_toArray,List.length_cons,List.length_nil,Nat.reduceAdd,Nat.reduceSub,Array.replicate_succ,Array.replicate_zero,List.push_toArray,List.append_toArray,List.nil_append,List.cons_append];refine wpIn_wide.2 ?_;go_wp2_with fail;refine(all_c _ _ _ _ _).mono ?_;rintro e w4' ⟨rfl,hw4'⟩;obtain rfl:w4'=w4:=hw4'.trans Hw4.out.symm;clear hw4' Hw4;go_wp2_with fail;have hz4:=Hz4.out;refine(wpIn_wide (n:=9)).1 ?_;refine wpIn_rangeFunc_ownH (F:=Fence.wide) rfl (by omega) (gf:=111) (lb:= #[.pointer (some ⟨w.heap.size+4,0,none⟩),.pointer (some ⟨w.heap.size+5,0,none⟩)]) rfl trivial (enters_of Tryz.func111 kz rfl)
  (encs:=Hit.enc (L:=L) (u:=u)) (all1_seq L u A c w.heap.size (w.heap.size+4) (w.heap.size+5) (9-1) w4' (by omega) (by omega) (by omega) (by omega) Hbl.out Hbu.out H4.out (by omega))
  (fun h1 h2=>h1.trans h2) (KpA.put (by omega) (by omega) (by omega)) (Below.refl _ _) (fun _=>rfl)
  (fun pre W=>w4'.grownBy W (some (w.heap.size+2))∧CntMap KR W (w.heap.size+2) (explOf reps us pre))
  (fun _ _ _=>False)
  (fun _ X Y row hs hg hr=>⟨only_grow hs.1 hg (fun r e=> .inr (hr r e).1),hs.2.kept hg (fun e=>by have:=(hr _ e.symm).1;omega)⟩)
  (fun _ _ X Y row hs _ _=>hs)
  ⟨only_refl _ _,Hmb.out⟩
  (fun y a' W=>∃Bx,w4'.heap.size≤Bx∧Blk W Bx 48 #[.string y.x.c.unit,.slice y.x.n.a y.x.n.n y.x.n.c,.slice y.x.x.a y.x.x.n y.x.x.c]∧a'={tmps:=(((List.toArray [.slice A L.length c,.map (some b),.map (some b2),.string u,undef,.pointer (some ⟨w.heap.size,0,none⟩),.pointer (some ⟨w.heap.size+1,0,none⟩),undef,.map none,.pointer (some ⟨w.heap.size+3,0,none⟩),undef,undef,undef,undef,.map (some (w.heap.size+2)),.slice A L.length c,.string u,.func (.func 111) #[] #[.pointer (some ⟨w.heap.size+4,0,none⟩),.pointer (some ⟨w.heap.size+5,0,none⟩)],undef,undef,undef,undef,undef,undef,undef,undef,undef,undef,undef,undef,undef,undef,undef,undef,undef,undef,undef,undef,undef]).setIfInBounds 18 (.int .i64 y.i)).setIfInBounds 19 y.x.val).setIfInBounds 11 (.pointer (some ⟨Bx,0,none⟩)),defers:= []})
  (fun y a' s X Y row hs hg hr=>by obtain⟨Bx,h1,h2,h3⟩:=hs;exact⟨Bx,h1,ownFrom_blk (β:=Unit) w4'.heap.size _ _ _ s X Y row h2 hg hr,h3⟩) ?assign ?body ?done ?stop
 case assign=>
  intro l pre y W K hI hK;have hs4:=hI.1.size;dsimp only[Hit.enc,CsV.val];gi_wp2;exact hK _ _ ((KeepsOthers.alloc _ _).from _) (KpA.of_below ((Below.refl _ W).alloc (Nat.le_refl _) _) (by omega) (by omega) (by omega)) ⟨only_alloc hI.1 _,hI.2.alloc _⟩ ⟨W.heap.size,hs4,by simpa using Blk.new W 48 _,rfl⟩
 case body=>
  rintro l pre y a' W hl ⟨r,hr⟩ hI ⟨Bx,hBx,hbx,rfl⟩ hlt2;simp only[List.setIfInBounds_toArray,List.set_cons_succ,List.set_cons_zero];have hsW:=hI.1.size;have hcW:∀g o,g<w.heap.size→W.cell? ⟨g,o,none⟩=w4'.cell? ⟨g,o,none⟩:=fun g o hg=>World.cell?_of_block (hI.1.block g (by omega) (by simp;omega))
  have hx:=(rd_of (H4.out.to_ (Nat.le_refl _) hcW) y.h);have hok:=Hok.out y.x (List.mem_of_getElem? y.h);have hny:=Hn.out y.x (List.mem_of_getElem? y.h);have c5:=(H5.out.grown hI.1 (by simp)).cell 0;have c6:=(H6.out.grown hI.1 (by simp)).cell 0;have H9W:=lz (H9.out.grown hI.1 (by simp));have Hcall:=lz (holds_c reps us b b2 y.x W (hx.more (by omega)) hok (Hm.out.kept hI.1 (by simp;omega)) (Hm2.out.kept hI.1 (by simp;omega)));have r0:=hbx.cell 0;have r1:=hbx.cell 1;have r2:=hbx.cell 2;have HI:=lz hI;have Hx:=lz hx;have HokY:=lz hok;have Hbx:=lz hbx;clear hx hok hcW hI hbx;gi_wp2_with fail;refine round_call Hcall.out ?_;rintro e W2 ⟨rfl,hb2⟩;have hs2:=hb2.size;have r12:=(Hbx.out.below hb2 Hbx.out.lt).cell 1;have HI2:=lz (And.intro (only_grow HI.out.1 (below_grown (row:=none) hb2) (fun r e=>by cases e)) (HI.out.2.next hb2));have H92:=lz (H9W.out.below hb2 H9W.out.lt);have Hx2:=lz (Hx.out.keep (hb2.mono (by omega)));have HK2:=lz (keepsB (B:=w4'.heap.size) hb2);have HKp2:=lz (KpA.of_below (B:=w.heap.size) (Bl:=w.heap.size+4) (Bu:=w.heap.size+5) hb2 (by omega) (by omega) (by omega));have Hsn:=lz (explOf_snoc reps us pre y);clear Hcall hb2 HI H9W Hx r0 r1 r2 c5 c6 Hbx
  cases hq:holdB reps us y.x.c with
  | false=>
   rw[hq]at Hsn;gi_wp2;refine⟨HK2.out,HKp2.out,HI2.out.1,?_⟩;have:=Hsn.out;simp only[Bool.false_eq_true,if_false,List.append_nil]at this;rw[this];exact HI2.out.2
  | true=>
   rw[hq]at Hsn;rw[Hx2.out.nl]at r12;have hexl:=explOf_len reps us Hn.out pre;clear hq;gi_wp2_with fail;gi_loopw [27] (fun t wr=>∃m:Nat,m≤y.x.c.needs.length∧t= .int .i64 m∧W2.grownBy wr (some (w.heap.size+2))∧CntMap KR wr (w.heap.size+2) (explOf reps us pre++y.x.c.needs.take m)) (fun t wr=>y.x.c.needs.length-(intOf t).toNat)
   case atStart=>exact⟨0,Nat.zero_le _,rfl,only_refl _ _,by simpa using HI2.out.2⟩
   case round=>
    obtain⟨m,hm,rfl,hgr,hcm⟩:=hrel;have hsr:=hgr.size;by_cases hltm:m<y.x.c.needs.length
    ·have hA:∃b3 o3,y.x.n.a=some ⟨b3,o3,none⟩∧b3<wr.heap.size∧wr.cell? ⟨b3,o3+m*2,none⟩=some (.string y.x.c.needs[m].unit)∧wr.cell? ⟨b3,o3+m*2+1,none⟩=some (.int .i64 y.x.c.needs[m].code):=by
      obtain⟨b3,o3,hA,hb3,hc3⟩:=Hx2.out.n (by omega);have:=hc3 m hltm;exact⟨b3,o3,hA,by omega,(World.cell?_of_block (hgr.block b3 (by omega) (by simp;omega))).trans this.1,(World.cell?_of_block (hgr.block b3 (by omega) (by simp;omega))).trans this.2⟩
     obtain⟨b3,o3,hA,hb3,hc3,hc4⟩:=hA;have hokr:=HokY.out.n _ (List.getElem_mem hltm);have htk:explOf reps us pre++y.x.c.needs.take (m+1)=(explOf reps us pre++y.x.c.needs.take m)++ [y.x.c.needs[m]]:=by
      rw[List.take_succ_eq_append_getElem hltm,List.append_assoc]
     have hln:(explOf reps us pre++y.x.c.needs.take m).length<maxLen:=by simp[maxLen];omega
     rw[hA];have c9:(wr.alloc (.cells #[.string y.x.c.needs[m].unit,.int .i64 y.x.c.needs[m].code] 41)).drew.cell? ⟨w.heap.size+3,0,none⟩=some (.map (some (w.heap.size+2))):=((H92.out.grown hgr (by simp)).alloc _).cell 0;have h9r:=H92.out.grown hgr (by simp);have hw0:=(hcm.alloc (.cells #[.string y.x.c.needs[m].unit,.int .i64 y.x.c.needs[m].code] 41)).drew;have hlk:=hw0.run_look (M:=KR) (y:=y.x.c.needs[m]) hokr;obtain⟨v0,st,W1,W3,hE,hL,hS,hC2,hg2,hcell⟩:=hw0.entryR hln hokr;have c1:=(Blk.new wr 41 #[.string y.x.c.needs[m].unit,.int .i64 y.x.c.needs[m].code]).cell 0;have c2:=(Blk.new wr 41 #[.string y.x.c.needs[m].unit,.int .i64 y.x.c.needs[m].code]).cell 1;have c3:=(hcell ⟨wr.heap.size,0,none⟩ (by show wr.heap.size≠w.heap.size+2;omega)).trans c1;have c4:=(hcell ⟨wr.heap.size,1,none⟩ (by show wr.heap.size≠w.heap.size+2;omega)).trans c2;have c92:=(hcell ⟨w.heap.size+3,0,none⟩ (by show w.heap.size+3≠w.heap.size+2;omega)).trans c9;have hlk:(Instr.lookup 101 (.map (some (w.heap.size+2))) (.agg #[.string y.x.c.needs[m].unit,.int .i64 y.x.c.needs[m].code]) false).run Tryz.prog (wr.alloc (.cells #[.string y.x.c.needs[m].unit,.int .i64 y.x.c.needs[m].code] 41)).drew= .ok (.int .i64 (cntB y.x.c.needs[m] (explOf reps us pre++y.x.c.needs.take m))) (wr.alloc (.cells #[.string y.x.c.needs[m].unit,.int .i64 y.x.c.needs[m].code] 41)).drew:=hlk;have hcl':=cnt_le y.x.c.needs[m] (explOf reps us pre++y.x.c.needs.take m);have hcb:(cntB y.x.c.needs[m] (explOf reps us pre++y.x.c.needs.take m):Int)≤9223372036854775806:=by unfold maxLen at hln;omega
     have hc0:(0:Int)≤(cntB y.x.c.needs[m] (explOf reps us pre++y.x.c.needs.take m):Int):=by omega
     have hwr:IntKind.i64.wrap ((cntB y.x.c.needs[m] (explOf reps us pre++y.x.c.needs.take m):Int)+1)=(cntB y.x.c.needs[m] (explOf reps us pre++y.x.c.needs.take m):Int)+1:=IntWalk.i64_in _ (by omega);have Htk:=lz htk;have HC2:=lz hC2;have Hg2:=lz hg2;have Hgr:=lz hgr;clear htk hcm hw0 hC2 hg2 hcell hgr hcl' hA h9r;dsimp only[Rep.val]at hE hL;generalize y.x.c.needs[m]=rr at *;generalize explOf reps us pre++y.x.c.needs.take m=ee at *;gi_wp2_with fail;refine wpIn_region_roundS (fun W'=>W'.cell? ⟨w.heap.size+3,0,none⟩=some (.map (some (w.heap.size+2)))∧W'.cell? ⟨wr.heap.size,0,none⟩=some (.string rr.unit)∧W'.cell? ⟨wr.heap.size,1,none⟩=some (.int .i64 rr.code)) 6 kz kz ?hq ⟨c9,c1,c2⟩ (fun hHeld=> ?_)
     case hq=>rintro⟨_,_,h⟩;exact h
     refine wpAnyS_take (i:=0) (v:= ?_) rfl kz kz kz kz (fun c a w h=>h) (Or.inl ⟨by rfl,?_⟩) hHeld ?_;rotate_left
     ·rintro w ⟨hSw,_,_⟩
      exact gz
     simp only[zP,zA,zB,zC];refine wpAnyS_take (i:=1) (v:= ?_) rfl kz kz kz kz (fun c a w h=>h) (Or.inl ⟨by rfl,?_⟩) hHeld ?_;rotate_left
     ·rintro w ⟨_,hSw1,hSw2⟩
      exact gz
     simp only[zP,zA,zB,zC];have hHeld2:W1.cell? ⟨w.heap.size+3,0,none⟩=some (.map (some (w.heap.size+2)))∧W1.cell? ⟨wr.heap.size,0,none⟩=some (.string rr.unit)∧W1.cell? ⟨wr.heap.size,1,none⟩=some (.int .i64 rr.code):=⟨c92,c3,c4⟩;refine wpAnyS_ready (rs:= [2,4]) kz (by simp) ?_;refine AllReadyS.cons rfl (fun K hK=> ?_) (AllReadyS.cons rfl (fun K hK=> ?_) AllReadyS.nil)
     ·go_simp
      refine hK.out _ _ (fun _=>hHeld) ?_;clear hK;refine wpAnyS_take (i:=3) (v:= ?_) rfl kz kz kz kz (fun c a w h=>h) (Or.inl ⟨by rfl,?_⟩) hHeld ?_;rotate_left
      ·intro w hSw
       (try dsimp only at hSw)
       exact gz
      simp only[zP,zA,zB,zC];refine RQ 4 rfl fun K hK=> ?_;go_simp;refine hK.out _ _ (fun _=>hHeld2) ?_;clear hK;refine wpAnyS_take (i:=5) (v:= ?_) rfl kz kz kz kz (fun c a w h=>h) (Or.inl ⟨by rfl,?_⟩) hHeld2 ?_;rotate_left
      ·intro w hSw
       (try dsimp only at hSw)
       exact gz
      simp only[zP,zA,zB,zC];refine RQ 6 rfl fun K hK=> ?_;go_simp;refine hK.out _ _ (fun h=>absurd h (by decide)) ?_;clear hK;refine wpAnyS_done kz ?_ _;gi_wp2_with fail;go_roundw
      case rel=>
       have hs3:=Hg2.out.size;simp at hs3;refine⟨m+1,by omega,by go_num,only_grow Hgr.out (only_of_drew (Hg2.out)) ?_,by rw[Htk.out];exact HC2.out⟩;intro r e
       cases e
       exact .inl rfl
      case measure=>simp[intOf];omega
     ·go_simp
      refine hK.out _ _ (fun _=>hHeld2) ?_;clear hK;refine wpAnyS_take (i:=5) (v:= ?_) rfl kz kz kz kz (fun c a w h=>h) (Or.inl ⟨by rfl,?_⟩) hHeld2 ?_;rotate_left
      ·intro w hSw
       (try dsimp only at hSw)
       exact gz
      simp only[zP,zA,zB,zC];refine RQ 2 rfl fun K hK=> ?_;go_simp;refine hK.out _ _ (fun _=>hHeld2) ?_;clear hK;refine wpAnyS_take (i:=3) (v:= ?_) rfl kz kz kz kz (fun c a w h=>h) (Or.inl ⟨by rfl,?_⟩) hHeld2 ?_;rotate_left
      ·intro w hSw
       (try dsimp only at hSw)
       exact gz
      simp only[zP,zA,zB,zC];refine RQ 6 rfl fun K hK=> ?_;go_simp;refine hK.out _ _ (fun h=>absurd h (by decide)) ?_;clear hK;refine wpAnyS_done kz ?_ _;gi_wp2_with fail;go_roundw
      case rel=>
       have hs3:=Hg2.out.size;simp at hs3;refine⟨m+1,by omega,by go_num,only_grow Hgr.out (only_of_drew (Hg2.out)) ?_,by rw[Htk.out];exact HC2.out⟩;intro r e
       cases e
       exact .inl rfl
      case measure=>simp[intOf];omega
    ·obtain rfl:m=y.x.c.needs.length:=by omega
     rw[List.take_length]at hcm;have hcm2:CntMap KR wr (w.heap.size+2) (explOf reps us (pre++ [y])):=by
      have:=Hsn.out;simp only[if_true]at this;rw[this];exact hcm
     have hI3:=only_grow HI2.out.1 hgr (fun r e=>by cases e;exact .inl rfl);have hkf:KeepsFrom w4'.heap.size W wr:=HK2.out.trans (KeepsFrom.of_grownBy hgr (fun j e=>by cases e;omega));have hkp:KpA w.heap.size (w.heap.size+4) (w.heap.size+5) W wr:=HKp2.out.trans ⟨hgr.size,fun k hk=>hgr.block k (by omega) (by simp;omega)⟩;have HR:=lz (And.intro hkf (And.intro hkp (And.intro hI3 hcm2)));clear hcm hcm2 hI3 hkf hkp hgr;gi_wp2_with fail;exact HR.out
 case done=>
  rintro D ys W hD rfl hI hK;have c9:=(H9.out.grown hI.1 (by simp)).cell 0;have hBW:Below w.heap.size w W:=HB4.out.grown hI.1 (by omega) (fun j e=>by cases e;omega);have HI:=lz hI;clear hI;go_wp2_with fail;refine leaves_marks [D] W (w.heap.size+6) (by simp) (fun E hE=>by simp at hE;subst hE;exact⟨by omega,hK⟩) fun W' hSh=> ?_
  exact⟨.map (some (w.heap.size+2)),by simp[results,Tryz.f39,go_sem],rfl,HI.out.2.below hSh.below (by omega),hBW.trans (hSh.below.mono (by omega))⟩
 case stop=>
  intro D c' pre W _ _ h _;exact h.elim
theorem info46:(Tryz.prog.info? 41).map (fun i=>(i.zero,i.size,i.bytes))=some (some (.agg #[.string ⟨#[]⟩,.int .i64 0]),2,24):=by kernel_rfl
def Rep.cells(r:Rep):List Value:= [.string r.unit,.int .i64 r.code]
theorem cells2_length(l:List Rep):(l.flatMap Rep.cells).length=l.length*2:=by
 induction l with
 | nil=>rfl
 | cons r l ih=>simp[Rep.cells,ih];omega
theorem cells2_get:∀(l:List Rep) (i:Nat) (h:i<l.length),(l.flatMap Rep.cells)[i*2]?=some (.string l[i].unit)∧(l.flatMap Rep.cells)[i*2+1]?=some (.int .i64 l[i].code)
 | r :: l,0,_=>⟨rfl,rfl⟩
 | r :: l,i+1,h=>by
  have ih:=cells2_get l i (by simpa using h);have e:∀j,(List.flatMap Rep.cells (r :: l))[j+2]?=(List.flatMap Rep.cells l)[j]?:=fun j=>by simp[Rep.cells]
  rw[show(i+1)*2=i*2+2 from by omega,show i*2+2+1=i*2+1+2 from by omega,e,e];simpa using ih
theorem addr_add_none(b o k:Nat):(⟨b,o,none⟩:Addr).add k=⟨b,o+k,none⟩:=by unfold Addr.add;split<;>simp_all
theorem rep_flat{w:World}{B b o:Nat}{l:List Rep}(hc:∀i (h:i<l.length),w.cell? ⟨b,o+i*2,none⟩=some (.string l[i].unit)∧w.cell? ⟨b,o+i*2+1,none⟩=some (.int .i64 l[i].code)):∀j u,(l.flatMap Rep.cells)[j]?=some u→w.cell? ((⟨b,o,none⟩:Addr).add j)=some u:=by
 intro j u hu;have hj:j<l.length*2:=by
  have:=(List.getElem?_eq_some_iff.1 hu).1
  rwa[cells2_length]at this
 have hi:j/2<l.length:=by omega
 obtain⟨q0,q1⟩:=cells2_get l (j/2) hi;obtain⟨c0,c1⟩:=hc (j/2) hi;rw[addr_add_none];have h3:j=j/2*2∨j=j/2*2+1:=by omega
 rcases h3 with e | e
 ·rw[e,q0]at hu;rw[e,c0];exact hu
 ·rw[e,q1]at hu;rw[e,←Nat.add_assoc,c1];exact hu
theorem str_flat{w:World}{b o:Nat}{l:List ByteArray}(hc:∀i (h:i<l.length),w.cell? ⟨b,o+i,none⟩=some (.string l[i])):∀j u,(l.map Value.string)[j]?=some u→w.cell? ((⟨b,o,none⟩:Addr).add j)=some u:=by
 intro j u hu;rw[List.getElem?_map,Option.map_eq_some_iff]at hu;obtain⟨s,hs,rfl⟩:=hu;obtain⟨hj,rfl⟩:=List.getElem?_eq_some_iff.1 hs;rw[addr_add_none];exact hc j hj
theorem rdRep_of_own{W:World}{base c:Nat}{A:Option Addr}{l:List Rep}(h:W.ownsRow base 41 2 (.slice A l.length c) l.length (l.flatMap Rep.cells)):RdRep W W.heap.size A l:=fun hn=>by
 obtain⟨g,cap,hv,_,hlt⟩:=h.form hn;have hA:A=some ⟨g,0,none⟩:=by injection hv
 subst hA;refine⟨g,0,rfl,hlt,fun i hi=> ?_⟩;obtain⟨q0,q1⟩:=cells2_get l i hi;have c0:=h.cells (g:=g) rfl _ _ q0;have c1:=h.cells (g:=g) rfl _ _ q1;rw[add_none]at c0 c1;simpa using And.intro c0 c1
theorem own_caps{W:World}{base n:Nat}{e:TypeId}{size:Nat}{v:Value}{xs:List Value}(h:W.ownsRow base e size v n xs):∃A c,v= .slice A n c∧n≤c∧c≤maxLen:=by
 rcases h.2 with⟨rfl,h0⟩ | ⟨g,cap,cur,rfl,_,_,h1,h2,_⟩
 ·exact⟨none,0,by rw[h0],by omega,by simp[maxLen]⟩
 ·exact⟨_,cap,rfl,h1,h2⟩
theorem cloneRep_c(l:List Rep)(A:Option Addr)(c:Nat)(w:World)(h:RdRep w w.heap.size A l)(hl:l.length≤100000):
 Calls Tryz.prog 21 #[.slice A l.length c] w fun e w'=>∃A' c',e= .returned (.slice A' l.length c')∧l.length≤c'∧c'≤maxLen∧w'.ownsRow w.heap.size 41 2 (.slice A' l.length c') l.length (l.flatMap Rep.cells)∧Below w.heap.size w w':=by
 obtain⟨i0,hi0,hz0,hz1,hz2⟩:=info_parts info46;have hnil:=fun(n c:Nat) W=>Lib.run_eql_slice_nil (P:=Tryz.prog) W 45 41 A n c 0 0 Tryz.underlying45
 cases A with
 | none=>
  have hl0:l= []:=by
   rcases Nat.eq_zero_or_pos l.length with h0 | h0
   ·exact List.eq_nil_of_length_eq_zero h0
   ·obtain⟨b,o,e,_⟩:=h h0;cases e
  subst hl0;simp only[List.length_nil]at hnil ⊢;go_enter Tryz.func21,Tryz.ntmps21;go_wp2;go_ret;exact⟨none,0,rfl,Nat.le_refl _,Nat.zero_le _,World.ownsRow_nil _ _ _ _,Below.refl _ _⟩
 | some ad=>
  have hcells:∀j u,(l.flatMap Rep.cells)[j]?=some u→w.cell? (ad.add j)=some u:=by
   rcases Nat.eq_zero_or_pos l.length with h0 | h0
   ·have hl0:l= []:=List.eq_nil_of_length_eq_zero h0
    subst hl0;intro j u hu;simp at hu
   ·obtain⟨b,o,e,_,hc⟩:=h h0
    injection e with e
    subst e;exact rep_flat (B:=0) hc
  have hlt:∀j u,(l.flatMap Rep.cells)[j]?=some u→(w.alloc (.cells #[] 41)).cell? (ad.add j)=some u:=fun j u hu=>by
   have:=hcells j u hu;rw[World.cell?_alloc_lt _ _ _ (World.block_lt_of_cell? w _ this)];exact this
  have Hfl:=lz (cells2_length l);have Hcells:=lz hlt;clear hlt hcells h;go_enter Tryz.func21,Tryz.ntmps21;go_wp2_with (at_builtin;refine wpList_append_own _ rfl _ _ 45 rfl w.heap.size 41 i0 (.agg #[.string ⟨#[]⟩,.int .i64 0]) 2 24 Tryz.underlying45 hi0 hz0 hz1 hz2 rfl (by decide) _ 0 [] rfl (World.ownsRow_made _ #[] 0 (Nat.le_refl _) (by simp[maxLen]) (by simp)) ad l.length c (l.flatMap Rep.cells) rfl Hfl.out Hcells.out ?c2 ?c3 ?c4 ?c5 ?_)
  case c2=>intro u hu;obtain⟨r,_,hr⟩:=List.mem_flatMap.1 hu;simp[Rep.cells]at hr;rcases hr with rfl | rfl<;>rfl
  case c3=>unfold maxLen;omega
  case c4=>omega
  case c5=>simp
  intro v' w2 hown2 hgrow hnl;have hB:Below w.heap.size w w2:=((Below.refl _ w).alloc (Nat.le_refl _) _).grown hgrow (by simp) (fun k hk=>by simp[Value.ownBlock]at hk;omega);obtain⟨A',c',rfl,h1,h2⟩:=own_caps hown2;have Hrd:=lz hown2;clear hown2 hgrow hnl;go_wp2;go_ret;exact⟨A',c',rfl,h1,h2,Hrd.out,hB⟩
theorem cloneStr_c(l:List ByteArray)(A:Option Addr)(c:Nat)(w:World)(h:RdStr w w.heap.size A l)(hl:l.length≤100000):
 Calls Tryz.prog 22 #[.slice A l.length c] w fun e w'=>∃A' c',e= .returned (.slice A' l.length c')∧l.length≤c'∧c'≤maxLen∧w'.ownsRow w.heap.size 9 1 (.slice A' l.length c') l.length (l.map Value.string)∧Below w.heap.size w w':=by
 obtain⟨i0,hi0,hz0,hz1,hz2⟩:=info_parts info9;have hnil:=fun(n c:Nat) W=>Lib.run_eql_slice_nil (P:=Tryz.prog) W 46 9 A n c 0 0 Tryz.underlying46
 cases A with
 | none=>
  have hl0:l= []:=by
   rcases Nat.eq_zero_or_pos l.length with h0 | h0
   ·exact List.eq_nil_of_length_eq_zero h0
   ·obtain⟨b,o,e,_⟩:=h h0;cases e
  subst hl0;simp only[List.length_nil]at hnil ⊢;go_enter Tryz.func22,Tryz.ntmps22;go_wp2;go_ret;exact⟨none,0,rfl,Nat.le_refl _,Nat.zero_le _,World.ownsRow_nil _ _ _ _,Below.refl _ _⟩
 | some ad=>
  have hcells:∀j u,(l.map Value.string)[j]?=some u→w.cell? (ad.add j)=some u:=by
   rcases Nat.eq_zero_or_pos l.length with h0 | h0
   ·have hl0:l= []:=List.eq_nil_of_length_eq_zero h0
    subst hl0;intro j u hu;simp at hu
   ·obtain⟨b,o,e,_,hc⟩:=h h0
    injection e with e
    subst e;exact str_flat hc
  have hlt:∀j u,(l.map Value.string)[j]?=some u→(w.alloc (.cells #[] 9)).cell? (ad.add j)=some u:=fun j u hu=>by
   have:=hcells j u hu;rw[World.cell?_alloc_lt _ _ _ (World.block_lt_of_cell? w _ this)];exact this
  have hfl:(l.map Value.string).length=l.length*1:=by simp
  have Hcells:=lz hlt;have Hfl:=lz hfl;clear hlt hcells hfl h;go_enter Tryz.func22,Tryz.ntmps22;go_wp2_with (at_builtin;refine wpList_append_own _ rfl _ _ 46 rfl w.heap.size 9 i0 (.string ⟨#[]⟩) 1 16 Tryz.underlying46 hi0 hz0 hz1 hz2 rfl (by decide) _ 0 [] rfl (World.ownsRow_made _ #[] 0 (Nat.le_refl _) (by simp[maxLen]) (by simp)) ad l.length c (l.map Value.string) rfl Hfl.out Hcells.out ?c2 ?c3 ?c4 ?c5 ?_)
  case c2=>intro u hu;obtain⟨r,_,rfl⟩:=List.mem_map.1 hu;rfl
  case c3=>unfold maxLen;omega
  case c4=>omega
  case c5=>simp
  intro v' w2 hown2 hgrow hnl;have hB:Below w.heap.size w w2:=((Below.refl _ w).alloc (Nat.le_refl _) _).grown hgrow (by simp) (fun k hk=>by simp[Value.ownBlock]at hk;omega);obtain⟨A',c',rfl,h1,h2⟩:=own_caps hown2;have Hrd:=lz hown2;clear hown2 hgrow hnl;go_wp2;go_ret;exact⟨A',c',rfl,h1,h2,Hrd.out,hB⟩
end Go.Proofs.YtchfcgilpjkmhaaGreatDoor
