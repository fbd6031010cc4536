import Derived.Test.YtchfcgilpjkmhaaGreatDoorY21
import Derived.Test.YtchfcgilpjkmhaaGreatDoorY0
import Derived.Test.YtchfcgilpjkmhaaGreatDoorY1
set_option maxRecDepth 100000
set_option linter.unusedSimpArgs false
set_option linter.unusedVariables false
set_option linter.unusedSectionVars false
namespace Go.Proofs.YtchfcgilpjkmhaaGreatDoor
open Go.ChangeShapes Go.WideShapes Go.ChangeAt Go.RowKit
attribute [local go_sem] Oper.semAt_some
open Go.Act renaming put → zP
open List renaming setIfInBounds_toArray → zA, set_cons_zero → zB, set_cons_succ → zC
theorem row3_at{W:World}{B:Nat}{a b d:Int}(h:Blk W B 3 #[.int .i64 a,.int .i64 b,.int .i64 d]):∀j (hj:j< [a,b,d].length),W.cell? ⟨B,j,none⟩=some (.int .i64 [a,b,d][j]):=by
 intro j hj;have hj3:j=0∨j=1∨j=2:=by simp at hj;omega
 rcases hj3 with rfl | rfl | rfl
 ·exact h.cell 0
 ·exact h.cell 1
 ·exact h.cell 2
def OpsPost(x:InsV)(w:World)(e:Ending)(w':World):Prop:=
 ∃B,e= .returned (.slice (some ⟨B,0,none⟩) (insL x.op).size 3)∧Below w.heap.size w w'∧B<w'.heap.size∧w'.cell? ⟨B,0,none⟩=some (.int .i64 x.a)∧w'.cell? ⟨B,1,none⟩=some (.int .i64 x.b)∧w'.cell? ⟨B,2,none⟩=some (.int .i64 x.d)
set_option maxHeartbeats 4000000 in
theorem operands_g(x:InsV)(w:World)(hL:LaidN w)(h0:0≤x.op∧x.op≤255):Calls Tryz.prog 268 #[x.val] w (OpsPost x w):=by
 have hop:=fun W (hW:Below w.heap.size w W)=>operands_ins_c x.op W (hL.below hW) h0.1 h0.2
 have hk:=insL_size x.op;obtain⟨t,ht⟩:∃t,t=insL x.op:=⟨_,rfl⟩;rw[←ht]at hk;have hop:∀W,Below w.heap.size w W→CU 170 #[.int .u8 x.op] W (.string t):=by rw[ht];exact hop
 have Hop:=lz hop;have Ht:=lz ht;have HL:=lz hL;clear hop ht hL;obtain⟨op,a,b,d⟩:=x;dsimp only[InsV.val]at Hop Ht h0 ⊢;have hz0:(0:Int)≤(t.size:Int):=by omega
 have hz3:(t.size:Int)≤3:=by omega
 obtain⟨y0,hy0⟩:∃y0,y0=w.alloc (.cells #[.int .u8 op,.int .i64 a,.int .i64 b,.int .i64 d] 167):=⟨_,rfl⟩;have hB0:Below w.heap.size w y0:=by rw[hy0];exact(Below.refl _ _).alloc (Nat.le_refl _) _
 have hb0:Blk y0 w.heap.size 167 #[.int .u8 op,.int .i64 a,.int .i64 b,.int .i64 d]:=by rw[hy0];exact Blk.new w _ _
 have held:∀W,Below y0.heap.size y0 W→(fun W=>W.cell? ⟨w.heap.size,0,none⟩=some (.int .u8 op)∧W.cell? ⟨w.heap.size,1,none⟩=some (.int .i64 a)∧W.cell? ⟨w.heap.size,2,none⟩=some (.int .i64 b)∧W.cell? ⟨w.heap.size,3,none⟩=some (.int .i64 d)) W:=fun W hW=>
  have h:=hb0.below hW hb0.lt
  ⟨h.cell 0,h.cell 1,h.cell 2,h.cell 3⟩
 have Held:=lz held;have Hb0:=lz hb0;have HB0:=lz hB0;have Hy0:=lz hy0;have HZ0:=lz (show y0.heap.size=w.heap.size+1 by rw[hy0];simp);clear held hb0 hB0 hy0;go_enter Tryz.func268,Tryz.ntmps268;go_wp2_with fail;have hHeld:(fun W=>W.cell? ⟨w.heap.size,0,none⟩=some (.int .u8 op)∧W.cell? ⟨w.heap.size,1,none⟩=some (.int .i64 a)∧W.cell? ⟨w.heap.size,2,none⟩=some (.int .i64 b)∧W.cell? ⟨w.heap.size,3,none⟩=some (.int .i64 d)) (w.alloc (.cells #[.int .u8 op,.int .i64 a,.int .i64 b,.int .i64 d] 167)).drew:=by rw[←Hy0.out];exact Held.out _ (Below.refl _ y0).drew
 refine wp_region_S (fun W=>W.cell? ⟨w.heap.size,0,none⟩=some (.int .u8 op)∧W.cell? ⟨w.heap.size,1,none⟩=some (.int .i64 a)∧W.cell? ⟨w.heap.size,2,none⟩=some (.int .i64 b)∧W.cell? ⟨w.heap.size,3,none⟩=some (.int .i64 d)) 11 kz hHeld (fun hHeld=> ?_);refine TS 0 rfl hHeld ?_
 simp only[zP,zA,zB,zC];refine TS 1 rfl hHeld ?_
 simp only[zP,zA,zB,zC];refine TS 2 rfl hHeld ?_
 simp only[zP,zA,zB,zC];refine TS 3 rfl hHeld ?_
 simp only[zP,zA,zB,zC];refine TS 4 rfl hHeld ?_
 simp only[zP,zA,zB,zC];refine TS 5 rfl hHeld ?_
 simp only[zP,zA,zB,zC];refine TS 7 rfl hHeld ?_
 simp only[zP,zA,zB,zC];refine TS 8 rfl hHeld ?_
 simp only[zP,zA,zB,zC];refine wpAnyS_ready (rs:= [6,9]) kz (by simp) ?_;refine AllReadyS.cons rfl (fun K hK=> ?_) (AllReadyS.cons rfl (fun K hK=> ?_) AllReadyS.nil)
 ·go_simp
  rw[←Hy0.out];have hb1:Below y0.heap.size y0 (y0.drew.alloc (.cells #[.int .i64 a,.int .i64 b,.int .i64 d] 3)):=(Below.refl _ y0).drew.alloc (Nat.le_refl _) _;have hrow:Blk (y0.drew.alloc (.cells #[.int .i64 a,.int .i64 b,.int .i64 d] 3)) y0.heap.size 3 #[.int .i64 a,.int .i64 b,.int .i64 d]:=Blk.new y0.drew _ _;have Hb1:=lz hb1;have Hrow:=lz hrow;refine hK.out _ _ (fun _=>Held.out _ Hb1.out) ?_;clear hK hb1 hrow hHeld;refine RQ 9 rfl fun K hK=> ?_;go_simp;refine(Hop.out _ (HB0.out.trans (Hb1.out.mono HB0.out.size))).mono ?_;rintro e w2 ⟨rfl,hb2⟩;have Hb2:=lz (Hb1.out.trans (hb2.mono Hb1.out.size));have Hrow2:=lz (Hrow.out.below hb2 Hrow.out.lt);have hHeld:=Held.out _ Hb2.out;refine hK.out _ _ (fun _=>hHeld) ?_;clear hK hb2 Hb1 Hrow;refine TS 10 rfl hHeld ?_
  simp only[zP,zA,zB,zC];refine RQ 11 rfl fun K hK=> ?_;go_simp;refine hK.out _ _ (fun h=>absurd h (by decide)) ?_;clear hK hHeld;refine RQ 12 rfl fun K hK=> ?_;go_simp;refine hK.out _ _ (fun h=>absurd h (by decide)) ?_;clear hK;refine wpAnyS_done kz ?_ _;have hz:y0.heap.size<w2.heap.size:=Hrow2.out.lt;obtain⟨B,hB⟩:∃B,B=y0.heap.size:=⟨_,rfl⟩;have HZ:=HZ0.out;rw[←hB]at Hrow2 hz HZ;rw[←HZ];have HB2:=lz (HB0.out.trans (Hb2.out.mono HB0.out.size));have Hbx:=lz (Hb0.out.below Hb2.out Hb0.out.lt);clear Hb2 hB Hop Held HB0 Hy0 HZ;have c0:=Hrow2.out.cell 0;have c1:=Hrow2.out.cell 1;have c2:=Hrow2.out.cell 2;clear Hrow2;go_wp2_with fail;go_ret;exact⟨B,by rw[←Ht.out];rfl,HB2.out,hz,c0,c1,c2⟩
 ·go_simp
  rw[←Hy0.out];refine(Hop.out _ HB0.out.drew).mono ?_;rintro e w2 ⟨rfl,hb2⟩;have Hb2:=lz ((Below.refl y0.heap.size y0).drew.trans (hb2.mono (Nat.le_refl _)));have hHeld:=Held.out _ Hb2.out;refine hK.out _ _ (fun _=>hHeld) ?_;clear hK hb2;refine TS 10 rfl hHeld ?_
  simp only[zP,zA,zB,zC];refine RQ 6 rfl fun K hK=> ?_;go_simp;have Hrow2:=lz (Blk.new w2 3 #[.int .i64 a,.int .i64 b,.int .i64 d]);have Hb3:=lz (Hb2.out.alloc Hb2.out.size (.cells #[.int .i64 a,.int .i64 b,.int .i64 d] 3));have hz3:(w2.alloc (.cells #[.int .i64 a,.int .i64 b,.int .i64 d] 3)).heap.size=w2.heap.size+1:=by simp
  have hHeld:=Held.out _ Hb3.out;refine hK.out _ _ (fun _=>hHeld) ?_;clear hK;refine RQ 11 rfl fun K hK=> ?_;go_simp;refine hK.out _ _ (fun h=>absurd h (by decide)) ?_;clear hK hHeld;refine RQ 12 rfl fun K hK=> ?_;go_simp;refine hK.out _ _ (fun h=>absurd h (by decide)) ?_;clear hK;refine wpAnyS_done kz ?_ _;have HB2:=lz (HB0.out.trans (Hb3.out.mono HB0.out.size));have Hbx:=lz (Hb0.out.below Hb3.out Hb0.out.lt);obtain⟨B,hB⟩:∃B,B=w2.heap.size:=⟨_,rfl⟩;obtain⟨w3,hw3⟩:∃w3,w3=w2.alloc (.cells #[.int .i64 a,.int .i64 b,.int .i64 d] 3):=⟨_,rfl⟩;rw[←hw3,←hB]at Hrow2;rw[←hw3]at HB2 hz3 Hbx;rw[←hw3,←hB];rw[←hB]at hz3;have hz:B<w3.heap.size:=by omega
  clear Hb2 Hb3 Hop Held HB0 Hy0 hw3 hB hz3;have c0:=Hrow2.out.cell 0;have c1:=Hrow2.out.cell 1;have c2:=Hrow2.out.cell 2;clear Hrow2;go_wp2_with fail;go_ret;exact⟨B,by rw[←Ht.out];rfl,HB2.out,hz,c0,c1,c2⟩
def insP(x:InsV):Bool:=neS (insW x.op)&&(([x.a,x.b,x.d].take (insL x.op).size).all numP&&([x.a,x.b,x.d].drop (insL x.op).size).all (fun n=>decide (n=0)))
set_option maxHeartbeats 4000000 in
theorem ins_g(x:InsV)(w:World)(hL:LaidN w)(h0:0≤x.op∧x.op≤255):CU 230 #[x.val] w (.bool (insP x)):=by
 have hop:=fun W (hW:Below w.heap.size w W)=>operands_ins_c x.op W (hL.below hW) h0.1 h0.2
 have hk:=insL_size x.op;obtain⟨t,ht⟩:∃t,t=insL x.op:=⟨_,rfl⟩;rw[←ht]at hk;have hop:∀W,Below w.heap.size w W→CU 170 #[.int .u8 x.op] W (.string t):=by rw[ht];exact hop
 have Hop:=lz hop;have Ht:=lz ht;have HL:=lz hL;clear hop ht hL;obtain⟨op,a,b,d⟩:=x;dsimp only[InsV.val]at Hop Ht h0 ⊢;have hz0:(0:Int)≤(t.size:Int):=by omega
 have hz3:(t.size:Int)≤3:=by omega
 obtain⟨y0,hy0⟩:∃y0,y0=w.alloc (.cells #[.int .u8 op,.int .i64 a,.int .i64 b,.int .i64 d] 167):=⟨_,rfl⟩;have hB0:Below w.heap.size w y0:=by rw[hy0];exact(Below.refl _ _).alloc (Nat.le_refl _) _
 have hb0:Blk y0 w.heap.size 167 #[.int .u8 op,.int .i64 a,.int .i64 b,.int .i64 d]:=by rw[hy0];exact Blk.new w _ _
 have held:∀W,Below y0.heap.size y0 W→(fun W=>W.cell? ⟨w.heap.size,0,none⟩=some (.int .u8 op)∧W.cell? ⟨w.heap.size,1,none⟩=some (.int .i64 a)∧W.cell? ⟨w.heap.size,2,none⟩=some (.int .i64 b)∧W.cell? ⟨w.heap.size,3,none⟩=some (.int .i64 d)) W:=fun W hW=>
  have h:=hb0.below hW hb0.lt
  ⟨h.cell 0,h.cell 1,h.cell 2,h.cell 3⟩
 have Held:=lz held;have Hb0:=lz hb0;have HB0:=lz hB0;have Hy0:=lz hy0;have HZ0:=lz (show y0.heap.size=w.heap.size+1 by rw[hy0];simp);clear held hb0 hB0 hy0;go_enter Tryz.func230,Tryz.ntmps230;go_wp2_with fail;have hHeld:(fun W=>W.cell? ⟨w.heap.size,0,none⟩=some (.int .u8 op)∧W.cell? ⟨w.heap.size,1,none⟩=some (.int .i64 a)∧W.cell? ⟨w.heap.size,2,none⟩=some (.int .i64 b)∧W.cell? ⟨w.heap.size,3,none⟩=some (.int .i64 d)) (w.alloc (.cells #[.int .u8 op,.int .i64 a,.int .i64 b,.int .i64 d] 167)).drew:=by rw[←Hy0.out];exact Held.out _ (Below.refl _ y0).drew
 refine wp_region_S (fun W=>W.cell? ⟨w.heap.size,0,none⟩=some (.int .u8 op)∧W.cell? ⟨w.heap.size,1,none⟩=some (.int .i64 a)∧W.cell? ⟨w.heap.size,2,none⟩=some (.int .i64 b)∧W.cell? ⟨w.heap.size,3,none⟩=some (.int .i64 d)) 11 kz hHeld (fun hHeld=> ?_);refine TS 0 rfl hHeld ?_
 simp only[zP,zA,zB,zC];refine TS 1 rfl hHeld ?_
 simp only[zP,zA,zB,zC];refine TS 2 rfl hHeld ?_
 simp only[zP,zA,zB,zC];refine TS 3 rfl hHeld ?_
 simp only[zP,zA,zB,zC];refine TS 4 rfl hHeld ?_
 simp only[zP,zA,zB,zC];refine TS 5 rfl hHeld ?_
 simp only[zP,zA,zB,zC];refine TS 7 rfl hHeld ?_
 simp only[zP,zA,zB,zC];refine TS 8 rfl hHeld ?_
 simp only[zP,zA,zB,zC];refine wpAnyS_ready (rs:= [6,9]) kz (by simp) ?_;refine AllReadyS.cons rfl (fun K hK=> ?_) (AllReadyS.cons rfl (fun K hK=> ?_) AllReadyS.nil)
 ·go_simp
  rw[←Hy0.out];have hb1:Below y0.heap.size y0 (y0.drew.alloc (.cells #[.int .i64 a,.int .i64 b,.int .i64 d] 3)):=(Below.refl _ y0).drew.alloc (Nat.le_refl _) _;have hrow:Blk (y0.drew.alloc (.cells #[.int .i64 a,.int .i64 b,.int .i64 d] 3)) y0.heap.size 3 #[.int .i64 a,.int .i64 b,.int .i64 d]:=Blk.new y0.drew _ _;have Hb1:=lz hb1;have Hrow:=lz hrow;refine hK.out _ _ (fun _=>Held.out _ Hb1.out) ?_;clear hK hb1 hrow hHeld;refine RQ 9 rfl fun K hK=> ?_;go_simp;refine(Hop.out _ (HB0.out.trans (Hb1.out.mono HB0.out.size))).mono ?_;rintro e w2 ⟨rfl,hb2⟩;have Hb2:=lz (Hb1.out.trans (hb2.mono Hb1.out.size));have Hrow2:=lz (Hrow.out.below hb2 Hrow.out.lt);have hHeld:=Held.out _ Hb2.out;refine hK.out _ _ (fun _=>hHeld) ?_;clear hK hb2 Hb1 Hrow;refine TS 10 rfl hHeld ?_
  simp only[zP,zA,zB,zC];refine RQ 11 rfl fun K hK=> ?_;go_simp;refine hK.out _ _ (fun h=>absurd h (by decide)) ?_;clear hK hHeld;refine RQ 12 rfl fun K hK=> ?_;go_simp;refine hK.out _ _ (fun h=>absurd h (by decide)) ?_;clear hK;refine wpAnyS_done kz ?_ _;have hz:y0.heap.size<w2.heap.size:=Hrow2.out.lt;obtain⟨B,hB⟩:∃B,B=y0.heap.size:=⟨_,rfl⟩;have HZ:=HZ0.out;rw[←hB]at Hrow2 hz HZ;rw[←HZ];have HB2:=lz (HB0.out.trans (Hb2.out.mono HB0.out.size));have Hbx:=lz (Hb0.out.below Hb2.out Hb0.out.lt);clear Hb2 hB Hop Held HB0 Hy0 HZ;obtain⟨A,hA⟩:∃A,A=(if 3=t.size then some (⟨B,0,none⟩:Addr)else some ⟨B,t.size,none⟩):=⟨_,rfl⟩;rw[←hA];have hlen:([a,b,d].drop t.size).length=3-t.size:=by simp
  have hlen2:([a,b,d].take t.size).length=t.size:=by simp;omega
  have hrest:∀W,Below w2.heap.size w2 W→RdInt W W.heap.size A ([a,b,d].drop t.size):=fun W hW hn=>by
   have hk3:t.size<3:=by omega
   rw[hA,if_neg (by omega)];refine⟨B,t.size,rfl,Nat.lt_of_lt_of_le hz hW.size,fun i hi=> ?_⟩;rw[List.getElem_drop];have hb:=Hrow2.out.below hW hz;exact row3_at hb _ _
  have hfall:=fun W (hW:Below w2.heap.size w2 W)=>fall_Int 270 #[] (fun n=>decide (n=0)) (enters_of Tryz.func270 kz rfl) ([a,b,d].drop t.size) A (3-t.size) W (fun W' r hr hW'=>zeroF_c r W') (hrest W hW) (by omega)
  have hnum:=fun(B2:Nat) W (h0:W.cell? ⟨B2,0,none⟩=some (.int .i64 a)) (h1:W.cell? ⟨B2,1,none⟩=some (.int .i64 b)) (h2:W.cell? ⟨B2,2,none⟩=some (.int .i64 d)) (hB2:B2<W.heap.size)=>nums_g ([a,b,d].take t.size) (some ⟨B2,0,none⟩) 3 W (rdInt_row hB2 fun i hi=>by
   rw[List.getElem_take,Nat.zero_add];have hj:i<3:=by omega
   have hj3:i=0∨i=1∨i=2:=by omega
   rcases hj3 with rfl | rfl | rfl
   ·exact h0
   ·exact h1
   ·exact h2) (by omega)
  have hops:=fun W (hW:Below w.heap.size w W)=>operands_g ⟨op,a,b,d⟩ W (HL.out.below hW) h0
  have hwd:=word_ins_c op w2 (HL.out.below HB2.out) h0.1 h0.2;have HF:=lz (show insP ⟨op,a,b,d⟩=(neS (insW op)&&(([a,b,d].take t.size).all numP&&([a,b,d].drop t.size).all (fun n=>decide (n=0))))by rw[Ht.out];rfl);obtain⟨v1,hv1⟩:∃v,v=insW op:=⟨_,rfl⟩;obtain⟨q2,hq2⟩:∃q,q=([a,b,d].take t.size).all numP:=⟨_,rfl⟩;obtain⟨q3,hq3⟩:∃q,q=([a,b,d].drop t.size).all (fun n=>decide (n=0)):=⟨_,rfl⟩;rw[←hv1]at hwd HF;rw[←hq2]at hnum HF;rw[←hq3]at hfall HF;rw[hlen]at hfall;rw[hlen2]at hnum;have Hfall:=lz hfall;have Hnum:=lz hnum;have Hops:=lz hops;have Hwd:=lz hwd;have c0:=Hbx.out.cell 0;clear hfall hnum hops hwd hv1 hq2 hq3 hA hlen hlen2 hrest Hrow2;go_wp2_with fail;refine Hwd.out.mono ?_;rintro e w4 ⟨rfl,hb4⟩;have hbx4:=Hbx.out.below hb4 Hbx.out.lt;have H4:=lz hb4;have HB4:=lz (HB2.out.trans (hb4.mono HB2.out.size));have c0:=hbx4.cell 0;have c1:=hbx4.cell 1;have c2:=hbx4.cell 2;have c3:=hbx4.cell 3;clear hb4 hbx4 Hwd;by_cases hne:v1=⟨#[]⟩
  ·subst hne
   rw[show neS ⟨#[]⟩=false from by rfl]at HF;go_wp2_with fail;go_ret;exact⟨by rw[HF.out];rfl,HB4.out⟩
  ·have hnb:=neS_ne hne
   rw[show neS v1=true from decide_eq_true hne]at HF;clear hne;have Hop4:=lz (Hops.out w4 HB4.out);clear Hops;go_wp2_with fail;refine Hop4.out.mono ?_;rintro e w5 ⟨B2,rfl,hb5,hB5,d0,d1,d2⟩;dsimp only at d0 d1 d2;rw[←Ht.out];have Hn5:=lz (Hnum.out B2 w5 d0 d1 d2 hB5);have H5:=lz (H4.out.trans (hb5.mono H4.out.size));have HB5:=lz (HB4.out.trans (hb5.mono HB4.out.size));clear hb5 d0 d1 d2 Hnum Hop4 H4;go_wp2_with fail;refine Hn5.out.mono ?_;rintro e w6 ⟨rfl,hb6⟩;have HB6:=lz (HB5.out.trans (hb6.mono HB5.out.size));have Hf6:=lz (Hfall.out w6 (H5.out.trans (hb6.mono H5.out.size)));clear hb6 Hn5 H5 Hfall
   cases q2 with
   | false=>
    go_wp2_with fail;go_ret;exact⟨by rw[HF.out];rfl,HB6.out⟩
   | true=>
    go_wp2_with fail;refine Hf6.out.mono ?_;rintro e w7 ⟨rfl,hb7⟩;have HB7:=lz (HB6.out.trans (hb7.mono HB6.out.size));clear hb7;go_wp2_with fail;go_ret;exact⟨by rw[HF.out];rfl,HB7.out⟩
 ·go_simp
  rw[←Hy0.out];refine(Hop.out _ HB0.out.drew).mono ?_;rintro e w2 ⟨rfl,hb2⟩;have Hb2:=lz ((Below.refl y0.heap.size y0).drew.trans (hb2.mono (Nat.le_refl _)));have hHeld:=Held.out _ Hb2.out;refine hK.out _ _ (fun _=>hHeld) ?_;clear hK hb2;refine TS 10 rfl hHeld ?_
  simp only[zP,zA,zB,zC];refine RQ 6 rfl fun K hK=> ?_;go_simp;have Hrow2:=lz (Blk.new w2 3 #[.int .i64 a,.int .i64 b,.int .i64 d]);have Hb3:=lz (Hb2.out.alloc Hb2.out.size (.cells #[.int .i64 a,.int .i64 b,.int .i64 d] 3));have hz3:(w2.alloc (.cells #[.int .i64 a,.int .i64 b,.int .i64 d] 3)).heap.size=w2.heap.size+1:=by simp
  have hHeld:=Held.out _ Hb3.out;refine hK.out _ _ (fun _=>hHeld) ?_;clear hK;refine RQ 11 rfl fun K hK=> ?_;go_simp;refine hK.out _ _ (fun h=>absurd h (by decide)) ?_;clear hK hHeld;refine RQ 12 rfl fun K hK=> ?_;go_simp;refine hK.out _ _ (fun h=>absurd h (by decide)) ?_;clear hK;refine wpAnyS_done kz ?_ _;have HB2:=lz (HB0.out.trans (Hb3.out.mono HB0.out.size));have Hbx:=lz (Hb0.out.below Hb3.out Hb0.out.lt);obtain⟨B,hB⟩:∃B,B=w2.heap.size:=⟨_,rfl⟩;obtain⟨w3,hw3⟩:∃w3,w3=w2.alloc (.cells #[.int .i64 a,.int .i64 b,.int .i64 d] 3):=⟨_,rfl⟩;rw[←hw3,←hB]at Hrow2;rw[←hw3]at HB2 hz3 Hbx;rw[←hw3,←hB];rw[←hB]at hz3;have hz:B<w3.heap.size:=by omega
  clear Hb2 Hb3 Hop Held HB0 Hy0 hw3 hB hz3;obtain⟨A,hA⟩:∃A,A=(if 3=t.size then some (⟨B,0,none⟩:Addr)else some ⟨B,t.size,none⟩):=⟨_,rfl⟩;rw[←hA];have hlen:([a,b,d].drop t.size).length=3-t.size:=by simp
  have hlen2:([a,b,d].take t.size).length=t.size:=by simp;omega
  have hrest:∀W,Below w3.heap.size w3 W→RdInt W W.heap.size A ([a,b,d].drop t.size):=fun W hW hn=>by
   have hk3:t.size<3:=by omega
   rw[hA,if_neg (by omega)];refine⟨B,t.size,rfl,Nat.lt_of_lt_of_le hz hW.size,fun i hi=> ?_⟩;rw[List.getElem_drop];have hb:=Hrow2.out.below hW hz;exact row3_at hb _ _
  have hfall:=fun W (hW:Below w3.heap.size w3 W)=>fall_Int 270 #[] (fun n=>decide (n=0)) (enters_of Tryz.func270 kz rfl) ([a,b,d].drop t.size) A (3-t.size) W (fun W' r hr hW'=>zeroF_c r W') (hrest W hW) (by omega)
  have hnum:=fun(B2:Nat) W (h0:W.cell? ⟨B2,0,none⟩=some (.int .i64 a)) (h1:W.cell? ⟨B2,1,none⟩=some (.int .i64 b)) (h2:W.cell? ⟨B2,2,none⟩=some (.int .i64 d)) (hB2:B2<W.heap.size)=>nums_g ([a,b,d].take t.size) (some ⟨B2,0,none⟩) 3 W (rdInt_row hB2 fun i hi=>by
   rw[List.getElem_take,Nat.zero_add];have hj:i<3:=by omega
   have hj3:i=0∨i=1∨i=2:=by omega
   rcases hj3 with rfl | rfl | rfl
   ·exact h0
   ·exact h1
   ·exact h2) (by omega)
  have hops:=fun W (hW:Below w.heap.size w W)=>operands_g ⟨op,a,b,d⟩ W (HL.out.below hW) h0
  have hwd:=word_ins_c op w3 (HL.out.below HB2.out) h0.1 h0.2;have HF:=lz (show insP ⟨op,a,b,d⟩=(neS (insW op)&&(([a,b,d].take t.size).all numP&&([a,b,d].drop t.size).all (fun n=>decide (n=0))))by rw[Ht.out];rfl);obtain⟨v1,hv1⟩:∃v,v=insW op:=⟨_,rfl⟩;obtain⟨q2,hq2⟩:∃q,q=([a,b,d].take t.size).all numP:=⟨_,rfl⟩;obtain⟨q3,hq3⟩:∃q,q=([a,b,d].drop t.size).all (fun n=>decide (n=0)):=⟨_,rfl⟩;rw[←hv1]at hwd HF;rw[←hq2]at hnum HF;rw[←hq3]at hfall HF;rw[hlen]at hfall;rw[hlen2]at hnum;have Hfall:=lz hfall;have Hnum:=lz hnum;have Hops:=lz hops;have Hwd:=lz hwd;have c0:=Hbx.out.cell 0;clear hfall hnum hops hwd hv1 hq2 hq3 hA hlen hlen2 hrest Hrow2;go_wp2_with fail;refine Hwd.out.mono ?_;rintro e w4 ⟨rfl,hb4⟩;have hbx4:=Hbx.out.below hb4 Hbx.out.lt;have H4:=lz hb4;have HB4:=lz (HB2.out.trans (hb4.mono HB2.out.size));have c0:=hbx4.cell 0;have c1:=hbx4.cell 1;have c2:=hbx4.cell 2;have c3:=hbx4.cell 3;clear hb4 hbx4 Hwd;by_cases hne:v1=⟨#[]⟩
  ·subst hne
   rw[show neS ⟨#[]⟩=false from by rfl]at HF;go_wp2_with fail;go_ret;exact⟨by rw[HF.out];rfl,HB4.out⟩
  ·have hnb:=neS_ne hne
   rw[show neS v1=true from decide_eq_true hne]at HF;clear hne;have Hop4:=lz (Hops.out w4 HB4.out);clear Hops;go_wp2_with fail;refine Hop4.out.mono ?_;rintro e w5 ⟨B2,rfl,hb5,hB5,d0,d1,d2⟩;dsimp only at d0 d1 d2;rw[←Ht.out];have Hn5:=lz (Hnum.out B2 w5 d0 d1 d2 hB5);have H5:=lz (H4.out.trans (hb5.mono H4.out.size));have HB5:=lz (HB4.out.trans (hb5.mono HB4.out.size));clear hb5 d0 d1 d2 Hnum Hop4 H4;go_wp2_with fail;refine Hn5.out.mono ?_;rintro e w6 ⟨rfl,hb6⟩;have HB6:=lz (HB5.out.trans (hb6.mono HB5.out.size));have Hf6:=lz (Hfall.out w6 (H5.out.trans (hb6.mono H5.out.size)));clear hb6 Hn5 H5 Hfall
   cases q2 with
   | false=>
    go_wp2_with fail;go_ret;exact⟨by rw[HF.out];rfl,HB6.out⟩
   | true=>
    go_wp2_with fail;refine Hf6.out.mono ?_;rintro e w7 ⟨rfl,hb7⟩;have HB7:=lz (HB6.out.trans (hb7.mono HB6.out.size));clear hb7;go_wp2_with fail;go_ret;exact⟨by rw[HF.out];rfl,HB7.out⟩
theorem nums_row5(m0 m1 m2 m3 m4:Int)(W:World):Calls Tryz.prog 204 #[.slice (some ⟨W.heap.size,0,none⟩) 5 5] (W.alloc (.cells #[.int .i64 m0,.int .i64 m1,.int .i64 m2,.int .i64 m3,.int .i64 m4] 3)) fun e w'=>e= .returned (.bool ([m0,m1,m2,m3,m4].all numP))∧Below W.heap.size W w':=by
 refine(nums_g [m0,m1,m2,m3,m4] _ 5 (W.alloc (.cells #[.int .i64 m0,.int .i64 m1,.int .i64 m2,.int .i64 m3,.int .i64 m4] 3)) (rdInt_row (by simp) (fun i hi=>by
  have hi2:i=0∨i=1∨i=2∨i=3∨i=4:=by simp at hi;omega
  rw[Nat.zero_add];rcases hi2 with rfl | rfl | rfl | rfl | rfl<;>exact(Blk.new W _ _).cell _)) (by simp)).mono ?_
 rintro e w' ⟨rfl,hb⟩;exact⟨rfl,((Below.refl _ W).alloc (Nat.le_refl _) _).trans (hb.mono (by simp))⟩
def procP(x:ProcV):Bool:=(wordP x.nm)&&([x.pr,x.pe,x.li].all numP)&&(x.code.l.all insP)
theorem proc_g(x:ProcV)(w:World)(hL:LaidN w)(hr:x.rd w w.heap.size):CU 259 #[x.val] w (.bool (procP x)):=by
 obtain⟨y0,Hy0,HB0,Hf,HY0,HZ0,kk⟩:=box_hd w 80 #[.string x.nm,.int .i64 x.pr,.int .i64 x.pe,.int .i64 x.li,.slice x.code.a x.code.l.length x.code.c];obtain⟨k0,k1,k2,k3,k4⟩:=ProcV.kl kk;have HL:=lz hL;have HF:=lz (show procP x=((wordP x.nm)&&([x.pr,x.pe,x.li].all numP)&&(x.code.l.all insP))from rfl);have HR:=lz hr;clear kk hL hr;go_enter Tryz.func259,Tryz.ntmps259;go_wp2_with fail;rw[←Hy0.out];have hc:=lz (word_g x.nm y0 (HL.out.below (bt HB0 HY0)));generalize (wordP x.nm)=q0 at hc HF;refine callB hc HY0 fun y1 HY1=> ?_
 clear hc k0 k1 k2 k3 k4;obtain⟨k0,k1,k2,k3,k4⟩:=ProcV.kl (Hf.out _ HY1.out)
 cases q0 with
 | false=>exact e1
 | true=>
  go_wp2_with fail;have hc:=lz (nums_row3 x.pr x.pe x.li y1);generalize ([x.pr,x.pe,x.li].all numP)=q1 at hc HF;refine callB hc HY1 fun y2 HY2=> ?_
  clear hc k0 k1 k2 k3 k4;obtain⟨k0,k1,k2,k3,k4⟩:=ProcV.kl (Hf.out _ HY2.out)
  cases q1 with
  | false=>exact e2
  | true=>
   go_wp2_with fail;have hc:=lz (fall_Ins 230 #[] insP (enters_of Tryz.func230 kz rfl) x.code.l x.code.a x.code.c y2 (fun W r hx hW hrd=>by simpa using ins_g r W ((HL.out.below (bt HB0 HY2)).below hW) hrd.op0) ((HR.out.below (bt HB0 HY2)).code) (Nat.le_trans HR.out.code1 (Nat.le_trans HR.out.code2 (by decide))));generalize (x.code.l.all insP)=q2 at hc HF;refine callB hc HY2 fun y3 HY3=> ?_
   clear hc k0 k1 k2 k3 k4;obtain⟨k0,k1,k2,k3,k4⟩:=ProcV.kl (Hf.out _ HY3.out);exact e3
def partP(x:PartV):Bool:=(wordP x.nm)&&([x.pe,x.le,x.mem,x.ev,x.bo].all numP)&&(x.semas.l.all numP)&&(x.bufs.l.all numP)&&(x.ports.l.all portP)&&(x.procs.l.all procP)
theorem part_g(x:PartV)(w:World)(hL:LaidN w)(hr:x.rd w w.heap.size):CU 206 #[x.val] w (.bool (partP x)):=by
 obtain⟨y0,Hy0,HB0,Hf,HY0,HZ0,kk⟩:=box_hd w 75 #[.string x.nm,.int .i64 x.pe,.int .i64 x.le,.int .i64 x.mem,.slice x.semas.a x.semas.l.length x.semas.c,.int .i64 x.ev,.int .i64 x.bo,.slice x.bufs.a x.bufs.l.length x.bufs.c,.slice x.ports.a x.ports.l.length x.ports.c,.slice x.procs.a x.procs.l.length x.procs.c];obtain⟨k0,k1,k2,k3,k4,k5,k6,k7,k8,k9⟩:=PartV.kl kk;have HL:=lz hL;have HF:=lz (show partP x=((wordP x.nm)&&([x.pe,x.le,x.mem,x.ev,x.bo].all numP)&&(x.semas.l.all numP)&&(x.bufs.l.all numP)&&(x.ports.l.all portP)&&(x.procs.l.all procP))from rfl);have HR:=lz hr;clear kk hL hr;go_enter Tryz.func206,Tryz.ntmps206;go_wp2_with fail;rw[←Hy0.out];have hc:=lz (word_g x.nm y0 (HL.out.below (bt HB0 HY0)));generalize (wordP x.nm)=q0 at hc HF;refine callB hc HY0 fun y1 HY1=> ?_
 clear hc k0 k1 k2 k3 k4 k5 k6 k7 k8 k9;obtain⟨k0,k1,k2,k3,k4,k5,k6,k7,k8,k9⟩:=PartV.kl (Hf.out _ HY1.out)
 cases q0 with
 | false=>exact e1
 | true=>
  go_wp2_with fail;have hc:=lz (nums_row5 x.pe x.le x.mem x.ev x.bo y1);generalize ([x.pe,x.le,x.mem,x.ev,x.bo].all numP)=q1 at hc HF;refine callB hc HY1 fun y2 HY2=> ?_
  clear hc k0 k1 k2 k3 k4 k5 k6 k7 k8 k9;obtain⟨k0,k1,k2,k3,k4,k5,k6,k7,k8,k9⟩:=PartV.kl (Hf.out _ HY2.out)
  cases q1 with
  | false=>exact e2
  | true=>
   go_wp2_with fail;have hc:=lz (nums_g x.semas.l x.semas.a x.semas.c y2 ((HR.out.below (bt HB0 HY2)).semas) (Nat.le_trans HR.out.semas1 (Nat.le_trans HR.out.semas2 (by decide))));generalize (x.semas.l.all numP)=q2 at hc HF;refine callB hc HY2 fun y3 HY3=> ?_
   clear hc k0 k1 k2 k3 k4 k5 k6 k7 k8 k9;obtain⟨k0,k1,k2,k3,k4,k5,k6,k7,k8,k9⟩:=PartV.kl (Hf.out _ HY3.out)
   cases q2 with
   | false=>exact e3
   | true=>
    go_wp2_with fail;have hc:=lz (nums_g x.bufs.l x.bufs.a x.bufs.c y3 ((HR.out.below (bt HB0 HY3)).bufs) (Nat.le_trans HR.out.bufs1 (Nat.le_trans HR.out.bufs2 (by decide))));generalize (x.bufs.l.all numP)=q3 at hc HF;refine callB hc HY3 fun y4 HY4=> ?_
    clear hc k0 k1 k2 k3 k4 k5 k6 k7 k8 k9;obtain⟨k0,k1,k2,k3,k4,k5,k6,k7,k8,k9⟩:=PartV.kl (Hf.out _ HY4.out)
    cases q3 with
    | false=>exact e4
    | true=>
     go_wp2_with fail;have hc:=lz (fall_Port 257 #[] portP (enters_of Tryz.func257 kz rfl) x.ports.l x.ports.a x.ports.c y4 (fun W r hx hW hrd=>by simpa using port_g r W ((HL.out.below (bt HB0 HY4)).below hW) hrd) ((HR.out.below (bt HB0 HY4)).ports) (Nat.le_trans HR.out.ports1 (Nat.le_trans HR.out.ports2 (by decide))));generalize (x.ports.l.all portP)=q4 at hc HF;refine callB hc HY4 fun y5 HY5=> ?_
     clear hc k0 k1 k2 k3 k4 k5 k6 k7 k8 k9;obtain⟨k0,k1,k2,k3,k4,k5,k6,k7,k8,k9⟩:=PartV.kl (Hf.out _ HY5.out)
     cases q4 with
     | false=>exact e5
     | true=>
      go_wp2_with fail;have hc:=lz (fall_Proc 259 #[] procP (enters_of Tryz.func259 kz rfl) x.procs.l x.procs.a x.procs.c y5 (fun W r hx hW hrd=>by simpa using proc_g r W ((HL.out.below (bt HB0 HY5)).below hW) hrd) ((HR.out.below (bt HB0 HY5)).procs) (Nat.le_trans HR.out.procs1 (Nat.le_trans HR.out.procs2 (by decide))));generalize (x.procs.l.all procP)=q5 at hc HF;refine callB hc HY5 fun y6 HY6=> ?_
      clear hc k0 k1 k2 k3 k4 k5 k6 k7 k8 k9;obtain⟨k0,k1,k2,k3,k4,k5,k6,k7,k8,k9⟩:=PartV.kl (Hf.out _ HY6.out);exact e6
def modP(x:ModV):Bool:=(wordP x.nm)&&([x.mem,x.fr].all numP)&&(x.parts.l.all partP)
theorem module_g(x:ModV)(w:World)(hL:LaidN w)(hr:x.rd w w.heap.size):CU 120 #[x.val] w (.bool (modP x)):=by
 obtain⟨y0,Hy0,HB0,Hf,HY0,HZ0,kk⟩:=box_hd w 70 #[.string x.nm,.int .i64 x.mem,.int .i64 x.fr,.slice x.parts.a x.parts.l.length x.parts.c];obtain⟨k0,k1,k2,k3⟩:=ModV.kl kk;have HL:=lz hL;have HF:=lz (show modP x=((wordP x.nm)&&([x.mem,x.fr].all numP)&&(x.parts.l.all partP))from rfl);have HR:=lz hr;clear kk hL hr;go_enter Tryz.func120,Tryz.ntmps120;go_wp2_with fail;rw[←Hy0.out];have hc:=lz (word_g x.nm y0 (HL.out.below (bt HB0 HY0)));generalize (wordP x.nm)=q0 at hc HF;refine callB hc HY0 fun y1 HY1=> ?_
 clear hc k0 k1 k2 k3;obtain⟨k0,k1,k2,k3⟩:=ModV.kl (Hf.out _ HY1.out)
 cases q0 with
 | false=>exact e1
 | true=>
  go_wp2_with fail;have hc:=lz (nums_row2 x.mem x.fr y1);generalize ([x.mem,x.fr].all numP)=q1 at hc HF;refine callB hc HY1 fun y2 HY2=> ?_
  clear hc k0 k1 k2 k3;obtain⟨k0,k1,k2,k3⟩:=ModV.kl (Hf.out _ HY2.out)
  cases q1 with
  | false=>exact e2
  | true=>
   go_wp2_with fail;have hc:=lz (fall_Part 206 #[] partP (enters_of Tryz.func206 kz rfl) x.parts.l x.parts.a x.parts.c y2 (fun W r hx hW hrd=>by simpa using part_g r W ((HL.out.below (bt HB0 HY2)).below hW) hrd) ((HR.out.below (bt HB0 HY2)).parts) (Nat.le_trans HR.out.parts1 (Nat.le_trans HR.out.parts2 (by decide))));generalize (x.parts.l.all partP)=q2 at hc HF;refine callB hc HY2 fun y3 HY3=> ?_
   clear hc k0 k1 k2 k3;obtain⟨k0,k1,k2,k3⟩:=ModV.kl (Hf.out _ HY3.out);exact e3
def validP(x:CfgV):Bool:=(x.mods.l.all modP)&&(x.chans.l.all chanP)&&(x.sws.l.all nodeP)&&(x.links.l.all linkP)&&(x.vls.l.all vlP)&&(x.hea.l.all healthP)&&(x.causes.l.all causeP)&&(x.vers.l.all vsnP)
theorem valid_g(x:CfgV)(w:World)(hL:LaidN w)(hr:x.rd w w.heap.size)(hx:∀r∈x.causes.l,r.x.n≤8796093021952):CU 46 #[x.val] w (.bool (validP x)):=by
 obtain⟨y0,Hy0,HB0,Hf,HY0,HZ0,kk⟩:=box_hd w 31 #[.slice x.mods.a x.mods.l.length x.mods.c,.slice x.chans.a x.chans.l.length x.chans.c,.slice x.sws.a x.sws.l.length x.sws.c,.slice x.links.a x.links.l.length x.links.c,.slice x.vls.a x.vls.l.length x.vls.c,.slice x.hea.a x.hea.l.length x.hea.c,.slice x.causes.a x.causes.l.length x.causes.c,.slice x.vers.a x.vers.l.length x.vers.c];obtain⟨k0,k1,k2,k3,k4,k5,k6,k7⟩:=CfgV.kl kk;have HL:=lz hL;have HF:=lz (show validP x=((x.mods.l.all modP)&&(x.chans.l.all chanP)&&(x.sws.l.all nodeP)&&(x.links.l.all linkP)&&(x.vls.l.all vlP)&&(x.hea.l.all healthP)&&(x.causes.l.all causeP)&&(x.vers.l.all vsnP))from rfl);have HR:=lz hr;have HX:=lz hx;clear kk hL hr hx;go_enter Tryz.func46,Tryz.ntmps46;go_wp2_with fail;rw[←Hy0.out];have hc:=lz (fall_Module 120 #[] modP (enters_of Tryz.func120 kz rfl) x.mods.l x.mods.a x.mods.c y0 (fun W r hx hW hrd=>by simpa using module_g r W ((HL.out.below (bt HB0 HY0)).below hW) hrd) ((HR.out.below (bt HB0 HY0)).mods) (Nat.le_trans HR.out.mods1 (Nat.le_trans HR.out.mods2 (by decide))));generalize (x.mods.l.all modP)=q0 at hc HF;refine callB hc HY0 fun y1 HY1=> ?_
 clear hc k0 k1 k2 k3 k4 k5 k6 k7;obtain⟨k0,k1,k2,k3,k4,k5,k6,k7⟩:=CfgV.kl (Hf.out _ HY1.out)
 cases q0 with
 | false=>exact e1
 | true=>
  go_wp2_with fail;have hc:=lz (fall_Channel 122 #[] chanP (enters_of Tryz.func122 kz rfl) x.chans.l x.chans.a x.chans.c y1 (fun W r hx hW hrd=>by simpa using chan_g r W ((HL.out.below (bt HB0 HY1)).below hW) hrd) ((HR.out.below (bt HB0 HY1)).chans) (Nat.le_trans HR.out.chans1 (Nat.le_trans HR.out.chans2 (by decide))));generalize (x.chans.l.all chanP)=q1 at hc HF;refine callB hc HY1 fun y2 HY2=> ?_
  clear hc k0 k1 k2 k3 k4 k5 k6 k7;obtain⟨k0,k1,k2,k3,k4,k5,k6,k7⟩:=CfgV.kl (Hf.out _ HY2.out)
  cases q1 with
  | false=>exact e2
  | true=>
   go_wp2_with fail;have hc:=lz (fall_Switch 124 #[] nodeP (enters_of Tryz.func124 kz rfl) x.sws.l x.sws.a x.sws.c y2 (fun W r hx hW=>by simpa using node_g r W ((HL.out.below (bt HB0 HY2)).below hW)) ((HR.out.below (bt HB0 HY2)).sws) (Nat.le_trans HR.out.sws1 (Nat.le_trans HR.out.sws2 (by decide))));generalize (x.sws.l.all nodeP)=q2 at hc HF;refine callB hc HY2 fun y3 HY3=> ?_
   clear hc k0 k1 k2 k3 k4 k5 k6 k7;obtain⟨k0,k1,k2,k3,k4,k5,k6,k7⟩:=CfgV.kl (Hf.out _ HY3.out)
   cases q2 with
   | false=>exact e3
   | true=>
    go_wp2_with fail;have hc:=lz (fall_Link 126 #[] linkP (enters_of Tryz.func126 kz rfl) x.links.l x.links.a x.links.c y3 (fun W r hx hW=>by simpa using link_g r W ((HL.out.below (bt HB0 HY3)).below hW)) ((HR.out.below (bt HB0 HY3)).links) (Nat.le_trans HR.out.links1 (Nat.le_trans HR.out.links2 (by decide))));generalize (x.links.l.all linkP)=q3 at hc HF;refine callB hc HY3 fun y4 HY4=> ?_
    clear hc k0 k1 k2 k3 k4 k5 k6 k7;obtain⟨k0,k1,k2,k3,k4,k5,k6,k7⟩:=CfgV.kl (Hf.out _ HY4.out)
    cases q3 with
    | false=>exact e4
    | true=>
     go_wp2_with fail;have hc:=lz (fall_VL 128 #[] vlP (enters_of Tryz.func128 kz rfl) x.vls.l x.vls.a x.vls.c y4 (fun W r hx hW hrd=>by simpa using vl_g r W ((HL.out.below (bt HB0 HY4)).below hW) hrd) ((HR.out.below (bt HB0 HY4)).vls) (Nat.le_trans HR.out.vls1 (Nat.le_trans HR.out.vls2 (by decide))));generalize (x.vls.l.all vlP)=q4 at hc HF;refine callB hc HY4 fun y5 HY5=> ?_
     clear hc k0 k1 k2 k3 k4 k5 k6 k7;obtain⟨k0,k1,k2,k3,k4,k5,k6,k7⟩:=CfgV.kl (Hf.out _ HY5.out)
     cases q4 with
     | false=>exact e5
     | true=>
      go_wp2_with fail;have hc:=lz (fall_Health 130 #[] healthP (enters_of Tryz.func130 kz rfl) x.hea.l x.hea.a x.hea.c y5 (fun W r hx hW hrd=>by simpa using health_g r W ((HL.out.below (bt HB0 HY5)).below hW) hrd) ((HR.out.below (bt HB0 HY5)).hea) (Nat.le_trans HR.out.hea1 (Nat.le_trans HR.out.hea2 (by decide))));generalize (x.hea.l.all healthP)=q5 at hc HF;refine callB hc HY5 fun y6 HY6=> ?_
      clear hc k0 k1 k2 k3 k4 k5 k6 k7;obtain⟨k0,k1,k2,k3,k4,k5,k6,k7⟩:=CfgV.kl (Hf.out _ HY6.out)
      cases q5 with
      | false=>exact e6
      | true=>
       go_wp2_with fail;have hc:=lz (all_162 132 #[] causeP (enters_of Tryz.func132 kz rfl) x.causes.l x.causes.a x.causes.c y6 (fun W r hx hW hrd=>by simpa using cause_g r W ((HL.out.below (bt HB0 HY6)).below hW) hrd (HX.out r hx)) ((HR.out.below (bt HB0 HY6)).causes) (Nat.le_trans HR.out.causes1 (Nat.le_trans HR.out.causes2 (by decide))));generalize (x.causes.l.all causeP)=q6 at hc HF;refine callB hc HY6 fun y7 HY7=> ?_
       clear hc k0 k1 k2 k3 k4 k5 k6 k7;obtain⟨k0,k1,k2,k3,k4,k5,k6,k7⟩:=CfgV.kl (Hf.out _ HY7.out)
       cases q6 with
       | false=>exact e7
       | true=>
        go_wp2_with fail;have hc:=lz (fall_Version 134 #[] vsnP (enters_of Tryz.func134 kz rfl) x.vers.l x.vers.a x.vers.c y7 (fun W r hx hW=>by simpa using vsn_g r W ((HL.out.below (bt HB0 HY7)).below hW)) ((HR.out.below (bt HB0 HY7)).vers) (Nat.le_trans HR.out.vers1 (Nat.le_trans HR.out.vers2 (by decide))));generalize (x.vers.l.all vsnP)=q7 at hc HF;refine callB hc HY7 fun y8 HY8=> ?_
        clear hc k0 k1 k2 k3 k4 k5 k6 k7;obtain⟨k0,k1,k2,k3,k4,k5,k6,k7⟩:=CfgV.kl (Hf.out _ HY8.out);exact e8
end Go.Proofs.YtchfcgilpjkmhaaGreatDoor
