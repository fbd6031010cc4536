import Derived.Test.YtchfcgilpjkmhaaGreatDoorY39
import Derived.Test.YtchfcgilpjkmhaaGreatDoorY0
import Derived.Test.YtchfcgilpjkmhaaGreatDoorY1
set_option maxRecDepth 100000
set_option linter.unusedSimpArgs false
set_option linter.unusedVariables false
set_option linter.unusedSectionVars false
namespace Go.Proofs.YtchfcgilpjkmhaaGreatDoor
open Go.ChangeShapes Go.WideShapes Go.ChangeAt Go.RowKit
attribute [local go_sem] Oper.semAt_some
open Go.Act renaming put → zP
open List renaming setIfInBounds_toArray → zA, set_cons_zero → zB, set_cons_succ → zC
theorem anyNeed{L:List CsV}(h:csOf L=exL):(L.any fun x=>needB rX x.c)=true∧(L.any fun x=>needB rY x.c)=true:=by
 obtain⟨n0,s0,n1,s1,n2,s2,rfl⟩:=parts3 h;exact⟨by kernel_rfl,by kernel_rfl⟩
theorem ne_map{w:World}{g mb:Nat}{t:TypeId}{cs:Array Value}{l:List Rep}(hg:Blk w g t cs)(hm:CntMap KR w mb l):g≠mb:=by
 rintro rfl;obtain⟨es,clock,ho⟩:=hm.obj;unfold Blk at hg;rw[hg]at ho
 cases ho
theorem cells_of{w w':World}{mb:Nat}{l l':List Rep}(hm:CntMap KR w mb l)(hm':CntMap KR w' mb l')(hg:w.grownBy w' (some mb)):∀b o,b<w.heap.size→w'.cell? ⟨b,o,none⟩=w.cell? ⟨b,o,none⟩:=by
 intro b o hb;by_cases e:b=mb
 ·subst e
  obtain⟨es,clock,ho⟩:=hm.obj;obtain⟨es',clock',ho'⟩:=hm'.obj;simp[World.cell?,ho,ho']
 ·have:=hg.block b hb (by simp[e])
  simp[World.cell?,this]
theorem below_of{w w':World}{B mb:Nat}(hg:w.grownBy w' (some mb))(hB:B≤mb)(hs:B≤w.heap.size):Below B w w':=
 ⟨hg.os,hg.tape,hg.output,hg.size,fun k hk=>hg.block k (by omega) (fun e=>by cases e;omega)⟩
theorem verBelow{w w':World}{A:Option Addr}{l:List VerV}(h:RdVer w w.heap.size A l)(hb:Below w.heap.size w w'):RdVer w' w'.heap.size A l:=fun hn=>by
 obtain⟨b,o,rfl,hB,hc⟩:=h hn;exact⟨b,o,rfl,Nat.lt_of_lt_of_le hB hb.size,fun i hi=>⟨(bcell hb b _ hB).trans (hc i hi).1,(bcell hb b _ hB).trans (hc i hi).2.1,(bcell hb b _ hB).trans (hc i hi).2.2.1,(hc i hi).2.2.2.1,(hc i hi).2.2.2.2.below hb⟩⟩
theorem verCells{w:World}{B:Nat}{A:Option Addr}{vs:List VerV}(h:RdVer w B A vs)(hd:vs.map VerV.d= [⟨sZ,1,[rX]⟩,⟨sW,2,[rY]⟩]):
 ∃b o,A=some ⟨b,o,none⟩∧b<B∧w.cell? ⟨b,o,none⟩=some (.string ⟨#[122]⟩)∧w.cell? ⟨b,o+1,none⟩=some (.int .i64 1)∧w.cell? ⟨b,o+3,none⟩=some (.string ⟨#[119]⟩)∧w.cell? ⟨b,o+4,none⟩=some (.int .i64 2)∧
  ∃sa sc,w.cell? ⟨b,o+2,none⟩=some (.slice sa 1 sc)∧RdRep w B sa [rX]:=by
 match vs,hd with
 | [⟨d0,s0⟩,⟨d1,s1⟩],hd=>
  simp only[List.map_cons,List.map_nil,List.cons.injEq,and_true]at hd;obtain⟨rfl,rfl⟩:=hd;obtain⟨b,o,rfl,hb,hc⟩:=h (by simp);have h0:=hc 0 (by simp);have h1:=hc 1 (by simp);simp at h0 h1;obtain⟨p0,p1,p2,p3,p4⟩:=h0;refine⟨b,o,rfl,hb,p0,p1,h1.1,h1.2.1,s0.a,s0.c,?_,p4⟩;rw[p2,p3]
theorem sameEq(a:List ByteArray)(A1:Option Addr)(n c1 c2:Nat)(w:World)(ha:RdStr w w.heap.size A1 a)(hn:a.length=n)(hl:a.length≤100000):
 CU 18 #[.slice A1 n c1,.slice (some ⟨w.heap.size,0,none⟩) n c2] (w.alloc (.cells (a.map Value.string).toArray 9)) (.bool true):=by
 have:=sameTexts_c a a A1 (some ⟨w.heap.size,0,none⟩) c1 c2 (w.alloc (.cells (a.map Value.string).toArray 9)) (ha.below ((Below.refl _ _).alloc (Nat.le_refl _) _)) (rdStr_new w a) hl;rw[eqL_true rfl,hn]at this;exact this
theorem sameEq2(a:List ByteArray)(A1 A2:Option Addr)(n c1 c2:Nat)(w:World)(ha:RdStr w w.heap.size A1 a)(hb:RdStr w w.heap.size A2 a)(hn:a.length=n)(hl:a.length≤100000):
 CU 18 #[.slice A1 n c1,.slice A2 n c2] w (.bool true):=by
 have:=sameTexts_c a a A1 A2 c1 c2 w ha hb hl;rw[eqL_true rfl,hn]at this;exact this
theorem sameRepEq(a:List Rep)(A1:Option Addr)(n c1 c2:Nat)(w:World)(ha:RdRep w w.heap.size A1 a)(hn:a.length=n)(hl:a.length≤100000):
 CU 19 #[.slice A1 n c1,.slice (some ⟨w.heap.size,0,none⟩) n c2] (w.alloc (.cells (a.flatMap Rep.cells).toArray 41)) (.bool true):=by
 have:=sameReports_c a a A1 (some ⟨w.heap.size,0,none⟩) c1 c2 (w.alloc (.cells (a.flatMap Rep.cells).toArray 41)) (ha.below ((Below.refl _ _).alloc (Nat.le_refl _) _)) (rdRep_new w a) hl;rw[eqL_true rfl,hn]at this;exact this
theorem below_cell{w w':World}{p:Addr}{v:Value}(h:Below w.heap.size w w')(hc:w.cell? p=some v):w'.cell? p=some v:=(h.cell (World.block_lt_of_cell? _ _ hc)).trans hc
set_option maxHeartbeats 80000000 in
theorem awake_c(w:World)(hLN:LaidN w):CU 4 #[] w (.bool true):=by
 have HLN:=lz hLN;clear hLN;go_enter Tryz.func4,Tryz.ntmps4;go_wp2_with fail;refine(example_c w).mono ?_;rintro e w1 ⟨rfl,hr1,hb1⟩;obtain⟨L,hLd⟩:∃L,L=exV w.heap.size:=⟨_,rfl⟩;rw[←hLd]at hr1;have hcs:csOf L=exL:=by rw[hLd];rfl
 have hl3:=lenOf hcs;obtain⟨A,hA⟩:∃A:Option Addr,A=some ⟨w.heap.size+7,0,none⟩:=⟨_,rfl⟩;rw[←hA]at hr1 ⊢;obtain⟨w2,hw2⟩:∃w2,w2=((w1.alloc (.cells #[.string ⟨#[120]⟩,.int .i64 1] 41)).alloc (.cells #[.string ⟨#[121]⟩,.int .i64 2] 41)).alloc (.cells #[.string ⟨#[113]⟩,.int .i64 7] 41):=⟨_,rfl⟩;have hB2:Below w1.heap.size w1 w2:=by rw[hw2];exact(((Below.refl _ w1).alloc (Nat.le_refl _) _).alloc (by simp) _).alloc (by simp;omega) _
 have hx:Blk w2 w1.heap.size 41 #[.string ⟨#[120]⟩,.int .i64 1]:=by rw[hw2];exact((Blk.new w1 _ _).alloc _).alloc _
 have hy:Blk w2 (w1.heap.size+1) 41 #[.string ⟨#[121]⟩,.int .i64 2]:=by rw[hw2];exact(blk_at' (w1.alloc (.cells #[.string ⟨#[120]⟩,.int .i64 1] 41)) (w1.heap.size+1) 41 _ (by simp)).alloc _
 have hq:Blk w2 (w1.heap.size+2) 41 #[.string ⟨#[113]⟩,.int .i64 7]:=by rw[hw2];exact blk_at' ((w1.alloc (.cells #[.string ⟨#[120]⟩,.int .i64 1] 41)).alloc (.cells #[.string ⟨#[121]⟩,.int .i64 2] 41)) (w1.heap.size+2) 41 _ (by simp)
 have Hcs:=lz hcs;have HX:=lz hx;have HY:=lz hy;have HQ:=lz hq;have HR:=lz (hr1.below hB2);have HB:=lz (hb1.trans (hB2.mono hb1.size));have Hw2:=lz hw2;clear hLd hcs hl3 hA hw2 hB2 hx hy hq hr1 hb1;go_wp2_with fail;rw[←Hw2.out];refine(orderEx Hcs.out A 3 w2 HR.out).mono ?_;rintro e w3 ⟨hb3,Ao,co,rfl,hro⟩;have H3:=lz hb3;have RO:=lz hro;clear hb3 hro Hw2;have x0:=(HX.out.below H3.out HX.out.lt).cell 0;have x1:=(HX.out.below H3.out HX.out.lt).cell 1;have y0:=(HY.out.below H3.out HY.out.lt).cell 0;have y1:=(HY.out.below H3.out HY.out.lt).cell 1;have hz4:=H3.out.size;have Hac:=lz (accEx Hcs.out A 3 [rX,rY] [sZ,sW] exAcc2 (some ⟨w3.heap.size,0,none⟩) 2 (w3.alloc (.cells #[.string ⟨#[120]⟩,.int .i64 1,.string ⟨#[121]⟩,.int .i64 2] 41)) ((HR.out.below H3.out).below ((Below.refl _ _).alloc (Nat.le_refl _) _)) (rdRep_new w3 [rX,rY]) (by intro r hr;simp at hr;first | (rcases hr with rfl | rfl;exact rOk.1;exact rOk.2.1) | (subst hr;first | exact rOk.1 | exact rOk.2.1)) (by decide));go_wp2_with fail;refine Hac.out.mono ?_;rintro e w4 ⟨hb,Ab,cb,rfl,hr⟩;have S4:=lz (((Below.refl _ w3).alloc (Nat.le_refl _) (.cells #[.string ⟨#[120]⟩,.int .i64 1,.string ⟨#[121]⟩,.int .i64 2] 41)).trans (hb.mono (by simp)));have H4:=lz (H3.out.trans (S4.out.mono H3.out.size));have RB:=lz hr;clear hb hr Hac x0 x1 y0 y1;have y0:=(HY.out.below H4.out HY.out.lt).cell 0;have y1:=(HY.out.below H4.out HY.out.lt).cell 1;have hz5:=H4.out.size;have Hac:=lz (accEx Hcs.out A 3 [rY] [sW] exAccY (some ⟨w4.heap.size,0,none⟩) 1 (w4.alloc (.cells #[.string ⟨#[121]⟩,.int .i64 2] 41)) ((HR.out.below H4.out).below ((Below.refl _ _).alloc (Nat.le_refl _) _)) (rdRep_new w4 [rY]) (by intro r hr;simp at hr;first | (rcases hr with rfl | rfl;exact rOk.1;exact rOk.2.1) | (subst hr;first | exact rOk.1 | exact rOk.2.1)) (by decide));go_wp2_with fail;refine Hac.out.mono ?_;rintro e w5 ⟨hb,Ac,cc,rfl,hr⟩;have S5:=lz (((Below.refl _ w4).alloc (Nat.le_refl _) (.cells #[.string ⟨#[121]⟩,.int .i64 2] 41)).trans (hb.mono (by simp)));have H5:=lz (H4.out.trans (S5.out.mono H4.out.size));have RC:=lz hr;clear hb hr Hac y0 y1;have x0:=(HX.out.below H5.out HX.out.lt).cell 0;have x1:=(HX.out.below H5.out HX.out.lt).cell 1;have hz6:=H5.out.size;have Hac:=lz (accEx Hcs.out A 3 [rX] [sZ] exAccX (some ⟨w5.heap.size,0,none⟩) 1 (w5.alloc (.cells #[.string ⟨#[120]⟩,.int .i64 1] 41)) ((HR.out.below H5.out).below ((Below.refl _ _).alloc (Nat.le_refl _) _)) (rdRep_new w5 [rX]) (by intro r hr;simp at hr;first | (rcases hr with rfl | rfl;exact rOk.1;exact rOk.2.1) | (subst hr;first | exact rOk.1 | exact rOk.2.1)) (by decide));go_wp2_with fail;refine Hac.out.mono ?_;rintro e w6 ⟨hb,Ad,cd,rfl,hr⟩;have S6:=lz (((Below.refl _ w5).alloc (Nat.le_refl _) (.cells #[.string ⟨#[120]⟩,.int .i64 1] 41)).trans (hb.mono (by simp)));have H6:=lz (H5.out.trans (S6.out.mono H5.out.size));have RD:=lz hr;clear hb hr Hac x0 x1;have x0:=(HX.out.below H6.out HX.out.lt).cell 0;have x1:=(HX.out.below H6.out HX.out.lt).cell 1;have y0:=(HY.out.below H6.out HY.out.lt).cell 0;have y1:=(HY.out.below H6.out HY.out.lt).cell 1;have hve:=Verdicts_c L [rX,rY] A 3 (some ⟨w6.heap.size,0,none⟩) 2 (w6.alloc (.cells #[.string ⟨#[120]⟩,.int .i64 1,.string ⟨#[121]⟩,.int .i64 2] 41)) ((HR.out.below H6.out).below ((Below.refl _ _).alloc (Nat.le_refl _) _)) (okOf Hcs.out) (by rw[lenOf Hcs.out];omega) (fun x hx=>by have:=(smallOf Hcs.out x hx).1;omega) (rdRep_new w6 [rX,rY]) (by intro r hr;simp at hr;rcases hr with rfl | rfl;exact rOk.1;exact rOk.2.1) (by decide);rw[lenOf Hcs.out,Hcs.out,if_pos exOk,verEx Hcs.out]at hve;have Hve:=lz hve;clear hve;go_wp2_with fail;refine Hve.out.mono ?_;rintro e w7 ⟨Av,cv,vs,rfl,hrv,hvs,hb⟩;have S7:=lz (((Below.refl _ w6).alloc (Nat.le_refl _) (.cells #[.string ⟨#[120]⟩,.int .i64 1,.string ⟨#[121]⟩,.int .i64 2] 41)).trans (hb.mono (by simp)));have H7:=lz (H6.out.trans (S7.out.mono H6.out.size));have RV:=lz hrv;have Hvs:=lz hvs;have hvl:vs.length=2:=by have:=congrArg List.length hvs;simpa using this
 rw[hvl];have Hvl:=lz hvl;clear hb hrv hvs hvl Hve x0 x1 y0 y1;have x0:=(HX.out.below H7.out HX.out.lt).cell 0;have x1:=(HX.out.below H7.out HX.out.lt).cell 1;have y0:=(HY.out.below H7.out HY.out.lt).cell 0;have y1:=(HY.out.below H7.out HY.out.lt).cell 1;have q0:=(HQ.out.below H7.out HQ.out.lt).cell 0;have q1:=(HQ.out.below H7.out HQ.out.lt).cell 1;have hop:=Open_c L [rX,rY,rQ] A 3 (some ⟨w7.heap.size,0,none⟩) 3 (w7.alloc (.cells #[.string ⟨#[120]⟩,.int .i64 1,.string ⟨#[121]⟩,.int .i64 2,.string ⟨#[113]⟩,.int .i64 7] 41)) ((HR.out.below H7.out).below ((Below.refl _ _).alloc (Nat.le_refl _) _)) (okOf Hcs.out) (by rw[lenOf Hcs.out];omega) (fun x hx=>by have:=(smallOf Hcs.out x hx).1;omega) (rdRep_new w7 [rX,rY,rQ]) (by intro r hr;simp at hr;rcases hr with rfl | rfl | rfl;exact rOk.1;exact rOk.2.1;exact rOk.2.2) (by decide);rw[lenOf Hcs.out]at hop;have Hop:=lz hop;clear hop;go_wp2_with fail;refine Hop.out.mono ?_;rintro e w8 ⟨Ap,cp,l,rfl,hrp,hnd,_,hmem,hb⟩;have hlq:=openEx Hcs.out l hnd hmem;subst hlq;rw[Hcs.out,if_pos exOk];have S8:=lz (((Below.refl _ w7).alloc (Nat.le_refl _) (.cells #[.string ⟨#[120]⟩,.int .i64 1,.string ⟨#[121]⟩,.int .i64 2,.string ⟨#[113]⟩,.int .i64 7] 41)).trans (hb.mono (by simp)));have H8:=lz (H7.out.trans (S8.out.mono H7.out.size));have RP:=lz hrp;clear hb hrp hnd hmem Hop x0 x1 y0 y1 q0 q1;go_wp2_with fail;refine(read_c w8).mono ?_;rintro e w9 ⟨Ae,ce,L2,rfl,hcs2,hl2,hrd2,hb,hce⟩;have S9:=lz hb;have H9:=lz (H8.out.trans (S9.out.mono H8.out.size));have Hcs2:=lz hcs2;have hnw:=New_c L2 (.slice none 0 0) (.slice none 0 0) (.slice none 0 0) (.slice none 0 0) (.slice none 0 0) (.slice none 0 0) (.slice none 0 0) Ae ce w9 hrd2 (by rw[hl2];omega) (fun x hx=>by have:=(smallOf hcs2 x hx).1;omega) (fun x hx=>by have:=(smallOf hcs2 x hx).2;omega) (fun W hW=>checkEx Ae L2 ce W hcs2 (hrd2.below hW) hce (((HLN.out.below HB.out).below H9.out).below hW));rw[hl2]at hnw;have Hnw:=lz hnw;clear hnw hb hcs2 hl2 hrd2;go_wp2_with fail;refine Hnw.out.mono ?_;rintro e w10 ⟨g,mb,Ag,cg,L3,rfl,hg,hrd3,hcs3,hmp,hmb,hgg,hb⟩;obtain⟨hl3,hc3⟩:L3.length=3∧csOf L3=exL:=⟨lenOf (hcs3.trans Hcs2.out),hcs3.trans Hcs2.out⟩;have h10:=H9.out.trans (hb.mono H9.out.size);have hz2:=H9.out.size;have hlt:=HQ.out.lt;have hx:=HX.out.below h10 HX.out.lt;have hy:=HY.out.below h10 HY.out.lt;have hq:=HQ.out.below h10 HQ.out.lt;have ro:=(((((((RO.out.below S4.out).below S5.out).below S6.out).below S7.out).below S8.out).below S9.out).below hb);have rb:=((((((RB.out.below S5.out).below S6.out).below S7.out).below S8.out).below S9.out).below hb);have rc:=(((((RC.out.below S6.out).below S7.out).below S8.out).below S9.out).below hb);have rd:=((((RD.out.below S7.out).below S8.out).below S9.out).below hb);obtain⟨bv,ov,ve,v0,v1,v2,v3,v4,sa,sc,v5,v6⟩:=verCells (verBelow (verBelow (verBelow RV.out S8.out) S9.out) hb) Hvs.out;have rp:=((RP.out.below S9.out).below hb);have hgne:g≠mb:=ne_map hg hmp;have h2b:=H9.out.trans (hb.mono H9.out.size);have hmge:w2.heap.size≤mb:=by omega
 clear S4 S5 S6 S7 S8 S9 RO RB RC RD RV RP H3 H4 H5 H6 H7 H8 H9 HX HY HQ HR Hcs Hvs;have x0:=hx.cell 0;have x1:=hx.cell 1;have hnl:∀x∈L3,x.c.needs.length≤1000:=fun x hx=>by have:=(smallOf hc3 x hx).1;omega
 have hr1:=report_c L3 [] rX g mb Ag cg w10 hg hrd3 (by omega) hnl hmp rOk.1 (by decide) (anyNeed hc3).1;clear hb hgg hmb Hcs2 Hnw;have V1:=lz v1;have V2:=lz v2;have V3:=lz v3;have V4:=lz v4;have V5:=lz v5;have V6:=lz v6;have V0:=lz v0;have RO:=lz ro;have RB:=lz rb;have RC:=lz rc;have RD:=lz rd;have RP:=lz rp;have HR:=lz hrd3;have HM:=lz hmp;have HG:=lz hg;have HX:=lz hx;have HY:=lz hy;have HQ:=lz hq;have R1:=lz hr1;have hxl:w1.heap.size≠mb∧w1.heap.size+1≠mb∧w1.heap.size+2≠mb:=by omega
 subst ve;clear v0 v1 v2 v3 v4 v5 v6 ro rb rc rd rp hrd3 hmp hg hx hy hq hr1 h10;go_wp2_with fail;refine R1.out.mono ?_;rintro e w11 ⟨rfl,hm1,hg1⟩;have hm1:CntMap KR w11 mb [rX]:=hm1;have c1:=cells_of HM.out hm1 hg1;have R2:=lz (report_c L3 [rX] rY g mb Ag cg w11 (HG.out.grown hg1 (by simp[hgne])) (HR.out.to_ hg1.size c1) (by omega) hnl hm1 rOk.2.1 (by decide) (anyNeed hc3).2);have y0:=(HY.out.grown hg1 (by simp[hxl.2.1])).cell 0;have y1:=(HY.out.grown hg1 (by simp[hxl.2.1])).cell 1;have G1:=lz hg1;clear hm1 c1 x0 x1 R1 hg1;go_wp2_with fail;refine R2.out.mono ?_;rintro e w12 ⟨rfl,hm2,hg2⟩;have hm2:CntMap KR w12 mb [rX,rY]:=hm2;have g2:=only_grow G1.out hg2 (by intro r hr;left;cases hr;rfl);have c2:=cells_of HM.out hm2 g2;have r3:=replace_yes L3 [rX,rY] sZ g mb Ag cg w12 (HG.out.grown g2 (by simp[hgne])) (HR.out.to_ g2.size c2) (okOf hc3) (by omega) hnl hm2 (by rw[hc3];exact exOk) (by decide) (by rw[hc3,exAcc2];kernel_rfl);rw[hc3,exAcc2,explZ hc3,show(List.foldl addU [] [rX]).length=1 from by kernel_rfl,show restR [rX,rY] [rX]= [rY]from by kernel_rfl]at r3;have R3:=lz r3;have G2:=lz g2;clear r3 hm2 hg2 g2 c2 R2 G1 y0 y1;go_wp2_with fail;refine R3.out.mono ?_;rintro e w13 ⟨rfl,hm3,hg3⟩;have g3:=only_grow G2.out hg3 (by intro r hr;left;cases hr;rfl);have c3:=cells_of HM.out hm3 g3;have R4:=lz (replace_none L3 [rY] sU g mb Ag cg w13 (HG.out.grown g3 (by simp[hgne])) (HR.out.to_ g3.size c3) (okOf hc3) (by omega) hm3 (by rw[hc3];exact exOk) (by decide) (by rw[hc3,exAccY];kernel_rfl));have M3:=lz hm3;have G3:=lz g3;clear hm3 hg3 g3 c3 R3 G2;go_wp2_with fail;refine R4.out.mono ?_;rintro e w14 ⟨rfl,hb4⟩;have hm4:=M3.out.next hb4
 have g4:=only_grow G3.out (row:=none) ⟨hb4.os,hb4.tape,hb4.output,hb4.size,fun k hk _=>hb4.block k hk⟩ (by intro r hr;cases hr);have c4:=cells_of HM.out hm4 g4;have hb5:Below w.heap.size w w14:=(HB.out.trans (h2b.mono HB.out.size)).trans (below_of g4 (by have:=HB.out.size;omega) (by have:=HB.out.size;have:=h2b.size;omega));have d5:=deskAcc_c L3 [rY] g mb Ag cg;have D5:=fun W (hW:Below w14.heap.size w14 W)=>d5 W ((HG.out.grown g4 (by simp[hgne])).below hW (HG.out.grown g4 (by simp[hgne])).lt) ((HR.out.to_ g4.size c4).below hW) (okOf hc3) (by omega) (hm4.next hW) (by rw[hc3];exact exOk)
 simp only[hc3,exAccY,hl3]at D5;have QO:=lz (RO.out.to_ g4.size c4);have QB:=lz (RB.out.to_ g4.size c4);have QC:=lz (RC.out.to_ g4.size c4);have QD:=lz (RD.out.to_ g4.size c4);have QP:=lz (RP.out.to_ g4.size c4);have QV:=lz (V6.out.to_ g4.size c4);have v1:=(c4 _ _ V0.out).trans V1.out;have v2:=(c4 _ _ V0.out).trans V2.out;have v3:=(c4 _ _ V0.out).trans V3.out;have v4:=(c4 _ _ V0.out).trans V4.out;have v5:=(c4 _ _ V0.out).trans V5.out;have hx:=HX.out.grown g4 (by simp[hxl.1]);have hq:=HQ.out.grown g4 (by simp[hxl.2.2]);have x0:=hx.cell 0;have x1:=hx.cell 1;have q0:=hq.cell 0;have q1:=hq.cell 1;have DD5:=lz D5;have HB5:=lz hb5;have CE:Hid _:=lz (And.intro v1 (And.intro v2 (And.intro v5 (And.intro v3 (And.intro v4 (And.intro x0 (And.intro x1 (And.intro q0 q1))))))));clear D5 v1 v2 v3 v4 v5 hx hq x0 x1 q0 q1 hb5 d5 c4 g4 hm4 hb4 G3 M3 R4 hm1 hm2 hnl hmge h2b hgne hz2 hl3 hc3 hcs3 hz4 hz5 hz6 V0 V1 V2 V3 V4 V5 V6 RO RB RC RD RP HR HM HG HX HY HQ HB Hvl;go_wp2_with fail;refine wp_region_S (fun W'=>Below w14.heap.size w14 W') 79 kz (Below.refl _ _).drew (fun hHeld=> ?_);generalize w14.drew=z at hHeld ⊢;refine TA 0 rfl hHeld ?_
 simp only[zP,zA,zB,zC];refine RQ 1 rfl fun K hK=> ?_;go_simp;refine hK.out _ _ (fun _=>hHeld.alloc hHeld.size _) ?_;clear hK K;try simp only[zP,zA,zB,zC]
 refine RQ 2 rfl fun K hK=> ?_;go_simp;refine(sameEq [sZ,sU,sW] _ _ _ _ z (QO.out.below hHeld) rfl (by simp)).mono ?_;rintro e y1 ⟨rfl,hy1⟩;have B1:=(hHeld.alloc hHeld.size _).trans (hy1.mono ((hHeld.alloc hHeld.size _)).size);refine hK.out _ _ (fun _=>B1) ?_;clear hK K;try simp only[zP,zA,zB,zC]
 refine TA 3 rfl B1 ?_
 simp only[zP,zA,zB,zC];refine TA 4 rfl B1 ?_
 simp only[zP,zA,zB,zC];refine RQ 5 rfl fun K hK=> ?_;go_simp;refine hK.out _ _ (fun _=>B1.alloc B1.size _) ?_;clear hK K;try simp only[zP,zA,zB,zC]
 refine RQ 6 rfl fun K hK=> ?_;go_simp;refine(sameEq [sZ,sW] _ _ _ _ y1 (QB.out.below B1) rfl (by simp)).mono ?_;rintro e y2 ⟨rfl,hy2⟩;have B2:=(B1.alloc B1.size _).trans (hy2.mono ((B1.alloc B1.size _)).size);refine hK.out _ _ (fun _=>B2) ?_;clear hK K;try simp only[zP,zA,zB,zC]
 refine TA 7 rfl B2 ?_
 simp only[zP,zA,zB,zC];refine TA 8 rfl B2 ?_
 simp only[zP,zA,zB,zC];refine TA 9 rfl B2 ?_
 simp only[zP,zA,zB,zC];refine RQ 10 rfl fun K hK=> ?_;go_simp;refine hK.out _ _ (fun _=>B2.alloc B2.size _) ?_;clear hK K;try simp only[zP,zA,zB,zC]
 refine RQ 11 rfl fun K hK=> ?_;go_simp;refine(sameEq [sW] _ _ _ _ y2 (QC.out.below B2) rfl (by simp)).mono ?_;rintro e y3 ⟨rfl,hy3⟩;have B3:=(B2.alloc B2.size _).trans (hy3.mono ((B2.alloc B2.size _)).size);refine hK.out _ _ (fun _=>B3) ?_;clear hK K;try simp only[zP,zA,zB,zC]
 refine TA 12 rfl B3 ?_
 simp only[zP,zA,zB,zC];refine TA 13 rfl B3 ?_
 simp only[zP,zA,zB,zC];refine TA 14 rfl B3 ?_
 simp only[zP,zA,zB,zC];refine RQ 15 rfl fun K hK=> ?_;go_simp;refine hK.out _ _ (fun _=>B3.alloc B3.size _) ?_;clear hK K;try simp only[zP,zA,zB,zC]
 refine RQ 16 rfl fun K hK=> ?_;go_simp;refine(sameEq [sZ] _ _ _ _ y3 (QD.out.below B3) rfl (by simp)).mono ?_;rintro e y4 ⟨rfl,hy4⟩;have B4:=(B3.alloc B3.size _).trans (hy4.mono ((B3.alloc B3.size _)).size);refine hK.out _ _ (fun _=>B4) ?_;clear hK K;try simp only[zP,zA,zB,zC]
 refine TA 17 rfl B4 ?_
 simp only[zP,zA,zB,zC];refine TA 18 rfl B4 ?_
 simp only[zP,zA,zB,zC];refine TA 19 rfl B4 ?_
 simp only[zP,zA,zB,zC];refine TA 20 rfl B4 ?_
 simp only[zP,zA,zB,zC];refine TA 21 rfl B4 ?_
 simp only[zP,zA,zB,zC];refine wpAnyS_take (i:=22) (v:= ?_) rfl az az az az (fun c a w h=>h) (Or.inl ⟨by as_aux_lemma=>kernel_rfl,?_⟩) B4 ?_;rotate_left
 ·intro w hSw
  have hc0:=below_cell hSw CE.out.1;exact gz
 simp only[zP,zA,zB,zC];refine TA 23 rfl B4 ?_
 simp only[zP,zA,zB,zC];refine TA 24 rfl B4 ?_
 simp only[zP,zA,zB,zC];refine TA 25 rfl B4 ?_
 simp only[zP,zA,zB,zC];refine TA 26 rfl B4 ?_
 simp only[zP,zA,zB,zC];refine TA 27 rfl B4 ?_
 simp only[zP,zA,zB,zC];refine TA 28 rfl B4 ?_
 simp only[zP,zA,zB,zC];refine wpAnyS_take (i:=29) (v:= ?_) rfl az az az az (fun c a w h=>h) (Or.inl ⟨by as_aux_lemma=>kernel_rfl,?_⟩) B4 ?_;rotate_left
 ·intro w hSw
  have hc0:=below_cell hSw CE.out.2.1;exact gz
 simp only[zP,zA,zB,zC];refine TA 30 rfl B4 ?_
 simp only[zP,zA,zB,zC];refine TA 31 rfl B4 ?_
 simp only[zP,zA,zB,zC];refine TA 32 rfl B4 ?_
 simp only[zP,zA,zB,zC];refine TA 33 rfl B4 ?_
 simp only[zP,zA,zB,zC];refine TA 34 rfl B4 ?_
 simp only[zP,zA,zB,zC];refine TA 35 rfl B4 ?_
 simp only[zP,zA,zB,zC];refine wpAnyS_take (i:=36) (v:= ?_) rfl az az az az (fun c a w h=>h) (Or.inl ⟨by as_aux_lemma=>kernel_rfl,?_⟩) B4 ?_;rotate_left
 ·intro w hSw
  have hc0:=below_cell hSw CE.out.2.2.1;exact gz
 simp only[zP,zA,zB,zC];refine wpAnyS_take (i:=37) (v:= ?_) rfl az az az az (fun c a w h=>h) (Or.inl ⟨by as_aux_lemma=>kernel_rfl,?_⟩) B4 ?_;rotate_left
 ·intro w hSw
  have hc0:=below_cell hSw CE.out.2.2.2.2.2.1;have hc1:=below_cell hSw CE.out.2.2.2.2.2.2.1;exact gz
 simp only[zP,zA,zB,zC];refine RQ 38 rfl fun K hK=> ?_;go_simp;refine hK.out _ _ (fun _=>B4.alloc B4.size _) ?_;clear hK K;try simp only[zP,zA,zB,zC]
 refine RQ 39 rfl fun K hK=> ?_;go_simp;refine(sameRepEq [rX] _ _ _ _ y4 (QV.out.below B4) rfl (by simp)).mono ?_;rintro e y5 ⟨rfl,hy5⟩;have B5:=(B4.alloc B4.size _).trans (hy5.mono ((B4.alloc B4.size _)).size);refine hK.out _ _ (fun _=>B5) ?_;clear hK K;try simp only[zP,zA,zB,zC]
 refine TA 40 rfl B5 ?_
 simp only[zP,zA,zB,zC];refine TA 41 rfl B5 ?_
 simp only[zP,zA,zB,zC];refine TA 42 rfl B5 ?_
 simp only[zP,zA,zB,zC];refine TA 43 rfl B5 ?_
 simp only[zP,zA,zB,zC];refine TA 44 rfl B5 ?_
 simp only[zP,zA,zB,zC];refine wpAnyS_take (i:=45) (v:= ?_) rfl az az az az (fun c a w h=>h) (Or.inl ⟨by as_aux_lemma=>kernel_rfl,?_⟩) B5 ?_;rotate_left
 ·intro w hSw
  have hc0:=below_cell hSw CE.out.2.2.2.1;exact gz
 simp only[zP,zA,zB,zC];refine TA 46 rfl B5 ?_
 simp only[zP,zA,zB,zC];refine TA 47 rfl B5 ?_
 simp only[zP,zA,zB,zC];refine TA 48 rfl B5 ?_
 simp only[zP,zA,zB,zC];refine TA 49 rfl B5 ?_
 simp only[zP,zA,zB,zC];refine TA 50 rfl B5 ?_
 simp only[zP,zA,zB,zC];refine TA 51 rfl B5 ?_
 simp only[zP,zA,zB,zC];refine wpAnyS_take (i:=52) (v:= ?_) rfl az az az az (fun c a w h=>h) (Or.inl ⟨by as_aux_lemma=>kernel_rfl,?_⟩) B5 ?_;rotate_left
 ·intro w hSw
  have hc0:=below_cell hSw CE.out.2.2.2.2.1;exact gz
 simp only[zP,zA,zB,zC];refine TA 53 rfl B5 ?_
 simp only[zP,zA,zB,zC];refine TA 54 rfl B5 ?_
 simp only[zP,zA,zB,zC];refine TA 55 rfl B5 ?_
 simp only[zP,zA,zB,zC];refine TA 56 rfl B5 ?_
 simp only[zP,zA,zB,zC];refine wpAnyS_take (i:=57) (v:= ?_) rfl az az az az (fun c a w h=>h) (Or.inl ⟨by as_aux_lemma=>kernel_rfl,?_⟩) B5 ?_;rotate_left
 ·intro w hSw
  have hc0:=below_cell hSw CE.out.2.2.2.2.2.2.2.1;have hc1:=below_cell hSw CE.out.2.2.2.2.2.2.2.2;exact gz
 simp only[zP,zA,zB,zC];refine RQ 58 rfl fun K hK=> ?_;go_simp;refine hK.out _ _ (fun _=>B5.alloc B5.size _) ?_;clear hK K;try simp only[zP,zA,zB,zC]
 refine RQ 59 rfl fun K hK=> ?_;go_simp;refine(sameRepEq [rQ] _ _ _ _ y5 (QP.out.below B5) rfl (by simp)).mono ?_;rintro e y6 ⟨rfl,hy6⟩;have B6:=(B5.alloc B5.size _).trans (hy6.mono ((B5.alloc B5.size _)).size);refine hK.out _ _ (fun _=>B6) ?_;clear hK K;try simp only[zP,zA,zB,zC]
 refine TA 60 rfl B6 ?_
 simp only[zP,zA,zB,zC];refine TA 61 rfl B6 ?_
 simp only[zP,zA,zB,zC];refine TA 62 rfl B6 ?_
 simp only[zP,zA,zB,zC];refine TA 63 rfl B6 ?_
 simp only[zP,zA,zB,zC];refine TA 64 rfl B6 ?_
 simp only[zP,zA,zB,zC];refine TA 65 rfl B6 ?_
 simp only[zP,zA,zB,zC];refine TA 66 rfl B6 ?_
 simp only[zP,zA,zB,zC];refine TA 67 rfl B6 ?_
 simp only[zP,zA,zB,zC];refine TA 68 rfl B6 ?_
 simp only[zP,zA,zB,zC];refine TA 69 rfl B6 ?_
 simp only[zP,zA,zB,zC];refine TA 70 rfl B6 ?_
 simp only[zP,zA,zB,zC];refine TA 71 rfl B6 ?_
 simp only[zP,zA,zB,zC];refine TA 72 rfl B6 ?_
 simp only[zP,zA,zB,zC];refine TA 73 rfl B6 ?_
 simp only[zP,zA,zB,zC];refine TA 74 rfl B6 ?_
 simp only[zP,zA,zB,zC];refine wpAnyS_ready (rs:= [75,76]) az (by simp) ?_;refine AllReadyS.cons rfl (fun K hK=> ?_) (AllReadyS.cons rfl (fun K hK=> ?_) AllReadyS.nil)
 ·go_simp
  refine(DD5.out _ (B6)).mono ?_;rintro e y7 ⟨A7,c7,rfl,hr7,hy7⟩;have B7:=(B6).trans (hy7.mono (B6).size);refine hK.out _ _ (fun _=>B7) ?_;clear hK K;try simp only[zP,zA,zB,zC]
  refine RQ 76 rfl fun K hK=> ?_;go_simp;refine hK.out _ _ (fun _=>B7.alloc B7.size _) ?_;clear hK K;try simp only[zP,zA,zB,zC]
  refine RQ 77 rfl fun K hK=> ?_;go_simp;refine(sameEq [sW] _ _ _ _ y7 hr7 rfl (by simp)).mono ?_;rintro e y8 ⟨rfl,hy8⟩;have B8:=(B7.alloc B7.size _).trans (hy8.mono ((B7.alloc B7.size _)).size);refine hK.out _ _ (fun _=>B8) ?_;clear hK K;try simp only[zP,zA,zB,zC]
  refine TA 78 rfl B8 ?_
  simp only[zP,zA,zB,zC];refine RQ 79 rfl fun K hK=> ?_;go_simp;refine hK.out _ _ (fun h=>absurd h (by decide)) ?_;clear hK K;try simp only[zP,zA,zB,zC]
  refine wpAnyS_done az ?_ _;go_wp2_with fail;go_ret;exact⟨rfl,HB5.out.trans (B8.mono HB5.out.size)⟩
 ·go_simp
  refine hK.out _ _ (fun _=>B6.alloc B6.size _) ?_;clear hK K;try simp only[zP,zA,zB,zC]
  refine RQ 75 rfl fun K hK=> ?_;go_simp;refine(DD5.out _ (B6.alloc B6.size _)).mono ?_;rintro e y7 ⟨A7,c7,rfl,hr7,hy7⟩;have B7:=(B6.alloc B6.size _).trans (hy7.mono (B6.alloc B6.size _).size);refine hK.out _ _ (fun _=>B7) ?_;clear hK K;try simp only[zP,zA,zB,zC]
  refine RQ 77 rfl fun K hK=> ?_;go_simp;refine(sameEq2 [sW] _ _ _ _ _ y7 hr7 ((rdStr_new y6 [sW]).below hy7) rfl (by simp)).mono ?_;rintro e y8 ⟨rfl,hy8⟩;have B8:=B7.trans (hy8.mono (B7).size);refine hK.out _ _ (fun _=>B8) ?_;clear hK K;try simp only[zP,zA,zB,zC]
  refine TA 78 rfl B8 ?_
  simp only[zP,zA,zB,zC];refine RQ 79 rfl fun K hK=> ?_;go_simp;refine hK.out _ _ (fun h=>absurd h (by decide)) ?_;clear hK K;try simp only[zP,zA,zB,zC]
  refine wpAnyS_done az ?_ _;go_wp2_with fail;go_ret;exact⟨rfl,HB5.out.trans (B8.mono HB5.out.size)⟩
end Go.Proofs.YtchfcgilpjkmhaaGreatDoor
