import Derived.Test.YtmdgooofdmpcjaaGreatDoorY6
set_option maxRecDepth 100000
set_option maxHeartbeats 8000000
set_option linter.unusedSimpArgs false
set_option linter.unusedVariables false
set_option linter.unusedSectionVars false
open Go.Proofs.Tryz renaming prog → pG
open Bool renaming and_eq_true->BW,false->Bj,true->BR
open List renaming cons_append->GQ,filterMap_append->EV,filterMap_cons->EY,filterMap_nil->E7,flatMap_append->Ig,getElem_mem->CS,map_append->JO,mem_append->E2,mem_cons->BU,mem_cons_of_mem->EX,mem_cons_self->BS,mem_map->GR,take_length->GS,take_succ_eq_append_getElem->Dl
open Nat renaming lt_of_lt_of_le->EU,zero_add->E9
open Option renaming none->Ag,some->Ai
open Go.Proofs.Tryz
namespace Go.Proofs.YtmdgooofdmpcjaaGreatDoor
open Go renaming Addr->EK,Calls->ET,TypeId->E3,Value->Bn,World->Al,bodyPost_ret->GJ,maxLen->EW,wpList_append_own->G9
open World renaming size_alloc->Dj
section
open Go.ChangeShapes Go.WideShapes Go.ChangeAt Go.RowKit
attribute [local go_sem] Oper.semAt_some
open Go.Act renaming put → zP
open List renaming setIfInBounds_toArray → zA, set_cons_zero → zB, set_cons_succ → zC
section
variable {g:Nat} {A:Option EK} {c:Nat} {ts:List Tok} {now:Nat} {sz:Int}
theorem aHE(x:aC)(w:Al)(h:gM w g A c ts now sz)(hl:ts.length<=100000)(ha:Ry ts now x=BR)(hL:x.aq.l.length<=1000):
 ET pG 260 #[.pointer (Ai ⟨g,0,Ag⟩)] w λe w'=>∃A' c',e= .returned (.agg (ZU x.nm x.pe x.le x.mem (.slice A' x.aq.l.length c')))/\
  w'.ownsRow w.heap.size 73 6 (.slice A' x.aq.l.length c') x.aq.l.length (x.aq.l.flatMap aM.cells)/\gM w' g A c ts (now+9+8*x.aq.l.length) sz/\Gr (· =g) w w':=by
 unfold Ry at ha;simp only[BW]at ha;obtain⟨⟨⟨⟨⟨⟨⟨⟨⟨a1,a2⟩,a3⟩,a4⟩,a5⟩,a6⟩,a7⟩,a8⟩,a9⟩,Qf⟩:=ha;obtain⟨nm,pe,le,mem,aG,ev,bo,aX,⟨Ap,cp,L⟩,procs⟩:=x;dsimp only at a1 a2 a3 a4 a5 a6 a7 a8 a9 Qf hL ⊢;have hat:=Rx a9;obtain⟨w0,hw⟩:=ez (w.alloc (.cells #[.string ⟨#[]⟩,.int .i64 0,.int .i64 0,.int .i64 0,.slice Ag 0 0,.int .i64 0,.int .i64 0,.slice Ag 0 0,.slice Ag 0 0,.slice Ag 0 0] 71));have hw0:Below w.heap.size w w0:=by rw[hw];exact bN
 have jy:ah w0 w.heap.size 71 #[.string ⟨#[]⟩,.int .i64 0,.int .i64 0,.int .i64 0,.slice Ag 0 0,.int .i64 0,.int .i64 0,.slice Ag 0 0,.slice Ag 0 0,.slice Ag 0 0]:=by rw[hw];exact ah.new w _ _
 have h1:=lz (kV nm w0 (h.below hw0) hl a1);have rT:=lz jy;have aV:=lz hw0;have Mc:=lz hw;have hlt:=h.lt;have HA:=lz (ai a2 (ai a3 (ai a4 (ai a5 (ai a6 (ai a7 (ai a8 Qf)))))));have Vw:=lz hat;obtain⟨i0,lX,hz0,hz1,hz2⟩:=info_parts aHD;clear h a1 a2 a3 a4 a5 a6 a7 a8 a9 Qf hw hw0 jy hat;go_enter func260,ntmps260;go_wp2_with fail;rw[<-Mc.out];refine h1.out.mono ?_;rintro e w1 ⟨rfl,PK,sK⟩;obtain⟨y,hy⟩:=ez (w1.alloc (.cells #[.string nm,.int .i64 0,.int .i64 0,.int .i64 0,.slice Ag 0 0,.int .i64 0,.int .i64 0,.slice Ag 0 0,.slice Ag 0 0,.slice Ag 0 0] 71));have hS:eW w g w1.heap.size A c ts sz 71 #[.string ⟨#[]⟩,.int .i64 0,.int .i64 0,.int .i64 0,.slice Ag 0 0,.int .i64 0,.int .i64 0,.slice Ag 0 0,.slice Ag 0 0,.slice Ag 0 0] #[.string nm,.int .i64 0,.int .i64 0,.int .i64 0,.slice Ag 0 0,.int .i64 0,.int .i64 0,.slice Ag 0 0,.slice Ag 0 0,.slice Ag 0 0] (now+1) y:=by
  have hB:Below w1.heap.size w1 y:=by rw[hy];exact bN
  have hs:w.heap.size<w1.heap.size:=EU rT.out.lt sK.size;exact⟨PK.below hB,((Gr.ak aV.out).trans sK).trans (Gr.ak hB),hlt,(sK.blk rT.out oz).below hB hs,by rw[hy];exact ah.new w1 _ _,hs⟩
 have HS:=lz hS;have Hy:=lz hy;clear hS PK sK h1 hy rT aV Mc;go_wp2_with fail;rw[<-Hy.out];refine jD HS (gY _ pe _ HS.out.eX hl HA.out.1 HA.out.2.1) λW2 sC=> ?_
 have k2:W2.cell? ⟨w1.heap.size,1,Ag⟩=Ai (.int .i64 0):=(eW.kb sC).1 1;have f2:W2.frozen? ⟨w1.heap.size,1,Ag⟩=false:=(eW.kb sC).2 1;clear HS Hy;go_wp2_with fail;have wg:=lz (sC.out.put 1 (.int .i64 pe));refine jD wg (gY _ le _ wg.out.eX hl HA.out.2.2.1 HA.out.2.2.2.1) λW3 pP=> ?_
 clear k2 f2 sC wg;have k3:W3.cell? ⟨w1.heap.size,2,Ag⟩=Ai (.int .i64 0):=(eW.kb pP).1 2;have f3:W3.frozen? ⟨w1.heap.size,2,Ag⟩=false:=(eW.kb pP).2 2;go_wp2_with fail;have wh:=lz (pP.out.put 2 (.int .i64 le));refine jD wh (gY _ mem _ wh.out.eX hl HA.out.2.2.2.2.1 HA.out.2.2.2.2.2.1) λW4 sD=> ?_
 clear k3 f3 pP wh;have k4:W4.cell? ⟨w1.heap.size,3,Ag⟩=Ai (.int .i64 0):=(eW.kb sD).1 3;have f4:W4.frozen? ⟨w1.heap.size,3,Ag⟩=false:=(eW.kb sD).2 3;go_wp2_with fail;have Fo:=lz (sD.out.put 3 (.int .i64 mem));refine qQ Fo (iX _ _ Fo.out.eX hl HA.out.2.2.2.2.2.2.1) λv5 W5 qu=> ?_
 have QW:Hid (iA w g w1.heap.size A c ts sz 71 #[.string ⟨#[]⟩,.int .i64 0,.int .i64 0,.int .i64 0,.slice Ag 0 0,.int .i64 0,.int .i64 0,.slice Ag 0 0,.slice Ag 0 0,.slice Ag 0 0] (ZU nm pe le mem (.slice Ag 0 0)) 73 6 (.slice Ag 0 0) 0 [] (now+8) W5):=
  lz ⟨qu.out,World.ownsRow_nil _ _ _ _⟩
 clear k4 f4 sD Fo qu;go_wp2;go_loopw [4] (λu wr=>∃(k:Nat) (v:Bn),k<=L.length/\u= .string ⟨#[]⟩/\iA w g w1.heap.size A c ts sz 71 #[.string ⟨#[]⟩,.int .i64 0,.int .i64 0,.int .i64 0,.slice Ag 0 0,.int .i64 0,.int .i64 0,.slice Ag 0 0,.slice Ag 0 0,.slice Ag 0 0] (ZU nm pe le mem v) 73 6 v k ((L.take k).flatMap aM.cells) (now+8+8*k) wr) (λu wr=>2*(ts.length+1)-jZ g wr)
 case atStart=>exact⟨0,_,nZ,rfl,QW.out⟩
 case round=>
  clear QW;obtain⟨k,v,hk,rfl,hR⟩:=hrel;obtain⟨Av,cv,rfl,_⟩:=bp hR.own;have HR:=lz hR;have wW:=hR.po.eX.jZ;have k4:=iA.err HR;clear hR;by_cases iJ:k=L.length
  .have hs:=lz (aDD ⟨#[125]⟩ BR wr HR.out.po.eX hl (by rw[iJ];simpa using HA.out.2.2.2.2.2.2.2))
   have vQ:=lz iJ;clear iJ;go_wp2_with fail;refine jR HR hs λW6 Om=> ?_
   clear HR hs k4;go_wp2_with fail;refine aDE Om (iX _ _ Om.out.po.eX hl (by rw[vQ.out];exact HA.out.2.2.2.2.2.2.2)) λv7 W7 nI=> ?_
   clear Om;have c0:W7.cell? ⟨w1.heap.size,0,Ag⟩=Ai (.string nm):=(iA.kb nI).1 0;have c1:W7.cell? ⟨w1.heap.size,1,Ag⟩=Ai (.int .i64 pe):=(iA.kb nI).1 1;have c2:W7.cell? ⟨w1.heap.size,2,Ag⟩=Ai (.int .i64 le):=(iA.kb nI).1 2;have c3:W7.cell? ⟨w1.heap.size,3,Ag⟩=Ai (.int .i64 mem):=(iA.kb nI).1 3;have c4:W7.cell? ⟨w1.heap.size,4,Ag⟩=Ai (.slice Ag 0 0):=(iA.kb nI).1 4;have c5:W7.cell? ⟨w1.heap.size,5,Ag⟩=Ai (.int .i64 0):=(iA.kb nI).1 5;have c6:W7.cell? ⟨w1.heap.size,6,Ag⟩=Ai (.int .i64 0):=(iA.kb nI).1 6;have c7:W7.cell? ⟨w1.heap.size,7,Ag⟩=Ai (.slice Ag 0 0):=(iA.kb nI).1 7;have c8:W7.cell? ⟨w1.heap.size,8,Ag⟩=Ai (.slice Av k cv):=(iA.kb nI).1 8;have c9:W7.cell? ⟨w1.heap.size,9,Ag⟩=Ai (.slice Ag 0 0):=(iA.kb nI).1 9;have r0:=nI.out.po.res.cell 0;have r1:=nI.out.po.res.cell 1;have r2:=nI.out.po.res.cell 2;have r3:=nI.out.po.res.cell 3;have r4:=nI.out.po.res.cell 4;have r5:=nI.out.po.res.cell 5;have r6:=nI.out.po.res.cell 6;have r7:=nI.out.po.res.cell 7;have r8:=nI.out.po.res.cell 8;have r9:=nI.out.po.res.cell 9;have f0:=nI.out.po.res.frozen 0;have f1:=nI.out.po.res.frozen 1;have f2:=nI.out.po.res.frozen 2;have f3:=nI.out.po.res.frozen 3;have f4:=nI.out.po.res.frozen 4;have f5:=nI.out.po.res.frozen 5;have f6:=nI.out.po.res.frozen 6;have f7:=nI.out.po.res.frozen 7;have f8:=nI.out.po.res.frozen 8;have f9:=nI.out.po.res.frozen 9;go_wp2_with fail;have HF:=lz ((((((((((nI.out.sJ dz 0 (.string nm)).sJ dz 1 (.int .i64 pe)).sJ dz 2 (.int .i64 le)).sJ dz 3 (.int .i64 mem)).sJ dz 4 (.slice Ag 0 0)).sJ dz 5 (.int .i64 0)).sJ dz 6 (.int .i64 0)).sJ dz 7 (.slice Ag 0 0)).sJ dz 8 (.slice Av k cv)).sJ dz 9 (.slice Ag 0 0));obtain⟨W8,hW8⟩:=ez (((((((((((W7.setCell ⟨w.heap.size,0,Ag⟩ (.string nm)).setCell ⟨w.heap.size,1,Ag⟩ (.int .i64 pe)).setCell ⟨w.heap.size,2,Ag⟩ (.int .i64 le)).setCell ⟨w.heap.size,3,Ag⟩ (.int .i64 mem)).setCell ⟨w.heap.size,4,Ag⟩ (.slice Ag 0 0)).setCell ⟨w.heap.size,5,Ag⟩ (.int .i64 0)).setCell ⟨w.heap.size,6,Ag⟩ (.int .i64 0)).setCell ⟨w.heap.size,7,Ag⟩ (.slice Ag 0 0)).setCell ⟨w.heap.size,8,Ag⟩ (.slice Av k cv)).setCell ⟨w.heap.size,9,Ag⟩ (.slice Ag 0 0)));rw[<-hW8]at HF ⊢;have hz:ah W8 w.heap.size 71 #[.string nm,.int .i64 pe,.int .i64 le,.int .i64 mem,.slice Ag 0 0,.int .i64 0,.int .i64 0,.slice Ag 0 0,.slice Av k cv,.slice Ag 0 0]:=by simpa using HF.out.po.res
   have z0:=hz.cell 0;have z1:=hz.cell 1;have z2:=hz.cell 2;have z3:=hz.cell 3;have z4:=hz.cell 4;have z5:=hz.cell 5;have z6:=hz.cell 6;have z7:=hz.cell 7;have z8:=hz.cell 8;have z9:=hz.cell 9;refine GJ (v:= .agg #[.string nm,.int .i64 pe,.int .i64 le,.int .i64 mem,.slice Ag 0 0,.int .i64 0,.int .i64 0,.slice Ag 0 0,.slice Av k cv,.slice Ag 0 0]) (by simp[results,results260,go_sem,z0,z1,z2,z3,z4,z5,z6,z7,z8,z9]) rfl ?_;refine⟨Av,cv,by rw[vQ.out],?_,?_,HF.out.po.gr⟩
   .have:=HF.out.own;rw[vQ.out,GS]at this;exact this
   .have:=HF.out.po.eX;rw[vQ.out,show now+8+8*L.length+1=now+9+8*L.length from by omega]at this;exact this
  .have hkl:k<L.length:=by omega
   obtain⟨Cr,zO⟩:=Vw.out k hkl;obtain⟨hn,Z7⟩:=gG zO;unfold ZT at Z7;simp only[BW,Bool.not_eq_true']at Z7;obtain⟨⟨⟨⟨⟨l1,l2⟩,l3⟩,l4⟩,l5⟩,l6⟩:=Z7;have hs1:=lz λW (hW:gM W g A c ts (now+8+8*k) sz)=>l1▸tJ ⟨#[125]⟩ W hW hn hl
   have Pb:=lz λW (hW:gM W g A c ts (now+8+8*k) sz)=>l2▸tJ ⟨#[115,101,109,97,115]⟩ W hW hn hl
   have QM:=lz λW (hW:gM W g A c ts (now+8+8*k) sz)=>l3▸tJ ⟨#[98,117,102,115]⟩ W hW hn hl
   have hs4:=lz λW (hW:gM W g A c ts (now+8+8*k) sz)=>l4▸tJ ⟨#[101,118,101,110,116,115]⟩ W hW hn hl
   have hs5:=lz λW (hW:gM W g A c ts (now+8+8*k) sz)=>l5▸tJ ⟨#[98,111,97,114,100,115]⟩ W hW hn hl
   have uz:=lz λW (hW:gM W g A c ts (now+8+8*k) sz)=>EF ⟨#[115,101,109,97,115]⟩ W hW hn hl l2
   have hi3:=lz λW (hW:gM W g A c ts (now+8+8*k) sz)=>EF ⟨#[98,117,102,115]⟩ W hW hn hl l3
   have hi4:=lz λW (hW:gM W g A c ts (now+8+8*k) sz)=>EF ⟨#[101,118,101,110,116,115]⟩ W hW hn hl l4
   have hi5:=lz λW (hW:gM W g A c ts (now+8+8*k) sz)=>EF ⟨#[98,111,97,114,100,115]⟩ W hW hn hl l5
   have hi6:=lz λW (hW:gM W g A c ts (now+8+8*k) sz)=>EF ⟨#[112,114,111,99]⟩ W hW hn hl l6
   have hh:=lz λW (hW:gM W g A c ts (now+8+8*k) sz)=>ED W hW hn hl
   generalize ts[now+8+8*k]=t at *;obtain⟨tk,tx,ta⟩:=t;dsimp only[Tok.val]at hh;have TD:∀W,(Instr.field 280 (.agg #[.int .i64 tk,.string tx,.int .i64 ta]) 1).run pG W= .ok (.string tx) W:=λ_=>by kernel_rfl
   have VB:=lz λW (hW:gM W g A c ts (now+8+8*k) sz)=>ZS L[k] W hW hl Cr
   clear l1 l2 l3 l4 l5 l6 Cr zO;go_wp2_with fail;refine jR HR (hs1.out _ HR.out.po.eX) λW6 Om=> ?_
   clear HR k4;go_wp2_with fail;refine jR Om (hh.out _ Om.out.po.eX) λW7 nI=> ?_
   clear Om;go_wp2_with fail;refine jR nI (Pb.out _ nI.out.po.eX) λW8 HR8=> ?_
   clear nI;go_wp2_with fail;refine jR HR8 (QM.out _ HR8.out.po.eX) λW9 HR9=> ?_
   clear HR8;go_wp2_with fail;refine jR HR9 (hs4.out _ HR9.out.po.eX) λW10 aHF=> ?_
   clear HR9;go_wp2_with fail;refine jR aHF (hs5.out _ aHF.out.po.eX) λwv aHG=> ?_
   clear aHF;go_wp2_with fail;refine jR aHG (uz.out _ aHG.out.po.eX) λsI qO=> ?_
   clear aHG;go_wp2_with fail;refine jR qO (hi3.out _ qO.out.po.eX) λVH qq=> ?_
   clear qO;go_wp2_with fail;refine jR qq (hi4.out _ qq.out.po.eX) λW14 aHH=> ?_
   clear qq;go_wp2_with fail;refine jR aHH (hi5.out _ aHH.out.po.eX) λW15 aHI=> ?_
   clear aHH;go_wp2_with fail;refine jR aHI (hi6.out _ aHI.out.po.eX) λW16 aMJ=> ?_
   clear aHI;have HD:=lz (aMJ.out.below (W':=W16.drew) (Below.refl _ _).drew);have O5:W16.drew.cell? ⟨w1.heap.size,8,Ag⟩=Ai (.slice Av k cv):=(iA.kb HD).1 8;clear aMJ;go_wp2_with fail;refine aT (λW'=>W'.cell? ⟨w1.heap.size,8,Ag⟩=Ai (.slice Av k cv)) 7 kz O5 (λhHeld=> ?_);refine TS 0 rfl hHeld ?_;simp only[zP,zA,zB,zC];refine TS 1 rfl hHeld ?_;simp only[zP,zA,zB,zC];refine TS 2 rfl hHeld ?_;simp only[zP,zA,zB,zC];refine RQ 3 rfl λK hK=> ?_
   go_simp;refine(VB.out _ HD.out.po.eX).mono ?_;rintro e Vl ⟨rfl,O6,O7⟩;have qt:=lz (HD.out.next O6 O7);have pZ:Vl.cell? ⟨w1.heap.size,8,Ag⟩=Ai (.slice Av k cv):=(iA.kb qt).1 8;refine hK.out _ _ (λ_=>pZ) ?_;clear hK hHeld O6 O7 HD O5;refine RQ 4 rfl λK hK=> ?_
   go_simp;have qb:(Vl.alloc (.cells #[.string L[k].nm,.int .u8 L[k].kd,.bool L[k].out,.int .i64 L[k].sz,.int .i64 L[k].dp,.int .i64 L[k].rf] 73)).cell? ⟨w1.heap.size,8,Ag⟩=Ai (.slice Av k cv):=(qt.out.po.blk.alloc _).cell 8;refine hK.out _ _ (λ_=>qb) ?_;clear hK pZ;refine RQ 5 rfl λK hK=> ?_
   refine mC (by rfl) (.tmp 52) (.tmp 55) 68 (by rfl) w.heap.size 73 i0 (.agg #[.string ⟨#[]⟩,.int .u8 0,.bool Bj,.int .i64 0,.int .i64 0,.int .i64 0]) 6 48 underlying68 lX hz0 hz1 hz2 rfl dz (.slice Av k cv) k _ (by rfl) (qt.out.own.alloc _) ⟨Vl.heap.size,0,Ag⟩ 1 1 [.string L[k].nm,.int .u8 L[k].kd,.bool L[k].out,.int .i64 L[k].sz,.int .i64 L[k].dp,.int .i64 L[k].rf] (by rfl) (by rfl) ?c1 ?c2 ?c3 ?c4 ?c5 ?_
   case c1=>
    intro j u' hj;rw[bO,E9,(ah.new Vl 73 #[.string L[k].nm,.int .u8 L[k].kd,.bool L[k].out,.int .i64 L[k].sz,.int .i64 L[k].dp,.int .i64 L[k].rf]).cell j];simpa using hj
   case c2=>intro u' kQ;simp at kQ;rcases kQ with rfl | rfl | rfl | rfl | rfl | rfl<;>rfl
   case c3=>unfold EW;omega
   case c4=>omega
   case c5=>have:=qt.out.po.gr.size;simp;omega
   intro v19 VJ oZ O8;obtain⟨Av9,cv9,rfl,_⟩:=bp oZ;have Mb:=lz (qt.out.grow oZ O8 dz);have nJ:VJ.cell? ⟨w1.heap.size,8,Ag⟩=Ai (.slice Av k cv):=(iA.kb Mb).1 8;have aHJ:VJ.frozen? ⟨w1.heap.size,8,Ag⟩=false:=(iA.kb Mb).2 8;refine hK.out _ _ (λ_=>nJ) ?_;clear hK qb oZ O8 qt;refine TS 6 rfl nJ ?_;simp only[zP,zA,zB,zC];refine RQ 7 rfl λK hK=> ?_
   go_simp;refine hK.out _ _ (λh=>absurd h dz) ?_;clear hK;refine aL kz ?_ _;have Rz:=lz (Mb.out.put 8 (.slice Av9 (k+1) cv9) dz);clear Mb;go_wp2;go_roundw
   case rel=>
    refine⟨k+1,.slice Av9 (k+1) cv9,oz,rfl,?_⟩;have:=Rz.out;rw[show now+8+8*k+8=now+8+8*(k+1)from by omega]at this;rw[Dl hkl,Ig,List.flatMap_cons,List.flatMap_nil,List.append_nil];exact this
   case measure=>
    have h1:=Rz.out.po.eX.jZ;rw[wW,h1];omega
end
theorem Il{W:Al}{base cp:Nat}{A:Option EK}{l:List aM}(h:W.ownsRow base 73 6 (.slice A l.length cp) l.length (l.flatMap aM.cells))(hr:∀y∈l,y.rd W W.heap.size):fu W W.heap.size A l:=λhn=>by
 obtain⟨b,cap,hv,_,hlt⟩:=h.form hn;have hA:A=Ai ⟨b,0,Ag⟩:=by injection hv
 subst hA;refine⟨b,0,rfl,hlt,λi hi=> ?_⟩;have c0:=h.cells (g:=b) rfl _ _ (aS aM.cells 6 (λ_=>rfl) l i 0 hi oz);have c1:=h.cells (g:=b) rfl _ _ (aS aM.cells 6 (λ_=>rfl) l i 1 hi oz);have c2:=h.cells (g:=b) rfl _ _ (aS aM.cells 6 (λ_=>rfl) l i 2 hi oz);have c3:=h.cells (g:=b) rfl _ _ (aS aM.cells 6 (λ_=>rfl) l i 3 hi oz);have c4:=h.cells (g:=b) rfl _ _ (aS aM.cells 6 (λ_=>rfl) l i 4 hi oz);have c5:=h.cells (g:=b) rfl _ _ (aS aM.cells 6 (λ_=>rfl) l i 5 hi oz);rw[eY]at c0 c1 c2 c3 c4 c5;have hq:=hr _ (CS hi);simpa using ai c0 (ai c1 (ai c2 (ai c3 (ai c4 (ai c5 hq)))))
def aC.cells(x:aC):List Value:= [.string x.nm,.int .i64 x.pe,.int .i64 x.le,.int .i64 x.mem,x.aG.val,.int .i64 x.ev,.int .i64 x.bo,x.aX.val,x.aq.val,x.procs.val]
theorem Im{W:Al}{base cp:Nat}{A:Option EK}{l:List aC}(h:W.ownsRow base 71 10 (.slice A l.length cp) l.length (l.flatMap aC.cells))(hr:∀y∈l,y.rd W W.heap.size):fW W W.heap.size A l:=λhn=>by
 obtain⟨b,cap,hv,_,hlt⟩:=h.form hn;have hA:A=Ai ⟨b,0,Ag⟩:=by injection hv
 subst hA;refine⟨b,0,rfl,hlt,λi hi=> ?_⟩;have c0:=h.cells (g:=b) rfl _ _ (aS aC.cells 10 (λ_=>rfl) l i 0 hi oz);have c1:=h.cells (g:=b) rfl _ _ (aS aC.cells 10 (λ_=>rfl) l i 1 hi oz);have c2:=h.cells (g:=b) rfl _ _ (aS aC.cells 10 (λ_=>rfl) l i 2 hi oz);have c3:=h.cells (g:=b) rfl _ _ (aS aC.cells 10 (λ_=>rfl) l i 3 hi oz);have c4:=h.cells (g:=b) rfl _ _ (aS aC.cells 10 (λ_=>rfl) l i 4 hi oz);have c5:=h.cells (g:=b) rfl _ _ (aS aC.cells 10 (λ_=>rfl) l i 5 hi oz);have c6:=h.cells (g:=b) rfl _ _ (aS aC.cells 10 (λ_=>rfl) l i 6 hi oz);have c7:=h.cells (g:=b) rfl _ _ (aS aC.cells 10 (λ_=>rfl) l i 7 hi oz);have c8:=h.cells (g:=b) rfl _ _ (aS aC.cells 10 (λ_=>rfl) l i 8 hi oz);have c9:=h.cells (g:=b) rfl _ _ (aS aC.cells 10 (λ_=>rfl) l i 9 hi oz);rw[eY]at c0 c1 c2 c3 c4 c5 c6 c7 c8 c9;have hq:=hr _ (CS hi);simpa using ai c0 (ai c1 (ai c2 (ai c3 (ai c4 (ai c5 (ai c6 (ai c7 (ai c8 (ai c9 hq)))))))))
def bT.cells(x:bT):List Value:= [.string x.nm,.int .i64 x.mem,.int .i64 x.fr,x.parts.val]
theorem Cd{W:Al}{base cp:Nat}{A:Option EK}{l:List bT}(h:W.ownsRow base 67 4 (.slice A l.length cp) l.length (l.flatMap bT.cells))(hr:∀y∈l,y.rd W W.heap.size):dK W W.heap.size A l:=λhn=>by
 obtain⟨b,cap,hv,_,hlt⟩:=h.form hn;have hA:A=Ai ⟨b,0,Ag⟩:=by injection hv
 subst hA;refine⟨b,0,rfl,hlt,λi hi=> ?_⟩;have c0:=h.cells (g:=b) rfl _ _ (aS bT.cells 4 (λ_=>rfl) l i 0 hi oz);have c1:=h.cells (g:=b) rfl _ _ (aS bT.cells 4 (λ_=>rfl) l i 1 hi oz);have c2:=h.cells (g:=b) rfl _ _ (aS bT.cells 4 (λ_=>rfl) l i 2 hi oz);have c3:=h.cells (g:=b) rfl _ _ (aS bT.cells 4 (λ_=>rfl) l i 3 hi oz);rw[eY]at c0 c1 c2 c3;have hq:=hr _ (CS hi);simpa using ai c0 (ai c1 (ai c2 (ai c3 hq)))
def iI.cells(x:iI):List Value:= [.string x.nm,.int .i64 x.net,.int .i64 x.dl,.int .i64 x.st]
theorem Ce{W:Al}{base cp:Nat}{A:Option EK}{l:List iI}(h:W.ownsRow base 87 4 (.slice A l.length cp) l.length (l.flatMap iI.cells)):dL W W.heap.size A l:=λhn=>by
 obtain⟨b,cap,hv,_,hlt⟩:=h.form hn;have hA:A=Ai ⟨b,0,Ag⟩:=by injection hv
 subst hA;refine⟨b,0,rfl,hlt,λi hi=> ?_⟩;have c0:=h.cells (g:=b) rfl _ _ (aS iI.cells 4 (λ_=>rfl) l i 0 hi oz);have c1:=h.cells (g:=b) rfl _ _ (aS iI.cells 4 (λ_=>rfl) l i 1 hi oz);have c2:=h.cells (g:=b) rfl _ _ (aS iI.cells 4 (λ_=>rfl) l i 2 hi oz);have c3:=h.cells (g:=b) rfl _ _ (aS iI.cells 4 (λ_=>rfl) l i 3 hi oz);rw[eY]at c0 c1 c2 c3;simpa using ai c0 (ai c1 (ai c2 c3))
def aO.cells(x:aO):List Value:= [.string x.a,.string x.b,.int .i64 x.net,.int .i64 x.slow]
theorem uJ{W:Al}{base cp:Nat}{A:Option EK}{l:List aO}(h:W.ownsRow base 46 4 (.slice A l.length cp) l.length (l.flatMap aO.cells)):fZ W W.heap.size A l:=λhn=>by
 obtain⟨b,cap,hv,_,hlt⟩:=h.form hn;have hA:A=Ai ⟨b,0,Ag⟩:=by injection hv
 subst hA;refine⟨b,0,rfl,hlt,λi hi=> ?_⟩;have c0:=h.cells (g:=b) rfl _ _ (aS aO.cells 4 (λ_=>rfl) l i 0 hi oz);have c1:=h.cells (g:=b) rfl _ _ (aS aO.cells 4 (λ_=>rfl) l i 1 hi oz);have c2:=h.cells (g:=b) rfl _ _ (aS aO.cells 4 (λ_=>rfl) l i 2 hi oz);have c3:=h.cells (g:=b) rfl _ _ (aS aO.cells 4 (λ_=>rfl) l i 3 hi oz);rw[eY]at c0 c1 c2 c3;simpa using ai c0 (ai c1 (ai c2 c3))
def fU.cells(x:fU):List Value:= [.string x.nm,.string x.src.m,.string x.src.p,.string x.src.o,.int .i64 x.lQ,.int .i64 x.mx,x.dst.val]
theorem ML{W:Al}{base cp:Nat}{A:Option EK}{l:List fU}(h:W.ownsRow base 44 7 (.slice A l.length cp) l.length (l.flatMap fU.cells))(hr:∀y∈l,y.rd W W.heap.size):mV W W.heap.size A l:=λhn=>by
 obtain⟨b,cap,hv,_,hlt⟩:=h.form hn;have hA:A=Ai ⟨b,0,Ag⟩:=by injection hv
 subst hA;refine⟨b,0,rfl,hlt,λi hi=> ?_⟩;have c0:=h.cells (g:=b) rfl _ _ (aS fU.cells 7 (λ_=>rfl) l i 0 hi oz);have c1:=h.cells (g:=b) rfl _ _ (aS fU.cells 7 (λ_=>rfl) l i 1 hi oz);have c2:=h.cells (g:=b) rfl _ _ (aS fU.cells 7 (λ_=>rfl) l i 2 hi oz);have c3:=h.cells (g:=b) rfl _ _ (aS fU.cells 7 (λ_=>rfl) l i 3 hi oz);have c4:=h.cells (g:=b) rfl _ _ (aS fU.cells 7 (λ_=>rfl) l i 4 hi oz);have c5:=h.cells (g:=b) rfl _ _ (aS fU.cells 7 (λ_=>rfl) l i 5 hi oz);have c6:=h.cells (g:=b) rfl _ _ (aS fU.cells 7 (λ_=>rfl) l i 6 hi oz);rw[eY]at c0 c1 c2 c3 c4 c5 c6;have hq:=hr _ (CS hi);simpa using ai c0 (ai c1 (ai c2 (ai c3 (ai c4 (ai c5 (ai c6 hq))))))
structure jK where
 t:E3
 n:Nat
 v:Bn
 k:Nat
 xs:List Bn
def dA(W:Al)(base:Nat)(Q:List jK):Prop:=∀r∈Q,W.ownsRow base r.t r.n r.v r.k r.xs
theorem dA.gr{W W':Al}{base g:Nat}{Q:List jK}(h:dA W base Q)(hG:Gr (· =g) W W')(hg:g<base):dA W' base Q:=λr hr=>
 cO (h r hr) hG (λk hk e=>by have:=((h r hr).lt k hk).1;omega)
theorem dA.below{W W':Al}{base:Nat}{Q:List jK}(h:dA W base Q)(hb:Below W.heap.size W W'):dA W' base Q:=λr hr=>
 cO (h r hr) (Gr.ak (X:=λk=>W.heap.size<=k) hb) (λk hk e=>by have:=((h r hr).lt k hk).2;omega)
theorem dA.blk{W W':Al}{base B:Nat}{Q:List jK}{t:E3}{cs:Array Bn}(h:dA W base Q)(hG:Gr (· =B) W W')(hb:ah W B t cs)(hq:∀r∈Q,r.t≠t):dA W' base Q:=λr hr=>
 cO (h r hr) hG (λk hk e=>aW (h r hr) hb (hq r hr) (e▸hk))
theorem dA.set{W:Al}{base B i:Nat}{Q:List jK}{t:E3}{cs:Array Bn}(h:dA W base Q)(hb:ah W B t cs)(hq:∀r∈Q,r.t≠t)(u:Bn):dA (W.setCell ⟨B,i,Ag⟩ u) base Q:=
 h.blk (Gr.setCell (X:=(· =B)) _ _ _ rfl) hb hq
theorem dA.grown{W W':Al}{base n m:Nat}{Q:List jK}{e:E3}{v:Bn}{xs:List Bn}(h:dA W base Q)(hG:W.grownBy W' v.ownBlock)(ho:W.ownsRow base e n v m xs)(hq:∀r∈Q,r.t≠e):dA W' base Q:=λr hr=>
 cO (h r hr) (Gr.eO (X:=λk=>v.ownBlock=Ai k) hG (λk e=>e)) (λk hk=>Db (h r hr) ho (hq r hr) k hk)
theorem dA.nil{W:Al}{base:Nat}:dA W base []:=λr hr=>by cases hr
theorem dA.app{W:Al}{base:Nat}{Q R:List jK}(h:dA W base Q)(h':dA W base R):dA W base (Q++R):=λr hr=>by
 rcases E2.1 hr with hr | hr
 .exact h r hr
 .exact h' r hr
theorem dA.aMM{W:Al}{b b':Nat}{Q:List jK}(h:dA W b Q)(hb:b'<=b):dA W b' Q:=λr hr=>nV (h r hr) hb
theorem dA.one{W:Al}{base n k:Nat}{t:E3}{v:Bn}{xs:List Bn}(h:W.ownsRow base t n v k xs):dA W base [⟨t,n,v,k,xs⟩]:=λr hr=>by
 rcases BU.1 hr with rfl | hr
 .exact h
 .cases hr
abbrev gN{α:Type}:Sl α:=⟨Ag,0,[]⟩
structure qK where
 nm:ByteArray
 pe:Int
 le:Int
 mem:Int
 aq:List aM
structure DA where
 nm:ByteArray
 mem:Int
 fr:Int
 parts:List qK
structure VlT where
 nm:ByteArray
 src:bw
 lQ:Int
 mx:Int
 dst:List bw
def aC.is(y:aC)(x:qK):Prop:=∃A c,y=⟨x.nm,x.pe,x.le,x.mem,gN,0,0,gN,⟨A,c,x.aq⟩,gN⟩
def iC{α β:Type}(R:α->β->Prop):List α->List β->Prop
 | [],[]=>True
 | y :: Y,x :: X=>R y x/\iC R Y X
 | _,_=>False
theorem iC.len{α β:Type}{R:α->β->Prop}:∀{Y:List α} {X:List β},iC R Y X->Y.length=X.length
 | [],[],_=>rfl
 | y :: Y,x :: X,h=>by simp[iC.len h.2]
 | [],_ :: _,h=>h.elim
 | _ :: _,[],h=>h.elim
theorem iC.add{α β:Type}{R:α->β->Prop}{y:α}{x:β}(h:R y x):∀{Y:List α} {X:List β},iC R Y X->iC R (Y++ [y]) (X++ [x])
 | [],[],_=>⟨h,trivial⟩
 | _ :: _,_ :: _,k=>⟨k.1,iC.add h k.2⟩
 | [],_ :: _,k=>k.elim
 | _ :: _,[],k=>k.elim
def bT.is(y:bT)(x:DA):Prop:=∃A c P,y=⟨x.nm,x.mem,x.fr,⟨A,c,P⟩⟩/\iC aC.is P x.parts
def fU.is(y:fU)(x:VlT):Prop:=∃A c,y=⟨x.nm,x.src,x.lQ,x.mx,⟨A,c,x.dst⟩⟩
abbrev aC.row(y:aC):jK:=⟨73,6,y.aq.val,y.aq.l.length,y.aq.l.flatMap aM.cells⟩
abbrev bT.row(y:bT):jK:=⟨71,10,y.parts.val,y.parts.l.length,y.parts.l.flatMap aC.cells⟩
def bT.rows(y:bT):List jK:=y.row :: y.parts.l.map aC.row
abbrev fU.row(y:fU):jK:=⟨41,3,y.dst.val,y.dst.l.length,y.dst.l.flatMap bw.cells⟩
theorem aHK:(pG.info? 71).map (λi=>(i.zero,i.size,i.bytes))=Ai (Ai (.agg #[.string ⟨#[]⟩,.int .i64 0,.int .i64 0,.int .i64 0,.slice Ag 0 0,.int .i64 0,.int .i64 0,.slice Ag 0 0,.slice Ag 0 0,.slice Ag 0 0]),10,152):=by kernel_rfl
theorem aHL:(pG.info? 67).map (λi=>(i.zero,i.size,i.bytes))=Ai (Ai (.agg #[.string ⟨#[]⟩,.int .i64 0,.int .i64 0,.slice Ag 0 0]),4,56):=by kernel_rfl
theorem aHM:(pG.info? 87).map (λi=>(i.zero,i.size,i.bytes))=Ai (Ai (.agg #[.string ⟨#[]⟩,.int .i64 0,.int .i64 0,.int .i64 0]),4,40):=by kernel_rfl
theorem aHN:(pG.info? 46).map (λi=>(i.zero,i.size,i.bytes))=Ai (Ai (.agg #[.string ⟨#[]⟩,.string ⟨#[]⟩,.int .i64 0,.int .i64 0]),4,48):=by kernel_rfl
theorem aHO:(pG.info? 44).map (λi=>(i.zero,i.size,i.bytes))=Ai (Ai (.agg #[.string ⟨#[]⟩,.string ⟨#[]⟩,.string ⟨#[]⟩,.string ⟨#[]⟩,.int .i64 0,.int .i64 0,.slice Ag 0 0]),7,104):=by kernel_rfl
theorem ZV{W:Al}{base:Nat}{y:aC}{x:qK}(h:y.is x)(ho:W.ownsRow base 73 6 y.aq.val y.aq.l.length (y.aq.l.flatMap aM.cells))(hk:∀p∈x.aq,0<=p.kd/\p.kd<=255):y.rd W W.heap.size:=by
 obtain⟨A,c,rfl⟩:=h;obtain⟨A',c',hv,h1,h2⟩:=bp ho
 cases hv
 exact⟨nL,nZ,λh=>absurd h (Nat.lt_irrefl 0),nL,nZ,λh=>absurd h (Nat.lt_irrefl 0),h1,h2,Il ho (λp hp=>⟨hk p hp⟩),nL,nZ,λh=>absurd h (Nat.lt_irrefl 0)⟩
theorem iC.mem{α β:Type}{R:α->β->Prop}:∀{Y:List α} {X:List β},iC R Y X->∀y∈Y,∃x∈X,R y x
 | [],[],_,y,hy=>by cases hy
 | y :: Y,x :: X,h,z,hz=>by
  rcases BU.1 hz with rfl | hz
  .exact⟨x,qz,h.1⟩
  .obtain⟨x',hx',k⟩:=iC.mem h.2 z hz
   exact⟨x',by simp[hx'],k⟩
 | [],_ :: _,h,_,_=>h.elim
 | _ :: _,[],h,_,_=>h.elim
theorem aAu{W:Al}{base:Nat}{y:bT}{x:DA}(h:y.is x)(ho:dA W base y.rows)(hk:∀p∈x.parts,∀q∈p.aq,0<=q.kd/\q.kd<=255):y.rd W W.heap.size:=by
 obtain⟨A,c,P,rfl,hP⟩:=h;have h0:=ho _ (BS ..);obtain⟨A',c',hv,h1,h2⟩:=bp h0
 cases hv
 refine⟨h1,h2,Im h0 λp hp=> ?_⟩;obtain⟨q,hq,hi⟩:=iC.mem hP p hp;exact ZV hi (ho p.row (EX _ (GR.2 ⟨p,hp,rfl⟩))) (hk q hq)
theorem aEb{W:Al}{base:Nat}{y:fU}(ho:W.ownsRow base 41 3 y.dst.val y.dst.l.length (y.dst.l.flatMap bw.cells)):y.rd W W.heap.size:=by
 obtain⟨A',c',hv,h1,h2⟩:=bp ho;obtain⟨nm,src,lQ,mx,⟨A,c,l⟩⟩:=y
 cases hv
 exact⟨h1,h2,L8 ho⟩
def qK.at(x:qK):aC:=⟨x.nm,x.pe,x.le,x.mem,gN,0,0,gN,⟨Ag,0,x.aq⟩,gN⟩
def uf(x:qK):Nat:=9+8*x.aq.length
def fL:List qK->Nat
 | []=>0
 | x :: r=>1+uf x+fL r
def ug(ts:List Tok):Nat->List qK->Bool
 | p,[]=>gZ ts p (λt=>dB t ⟨#[112,97,114,116]⟩==Bj)
 | p,x :: r=>gZ ts p (λt=>dB t ⟨#[112,97,114,116]⟩==BR)&&Ry ts (p+1) x.at&&decide (x.aq.length<=1000)&&ug ts (p+1+uf x) r
theorem yS{ts:List Tok}:∀(L:List qK) (p k:Nat),ug ts p L=BR->k<=L.length->ug ts (p+fL (L.take k)) (L.drop k)=BR
 | L,p,0,h,_=>by simpa [fL]using h
 | [],p,k+1,h,hk=>by simp at hk
 | x :: r,p,k+1,h,hk=>by
  unfold ug at h;simp only[BW]at h;have:=yS r _ k h.2 (by simpa using hk);rw[List.take_succ_cons,List.drop_succ_cons];unfold fL;rw[show p+(1+uf x+fL (r.take k))=p+1+uf x+fL (r.take k)from by omega];exact this
theorem vk:∀(L:List qK) (x:qK),fL (L++ [x])=fL L+1+uf x
 | [],x=>by simp[fL]
 | y :: L,x=>by
  rw[GQ];unfold fL;rw[vk L x];omega
def RO(ts:List Tok)(p:Nat)(x:DA):Bool:=gZ ts p (wj x.nm)&&gZ ts (p+1) (λt=>dB t ⟨#[109,101,109]⟩)&&gZ ts (p+2) (Te x.mem)&&gZ ts (p+3) (λt=>dB t ⟨#[102,114,97,109,101]⟩)&&gZ ts (p+4) (Te x.fr)&&gZ ts (p+5) (λt=>dB t ⟨#[123]⟩)&&ug ts (p+6) x.parts&&gZ ts (p+6+fL x.parts) (λt=>dB t ⟨#[125]⟩)&&decide (x.parts.length<=1000)
def zi(x:DA):Nat:=7+fL x.parts
section
variable {g:Nat} {A:Option EK} {c:Nat} {ts:List Tok} {now:Nat} {sz:Int}
structure lP(w:Al)(g Bc:Nat)(A:Option EK)(c:Nat)(ts:List Tok)(sz:Int)(rs cs:Array Bn)(v:Bn)(P:List aC)(p:Nat)(W:Al):Prop where
 ro:iA w g Bc A c ts sz 67 rs cs 71 10 v P.length (P.flatMap aC.cells) p W
 q:dA W w.heap.size (P.map aC.row)
theorem aHP(P:List aC){t:E3}(h:73≠t):∀r∈P.map aC.row,r.t≠t:=λr hr=>by
 obtain⟨p,_,rfl⟩:=GR.1 hr;exact h
theorem lP.next{w W W':Al}{Bc p p':Nat}{rs cs:Array Bn}{v:Bn}{P:List aC}(h:lP w g Bc A c ts sz rs cs v P p W)(hI:gM W' g A c ts p' sz)(hG:Gr (· =g) W W'):lP w g Bc A c ts sz rs cs v P p' W':=
 ⟨h.ro.next hI hG,h.q.gr hG h.ro.po.hg⟩
theorem Ti{f:FuncId}{args:Array Bn}{w W:Al}{Bc p p':Nat}{rs cs:Array Bn}{u v:Bn}{P:List aC}{R:Ending->Al->Prop}(h:Hid (lP w g Bc A c ts sz rs cs v P p W))(hc:PC f args W g A c ts sz p' u)
 (k:∀W',Hid (lP w g Bc A c ts sz rs cs v P p' W')->R (.returned u) W'):ET pG f args W R:=
 hc.mono λe W' hh=>by obtain⟨rfl,h1,h2⟩:=hh;exact k W' (lz (h.out.next h1 h2))
theorem aDF{f:FuncId}{args:Array Bn}{w W:Al}{Bc p p':Nat}{rs cs:Array Bn}{v:Bn}{P:List aC}{R:Ending->Al->Prop}(h:Hid (lP w g Bc A c ts sz rs cs v P p W))(hc:ET pG f args W λe w'=>(∃v,e= .returned v)/\gM w' g A c ts p' sz/\Gr (· =g) W w')
 (k:∀u W',Hid (lP w g Bc A c ts sz rs cs v P p' W')->R (.returned u) W'):ET pG f args W R:=
 hc.mono λe W' hh=>by obtain⟨⟨u,rfl⟩,h1,h2⟩:=hh;exact k u W' (lz (h.out.next h1 h2))
theorem lP.kb{w W:Al}{Bc p:Nat}{rs cs:Array Bn}{v:Bn}{P:List aC}(h:Hid (lP w g Bc A c ts sz rs cs v P p W)):(∀i,W.cell? ⟨Bc,i,Ag⟩=cs[i]?)/\(∀i,W.frozen? ⟨Bc,i,Ag⟩=Bj):=⟨h.out.ro.po.blk.cell,h.out.ro.po.blk.frozen⟩
theorem lP.put{w W:Al}{Bc p:Nat}{rs cs:Array Bn}{v:Bn}{P:List aC}(h:lP w g Bc A c ts sz rs cs v P p W)(i:Nat)(u:Bn):lP w g Bc A c ts sz rs (cs.setIfInBounds i u) v P p (W.setCell ⟨Bc,i,Ag⟩ u):=
 ⟨h.ro.put i u dz,h.q.set h.ro.po.blk (aHP P dz) u⟩
theorem lP.sJ{w W:Al}{Bc p:Nat}{rs cs:Array Bn}{v:Bn}{P:List aC}(h:lP w g Bc A c ts sz rs cs v P p W)(i:Nat)(u:Bn):lP w g Bc A c ts sz (rs.setIfInBounds i u) cs v P p (W.setCell ⟨w.heap.size,i,Ag⟩ u):=
 ⟨h.ro.sJ dz i u,h.q.set h.ro.po.res (aHP P dz) u⟩
theorem lP.part{w W W':Al}{Bc p p' b:Nat}{rs cs:Array Bn}{v:Bn}{P:List aC}{y:aC}(h:lP w g Bc A c ts sz rs cs v P p W)(hI:gM W' g A c ts p' sz)(hG:Gr (· =g) W W')(ho:W'.ownsRow b 73 6 y.aq.val y.aq.l.length (y.aq.l.flatMap aM.cells))(hb:w.heap.size<=b):
 iA w g Bc A c ts sz 67 rs cs 71 10 v P.length (P.flatMap aC.cells) p' W'/\dA W' w.heap.size ((P++ [y]).map aC.row):=
 ⟨(h.next hI hG).ro,by rw[JO];exact(h.next hI hG).q.app (dA.one (nV ho hb))⟩
theorem aDG{w W W':Al}{Bc p:Nat}{rs cs:Array Bn}{v v':Bn}{P:List aC}{y:aC}{o:Obj}(h:iA w g Bc A c ts sz 67 rs cs 71 10 v P.length (P.flatMap aC.cells) p W)(hq:dA W w.heap.size ((P++ [y]).map aC.row))
 (hown:W'.ownsRow w.heap.size 71 10 v' (P.length+1) (P.flatMap aC.cells++y.cells)) (hG:(W.alloc o).grownBy W' v.ownBlock):lP w g Bc A c ts sz rs cs v' (P++ [y]) p W':=by
 refine⟨?_,(hq.below (bN)).grown hG (h.own.alloc o) (aHP _ dz)⟩;have:=h.grow hown hG dz;simpa using this
theorem ZW(x:DA)(w:Al)(h:gM w g A c ts now sz)(hl:ts.length<=100000)(ha:RO ts now x=BR):
 ET pG 196 #[.pointer (Ai ⟨g,0,Ag⟩)] w λe w'=>∃y:bT,e= .returned y.val/\y.is x/\dA w' w.heap.size y.rows/\gM w' g A c ts (now+zi x) sz/\Gr (· =g) w w':=by
 unfold RO at ha;simp only[BW,decide_eq_true_eq]at ha;obtain⟨⟨⟨⟨⟨⟨⟨⟨a1,a2⟩,a3⟩,a4⟩,a5⟩,a6⟩,a7⟩,a8⟩,a9⟩:=ha;obtain⟨nm,mem,fr,L⟩:=x;dsimp only at a1 a2 a3 a4 a5 a6 a7 a8 a9;have hat:=λk hk=>yS L (now+6) k a7 hk
 obtain⟨w0,hw⟩:=ez (w.alloc (.cells #[.string ⟨#[]⟩,.int .i64 0,.int .i64 0,.slice Ag 0 0] 67));have hw0:Below w.heap.size w w0:=by rw[hw];exact bN
 have jy:ah w0 w.heap.size 67 #[.string ⟨#[]⟩,.int .i64 0,.int .i64 0,.slice Ag 0 0]:=by rw[hw];exact ah.new w _ _
 have h1:=lz (kV nm w0 (h.below hw0) hl a1);have rT:=lz jy;have aV:=lz hw0;have Mc:=lz hw;have hlt:=h.lt;have HA:=lz (ai a2 (ai a3 (ai a4 (ai a5 (ai a6 a8)))));have Vw:=lz hat;obtain⟨i0,lX,hz0,hz1,hz2⟩:=info_parts aHK;clear h a1 a2 a3 a4 a5 a6 a7 a8 hw hw0 jy hat;go_enter func196,ntmps196;go_wp2_with fail;rw[<-Mc.out];refine h1.out.mono ?_;rintro e w1 ⟨rfl,PK,sK⟩;obtain⟨y,hy⟩:=ez (w1.alloc (.cells #[.string nm,.int .i64 0,.int .i64 0,.slice Ag 0 0] 67));have hS:eW w g w1.heap.size A c ts sz 67 #[.string ⟨#[]⟩,.int .i64 0,.int .i64 0,.slice Ag 0 0] #[.string nm,.int .i64 0,.int .i64 0,.slice Ag 0 0] (now+1) y:=by
  have hB:Below w1.heap.size w1 y:=by rw[hy];exact bN
  have hs:w.heap.size<w1.heap.size:=EU rT.out.lt sK.size;exact⟨PK.below hB,((Gr.ak aV.out).trans sK).trans (Gr.ak hB),hlt,(sK.blk rT.out oz).below hB hs,by rw[hy];exact ah.new w1 _ _,hs⟩
 have HS:=lz hS;have Hy:=lz hy;clear hS PK sK h1 hy rT aV Mc;go_wp2_with fail;rw[<-Hy.out];refine jD HS (gY _ mem _ HS.out.eX hl HA.out.1 HA.out.2.1) λW2 sC=> ?_
 have k2:W2.cell? ⟨w1.heap.size,1,Ag⟩=Ai (.int .i64 0):=(eW.kb sC).1 1;have f2:W2.frozen? ⟨w1.heap.size,1,Ag⟩=false:=(eW.kb sC).2 1;clear HS Hy;go_wp2_with fail;have wg:=lz (sC.out.put 1 (.int .i64 mem));refine jD wg (gY _ fr _ wg.out.eX hl HA.out.2.2.1 HA.out.2.2.2.1) λW3 pP=> ?_
 clear k2 f2 sC wg;have k3:W3.cell? ⟨w1.heap.size,2,Ag⟩=Ai (.int .i64 0):=(eW.kb pP).1 2;have f3:W3.frozen? ⟨w1.heap.size,2,Ag⟩=false:=(eW.kb pP).2 2;go_wp2_with fail;have wh:=lz (pP.out.put 2 (.int .i64 fr));refine qQ wh (iX _ _ wh.out.eX hl HA.out.2.2.2.2.1) λv5 W5 qu=> ?_
 have QW:Hid (lP w g w1.heap.size A c ts sz #[.string ⟨#[]⟩,.int .i64 0,.int .i64 0,.slice Ag 0 0] #[.string nm,.int .i64 mem,.int .i64 fr,.slice Ag 0 0] (.slice Ag 0 0) [] (now+6) W5):=
  lz ⟨⟨qu.out,World.ownsRow_nil _ _ _ _⟩,dA.nil⟩
 clear k3 f3 pP wh qu;go_wp2;go_loopw [] (λwr=>∃(k:Nat) (v:Bn) (P:List aC),k<=L.length/\iC aC.is P (L.take k)/\lP w g w1.heap.size A c ts sz #[.string ⟨#[]⟩,.int .i64 0,.int .i64 0,.slice Ag 0 0] #[.string nm,.int .i64 mem,.int .i64 fr,v] v P (now+6+fL (L.take k)) wr) (λwr=>2*(ts.length+1)-jZ g wr)
 case atStart=>exact⟨0,_,[],nZ,trivial,QW.out⟩
 case round=>
  clear QW;obtain⟨k,v,P,hk,hP,hR⟩:=hrel;have hPl:P.length=k:=by have:=hP.len;simp at this;omega
  obtain⟨Av,cv,rfl,_⟩:=bp hR.ro.own;have HR:=lz hR;have HP:=lz hP;have wW:=hR.ro.po.eX.jZ;have hP1:P.length<=1000:=by omega
  have HPl:=lz hPl;obtain⟨pos,DE⟩:=ez (now+6+fL (L.take k));have DF:=Vw.out k hk;rw[<-DE]at DF wW HR;have aAw:=lz DE;clear hR hP hPl DE;by_cases iJ:k=L.length
  .have hs:=lz λW (hW:gM W g A c ts pos sz)=>ZR ⟨#[112,97,114,116]⟩ Bj W hW hl (by rw[iJ,List.drop_length]at DF;exact DF)
   have hpe:pos=now+6+fL L:=by rw[aAw.out,iJ,GS]
   have Hpe:=lz hpe;have vQ:=lz iJ;clear iJ DF hpe;go_wp2_with fail;refine Ti HR (hs.out _ HR.out.ro.po.eX) λW6 Om=> ?_
   clear HR hs;go_wp2_with fail;refine aDF Om (iX _ _ Om.out.ro.po.eX hl (by rw[show(if Bj=BR then pos+1 else pos)=pos from rfl,Hpe.out];exact HA.out.2.2.2.2.2)) λv7 W7 nI=> ?_
   clear Om;have c0:W7.cell? ⟨w1.heap.size,0,Ag⟩=Ai (.string nm):=(lP.kb nI).1 0;have c1:W7.cell? ⟨w1.heap.size,1,Ag⟩=Ai (.int .i64 mem):=(lP.kb nI).1 1;have c2:W7.cell? ⟨w1.heap.size,2,Ag⟩=Ai (.int .i64 fr):=(lP.kb nI).1 2;have c3:W7.cell? ⟨w1.heap.size,3,Ag⟩=Ai (.slice Av P.length cv):=(lP.kb nI).1 3;have r0:=nI.out.ro.po.res.cell 0;have r1:=nI.out.ro.po.res.cell 1;have r2:=nI.out.ro.po.res.cell 2;have r3:=nI.out.ro.po.res.cell 3;have f0:=nI.out.ro.po.res.frozen 0;have f1:=nI.out.ro.po.res.frozen 1;have f2:=nI.out.ro.po.res.frozen 2;have f3:=nI.out.ro.po.res.frozen 3;go_wp2_with fail;have HF:=lz ((((nI.out.sJ 0 (.string nm)).sJ 1 (.int .i64 mem)).sJ 2 (.int .i64 fr)).sJ 3 (.slice Av P.length cv));obtain⟨W8,hW8⟩:=ez (((((W7.setCell ⟨w.heap.size,0,Ag⟩ (.string nm)).setCell ⟨w.heap.size,1,Ag⟩ (.int .i64 mem)).setCell ⟨w.heap.size,2,Ag⟩ (.int .i64 fr)).setCell ⟨w.heap.size,3,Ag⟩ (.slice Av P.length cv)));rw[<-hW8]at HF ⊢;have z0:=HF.out.ro.po.res.cell 0;have z1:=HF.out.ro.po.res.cell 1;have z2:=HF.out.ro.po.res.cell 2;have z3:=HF.out.ro.po.res.cell 3;refine GJ (v:= .agg #[.string nm,.int .i64 mem,.int .i64 fr,.slice Av P.length cv]) (by simp[results,results196,go_sem,z0,z1,z2,z3]) rfl ?_;refine⟨⟨nm,mem,fr,⟨Av,cv,P⟩⟩,rfl,⟨Av,cv,P,rfl,?_⟩,?_,?_,HF.out.ro.po.gr⟩
   .have:=HP.out
    rw[vQ.out,GS]at this;exact this
   .intro r hr
    rcases BU.1 hr with rfl | hr
    .exact HF.out.ro.own
    .exact HF.out.q r hr
   .have:=HF.out.ro.po.eX
    rw[show(if Bj=BR then pos+1 else pos)+1=now+zi ⟨nm,mem,fr,L⟩from by
     show pos+1=now+(7+fL L);rw[Hpe.out];omega]at this
    exact this
  .have hkl:k<L.length:=by omega
   rw[List.drop_eq_getElem_cons hkl]at DF;unfold ug at DF;simp only[BW,decide_eq_true_eq]at DF;obtain⟨⟨⟨d1,d2⟩,d3⟩,_⟩:=DF;have hs:=lz λW (hW:gM W g A c ts pos sz)=>ZR ⟨#[112,97,114,116]⟩ BR W hW hl d1
   have VB:=lz λW (hW:gM W g A c ts (pos+1) sz)=>aHE L[k].at W hW hl d2 d3
   obtain⟨hpl,_⟩:=gG d1;clear d1 d2;go_wp2_with fail;refine Ti HR (hs.out _ HR.out.ro.po.eX) λW6 Om=> ?_
   clear HR hs;have HD:=lz (Om.out.next (W':=W6.drew) (Om.out.ro.po.eX.below (Below.refl _ _).drew) (Gr.ak (Below.refl _ _).drew));have O5:W6.drew.cell? ⟨w1.heap.size,3,Ag⟩=Ai (.slice Av P.length cv):=(lP.kb HD).1 3;clear Om;go_wp2_with fail;refine aT (λW'=>W'.cell? ⟨w1.heap.size,3,Ag⟩=Ai (.slice Av P.length cv)) 7 kz O5 (λhHeld=> ?_);refine TS 0 rfl hHeld ?_;simp only[zP,zA,zB,zC];refine TS 1 rfl hHeld ?_;simp only[zP,zA,zB,zC];refine TS 2 rfl hHeld ?_;simp only[zP,zA,zB,zC];refine RQ 3 rfl λK hK=> ?_
   go_simp;refine(VB.out _ HD.out.ro.po.eX).mono ?_;rintro e Vl ⟨Ap,cp,rfl,ZX,O6,O7⟩;obtain⟨y',hy'⟩:∃y':aC,y'=⟨L[k].nm,L[k].pe,L[k].le,L[k].mem,gN,0,0,gN,⟨Ap,cp,L[k].aq⟩,gN⟩:=⟨_,rfl⟩;have aMN:=HD.out.part (y:=⟨L[k].nm,L[k].pe,L[k].le,L[k].mem,gN,0,0,gN,⟨Ap,cp,L[k].aq⟩,gN⟩) O6 O7 ZX (nT HD.out.ro.po.gr.size nL);have qt:=lz aMN;have pZ:=qt.out.1.po.blk.cell 3;refine hK.out _ _ (λ_=>pZ) ?_;clear hK hHeld O6 O7 HD O5 aMN ZX;refine RQ 4 rfl λK hK=> ?_
   go_simp;have qb:(Vl.alloc (.cells #[.string L[k].nm,.int .i64 L[k].pe,.int .i64 L[k].le,.int .i64 L[k].mem,.slice Ag 0 0,.int .i64 0,.int .i64 0,.slice Ag 0 0,.slice Ap L[k].aq.length cp,.slice Ag 0 0] 71)).cell? ⟨w1.heap.size,3,Ag⟩=Ai (.slice Av P.length cv):=(qt.out.1.po.blk.alloc _).cell 3;refine hK.out _ _ (λ_=>qb) ?_;clear hK pZ;refine RQ 5 rfl λK hK=> ?_
   refine mC (by rfl) (.tmp 18) (.tmp 21) 65 (by rfl) w.heap.size 71 i0 (.agg #[.string ⟨#[]⟩,.int .i64 0,.int .i64 0,.int .i64 0,.slice Ag 0 0,.int .i64 0,.int .i64 0,.slice Ag 0 0,.slice Ag 0 0,.slice Ag 0 0]) 10 152 underlying65 lX hz0 hz1 hz2 rfl dz (.slice Av P.length cv) P.length _ (by rfl) (qt.out.1.own.alloc _) ⟨Vl.heap.size,0,Ag⟩ 1 1 [.string L[k].nm,.int .i64 L[k].pe,.int .i64 L[k].le,.int .i64 L[k].mem,.slice Ag 0 0,.int .i64 0,.int .i64 0,.slice Ag 0 0,.slice Ap L[k].aq.length cp,.slice Ag 0 0] (by rfl) (by rfl) ?c1 ?c2 ?c3 ?c4 ?c5 ?_
   case c1=>
    intro j u' hj;rw[bO,E9,(ah.new Vl 71 #[.string L[k].at.nm,.int .i64 L[k].at.pe,.int .i64 L[k].at.le,.int .i64 L[k].at.mem,.slice Ag 0 0,.int .i64 0,.int .i64 0,.slice Ag 0 0,.slice Ap L[k].at.aq.l.length cp,.slice Ag 0 0]).cell j];simpa [qK.at]using hj
   case c2=>intro u' kQ;simp at kQ;rcases kQ with rfl | rfl | rfl | rfl | rfl | rfl | rfl | rfl | rfl | rfl<;>rfl
   case c3=>unfold EW;omega
   case c4=>omega
   case c5=>have:=qt.out.1.po.gr.size;simp;omega
   intro v19 VJ oZ O8;obtain⟨Av9,cv9,rfl,_⟩:=bp oZ;have Mb:=lz (aDG (y:=⟨L[k].nm,L[k].pe,L[k].le,L[k].mem,gN,0,0,gN,⟨Ap,cp,L[k].aq⟩,gN⟩) qt.out.1 qt.out.2 oZ O8);have nJ:VJ.cell? ⟨w1.heap.size,3,Ag⟩=Ai (.slice Av P.length cv):=(lP.kb Mb).1 3;have aHJ:VJ.frozen? ⟨w1.heap.size,3,Ag⟩=false:=(lP.kb Mb).2 3;refine hK.out _ _ (λ_=>nJ) ?_;clear hK qb oZ O8 qt;refine TS 6 rfl nJ ?_;simp only[zP,zA,zB,zC];refine RQ 7 rfl λK hK=> ?_
   go_simp;refine hK.out _ _ (λh=>absurd h dz) ?_;clear hK;refine aL kz ?_ _;have Rz:=lz (Mb.out.put 3 (.slice Av9 (P.length+1) cv9));clear Mb;go_wp2;go_roundw
   case rel=>
    refine⟨k+1,.slice Av9 (P.length+1) cv9,P++ [⟨L[k].nm,L[k].pe,L[k].le,L[k].mem,gN,0,0,gN,⟨Ap,cp,L[k].aq⟩,gN⟩],oz,?_,?_⟩
    .rw[Dl hkl]
     exact iC.add ⟨Ap,cp,rfl⟩ HP.out
    .have:=Rz.out
     rw[show pos+1+9+8*L[k].at.aq.l.length=now+6+fL (L.take (k+1))from by
      rw[Dl hkl,vk];show pos+1+9+8*L[k].aq.length=_;rw[aAw.out];unfold uf;omega]at this
     exact this
   case measure=>
    have h1:=Rz.out.ro.po.eX.jZ;rw[wW,h1];have:=Rz.out.ro.po.eX;have hle:=Rz.out.ro.po.eX;omega
end
structure MJ where
 b:Nat
 t:E3
 cs:Array Bn
structure ig(w0:Al)(g:Nat)(A:Option EK)(c:Nat)(ts:List Tok)(sz:Int)(K:List MJ)(Q:List jK)(p:Nat)(W:Al):Prop where
 eX:gM W g A c ts p sz
 lE:Below w0.heap.size w0 W
 hB:w0.heap.size<=g
 bx:∀r∈K,w0.heap.size<=r.b/\r.b≠g/\ah W r.b r.t r.cs
 q:dA W (g+1) Q
def ZY(Q:List jK)(b:Nat):Prop:=∀r∈Q,∀k,r.v.ownBlock=Ai k->k≠b
section
variable {w0:Al} {g:Nat} {A:Option EK} {c:Nat} {ts:List Tok} {now:Nat} {sz:Int} {K K':List MJ} {Q Q':List jK} {p p':Nat} {W W':Al}
theorem zk{k:Nat}(h:Below w0.heap.size w0 W)(hG:Gr (· =k) W W')(hk:w0.heap.size<=k):Below w0.heap.size w0 W':=
 ⟨hG.os.trans h.os,hG.tape.trans h.tape,hG.output.trans h.output,nT h.size hG.size,λj hj=>(hG.block j (EU hj h.size) oz).trans (h.block j hj)⟩
theorem ig.sub(h:ig w0 g A c ts sz K Q p W)(hK:∀r∈K',r∈K)(hQ:∀r∈Q',r∈Q):ig w0 g A c ts sz K' Q' p W:=
 ⟨h.eX,h.lE,h.hB,λr hr=>h.bx r (hK r hr),λr hr=>h.q r (hQ r hr)⟩
theorem ig.next(h:ig w0 g A c ts sz K Q p W)(hI:gM W' g A c ts p' sz)(hG:Gr (· =g) W W'):ig w0 g A c ts sz K Q p' W':=
 ⟨hI,zk h.lE hG h.hB,h.hB,λr hr=>⟨(h.bx r hr).1,(h.bx r hr).2.1,hG.blk (h.bx r hr).2.2 (h.bx r hr).2.1⟩,h.q.gr hG (Nat.lt_succ_self g)⟩
theorem ig.below(h:ig w0 g A c ts sz K Q p W)(hb:Below W.heap.size W W'):ig w0 g A c ts sz K Q p W':=h.next (h.eX.below hb) (Gr.ak hb)
theorem iG{f:FuncId}{args:Array Bn}{u:Bn}{R:Ending->Al->Prop}(h:Hid (ig w0 g A c ts sz K Q p W))(hc:PC f args W g A c ts sz p' u)
 (k:∀W',Hid (ig w0 g A c ts sz K Q p' W')->R (.returned u) W'):ET pG f args W R:=
 hc.mono λe W' hh=>by obtain⟨rfl,h1,h2⟩:=hh;exact k W' (lz (h.out.next h1 h2))
theorem yT{f:FuncId}{args:Array Bn}{R:Ending->Al->Prop}(h:Hid (ig w0 g A c ts sz K Q p W))(hc:ET pG f args W λe w'=>(∃v,e= .returned v)/\gM w' g A c ts p' sz/\Gr (· =g) W w')
 (k:∀u W',Hid (ig w0 g A c ts sz K Q p' W')->R (.returned u) W'):ET pG f args W R:=
 hc.mono λe W' hh=>by obtain⟨⟨u,rfl⟩,h1,h2⟩:=hh;exact k u W' (lz (h.out.next h1 h2))
theorem nK{f:FuncId}{args:Array Bn}{u:Bn}{R:Ending->Al->Prop}(h:Hid (ig w0 g A c ts sz K Q p W))(hc:CV f args W u)
 (k:∀W',Hid (ig w0 g A c ts sz K Q p W')->R (.returned u) W'):ET pG f args W R:=
 hc.mono λe W' hh=>by obtain⟨rfl,h1⟩:=hh;exact k W' (lz (h.out.below h1))
theorem ig.kb{r:MJ}(h:Hid (ig w0 g A c ts sz (r :: K) Q p W)):(∀i,W.cell? ⟨r.b,i,Ag⟩=r.cs[i]?)/\(∀i,W.frozen? ⟨r.b,i,Ag⟩=Bj):=
 have hb:=(h.out.bx r (BS ..)).2.2
 ⟨hb.cell,hb.frozen⟩
theorem ig.at_(h:ig w0 g A c ts sz K Q p W){r:MJ}(hr:r∈K):ah W r.b r.t r.cs:=(h.bx r hr).2.2
theorem ig.put{b:Nat}{t:E3}{cs:Array Bn}(h:ig w0 g A c ts sz (⟨b,t,cs⟩ :: K) Q p W)(Ec:g<b)(hK:∀r∈K,r.b≠b)(hQ:ZY Q b)(i:Nat)(u:Bn):ig w0 g A c ts sz (⟨b,t,cs.setIfInBounds i u⟩ :: K) Q p (W.setCell ⟨b,i,Ag⟩ u):=by
 obtain⟨h1,h2,h3⟩:=h.bx _ (BS ..);refine⟨h.eX.far Ec _,zk h.lE (Gr.setCell (X:=(· =b)) _ _ _ rfl) h1,h.hB,λr hr=> ?_,λr hr=>cO (h.q r hr) (Gr.setCell (X:=(· =b)) _ _ _ rfl) (hQ r hr)⟩
 .rcases BU.1 hr with rfl | hr
  .exact⟨h1,h2,h3.bX i u⟩
  .obtain⟨k1,k2,k3⟩:=h.bx r (EX _ hr)
   exact⟨k1,k2,k3.far (hK r hr) _⟩
theorem ig.new(h:ig w0 g A c ts sz K Q p W)(t:E3)(cs:Array Bn):ig w0 g A c ts sz (⟨W.heap.size,t,cs⟩ :: K) Q p (W.alloc (.cells cs t)):=by
 have h1:=h.below (W':=W.alloc (.cells cs t)) (bN);refine⟨h1.eX,h1.lE,h1.hB,λr hr=> ?_,h1.q⟩;rcases BU.1 hr with rfl | hr
 .exact⟨h.lE.size,fun(e:W.heap.size=g)=>by have:=h.eX.lt;omega,ah.new W t cs⟩
 .exact h1.bx r hr
theorem ig.far(h:ig w0 g A c ts sz K Q p W):ZY Q W.heap.size/\∀r∈K,r.b≠W.heap.size:=
 ⟨λr hr k hk e=>by have:=((h.q r hr).lt k hk).2;omega,λr hr e=>by have:=(h.bx r hr).2.2.lt;omega⟩
theorem ig.J4{r:MJ}(h:ig w0 g A c ts sz K Q p W)(hr:r∈K)(hq:∀q∈Q,q.t≠r.t):ZY Q r.b:=λq hq' k hk e=>
 aW (h.q q hq') (h.at_ hr) (hq q hq') (e▸hk)
theorem ig.Wf{b:Nat}{t:E3}{x0 x1 x2 x3 x4 x5 x6 x7:Bn}(h:ig w0 g A c ts sz (⟨b,t,#[x0,x1,x2,x3,x4,x5,x6,x7]⟩ :: K) Q p W)(Ec:g<b)(hK:∀r∈K,r.b≠b)(hQ:ZY Q b)(a0 a1 a2 a3 a4 a5 a6 a7:Bn):
 ig w0 g A c ts sz (⟨b,t,#[a0,a1,a2,a3,a4,a5,a6,a7]⟩ :: K) Q p ((((((((W.setCell ⟨b,0,Ag⟩ a0).setCell ⟨b,1,Ag⟩ a1).setCell ⟨b,2,Ag⟩ a2).setCell ⟨b,3,Ag⟩ a3).setCell ⟨b,4,Ag⟩ a4).setCell ⟨b,5,Ag⟩ a5).setCell ⟨b,6,Ag⟩ a6).setCell ⟨b,7,Ag⟩ a7):=by
 have:=(((((((h.put Ec hK hQ 0 a0).put Ec hK hQ 1 a1).put Ec hK hQ 2 a2).put Ec hK hQ 3 a3).put Ec hK hQ 4 a4).put Ec hK hQ 5 a5).put Ec hK hQ 6 a6).put Ec hK hQ 7 a7;simpa using this
theorem ig.grow{t:E3}{n m m':Nat}{v v':Bn}{xs ys:List Bn}{o:Obj}(h:ig w0 g A c ts sz K (⟨t,n,v,m,xs⟩ :: Q) p W)(hK:∀r∈K,r.t≠t)(hQ:∀r∈Q,r.t≠t)
 (hown:W'.ownsRow (g+1) t n v' m' ys) (hG:(W.alloc o).grownBy W' v.ownBlock):ig w0 g A c ts sz K (⟨t,n,v',m',ys⟩ :: Q) p W':=by
 have h1:=h.below (W':=W.alloc o) (bN);have ho:=h1.q _ (BS ..);have hgr:Gr (λk=>v.ownBlock=Ai k) (W.alloc o) W':=Gr.eO hG (λk e=>e);have JQ:∀k,v.ownBlock=Ai k->g+1<=k:=λk hk=>(ho.lt k hk).1
 refine⟨h1.eX.kept hgr (λk hk e=>by have:=JQ k e;omega),?_,h.hB,λr hr=> ?_,λr hr=> ?_⟩
 .have hh:=h.hB
  exact⟨hgr.os.trans h1.lE.os,hgr.tape.trans h1.lE.tape,hgr.output.trans h1.lE.output,nT h1.lE.size hgr.size,λj hj=>(hgr.block j (EU hj h1.lE.size) (λe=>by have:=JQ j e;omega)).trans (h1.lE.block j hj)⟩
 .obtain⟨k1,k2,k3⟩:=h1.bx r hr
  exact⟨k1,k2,hgr.blk k3 (aW ho k3 (Ne.symm (hK r hr)))⟩
 .rcases BU.1 hr with rfl | hr
  .exact hown
  .exact cO (h1.q r (EX _ hr)) hgr (λk hk=>Db (h1.q r (EX _ hr)) ho (hQ r hr) k hk)
theorem ig.rows{b:Nat}{R:List jK}(h:ig w0 g A c ts sz K Q p W)(hR:dA W b R)(hb:g+1<=b):ig w0 g A c ts sz K (R++Q) p W:=
 ⟨h.eX,h.lE,h.hB,h.bx,(hR.aMM hb).app h.q⟩
end
abbrev zj(v:Bn)(M:List bT):jK:=⟨67,4,v,M.length,M.flatMap bT.cells⟩
abbrev wS(v:Bn)(S:List iI):jK:=⟨87,4,v,S.length,S.flatMap iI.cells⟩
abbrev wT(v:Bn)(L:List aO):jK:=⟨46,4,v,L.length,L.flatMap aO.cells⟩
abbrev vB(v:Bn)(V:List fU):jK:=⟨44,7,v,V.length,V.flatMap fU.cells⟩
abbrev gy(v0 v2 v3 v4:Bn):Array Value:= #[v0,.slice Ag 0 0,v2,v3,v4,.slice Ag 0 0,.slice Ag 0 0,.slice Ag 0 0]
abbrev jg:Array Value:=gy (.slice Ag 0 0) (.slice Ag 0 0) (.slice Ag 0 0) (.slice Ag 0 0)
theorem O9{ts:List Tok}{p:Nat}{u s:ByteArray}{q:Bool}(h:gZ ts p (wj u)=BR)(hq:(u.toList==s.toList)=q):gZ ts p (λt=>dB t s==q)=true:=by
 unfold gZ at h ⊢;split
 .rename_i t ht
  rw[ht]at h;unfold wj at h;simp only[BW,beq_iff_eq,decide_eq_true_eq]at h;simp only[dB,h.1,h.2,hq];simp
 .rename_i ht
  rw[ht]at h;cases h
theorem Dd{ts:List Tok}{p:Nat}{u s:ByteArray}(h:gZ ts p (wj u)=BR)(hq:(u.toList==s.toList)=BR):gZ ts p (λt=>dB t s)=true:=by
 have:=O9 h hq;simpa using this
theorem rR{ts:List Tok}{p:Nat}{u s:ByteArray}(h:gZ ts p (wj u)=BR)(hq:(u.toList==s.toList)=Bj):gZ ts p (λt=> !dB t s)=true:=by
 have:=O9 h hq;simpa using this
def Tj(ts:List Tok)(p:Nat)(n:Int):Bool:=gZ ts p (λt=>dB t ⟨#[110,101,116]⟩)&&((gZ ts (p+1) (wj ⟨#[97]⟩)&&decide (n=0))||(gZ ts (p+1) (wj ⟨#[98]⟩)&&decide (n=1)))
section
variable {g:Nat} {A:Option EK} {c:Nat} {ts:List Tok} {now:Nat} {sz:Int}
theorem Fp(n:Int)(w:Al)(h:gM w g A c ts now sz)(hl:ts.length<=100000)(ha:Tj ts now n=BR):
 PC 201 #[.pointer (Ai ⟨g,0,Ag⟩)] w g A c ts sz (now+2) (.int .i64 n):=by
 unfold Tj at ha;simp only[BW,Bool.or_eq_true,decide_eq_true_eq]at ha;obtain⟨a,⟨b,rfl⟩ | ⟨b,rfl⟩⟩:=ha
 .exact JL _ 0 w h hl a b kz oz
 .exact JL _ 1 w h hl a b kz oz
end
def aEW(ts:List Tok)(p:Nat)(x:iI):Bool:=gZ ts p (wj x.nm)&&Tj ts (p+1) x.net&&gZ ts (p+3) (λt=>dB t ⟨#[100,101,108,97,121]⟩)&&gZ ts (p+4) (Te x.dl)&&gZ ts (p+5) (λt=>dB t ⟨#[115,116,111,114,101]⟩)&&gZ ts (p+6) (Te x.st)&&gZ ts (p+7) (λt=>dB t ⟨#[59]⟩)
def aEX(ts:List Tok)(p:Nat)(x:aO):Bool:=gZ ts p (wj x.a)&&gZ ts (p+1) (wj x.b)&&Tj ts (p+2) x.net&&gZ ts (p+4) (λt=>dB t ⟨#[115,108,111,119]⟩)&&gZ ts (p+5) (Te x.slow)&&gZ ts (p+6) (λt=>dB t ⟨#[59]⟩)
def aEY(ts:List Tok)(p:Nat)(x:VlT):Bool:=gZ ts p (wj x.nm)&&gZ ts (p+1) (λt=>dB t ⟨#[102,114,111,109]⟩)&&Vk ts (p+2) x.src&&gZ ts (p+7) (λt=>dB t ⟨#[98,97,103]⟩)&&gZ ts (p+8) (Te x.lQ)&&gZ ts (p+9) (λt=>dB t ⟨#[109,97,120]⟩)&&gZ ts (p+10) (Te x.mx)&&gZ ts (p+11) (λt=>dB t ⟨#[116,111]⟩)&&Tf ts (p+12) x.dst&&gZ ts (p+12+6*x.dst.length-1) (λt=>dB t ⟨#[59]⟩)&&decide (0<x.dst.length)&&decide (x.dst.length<=1000)
section
variable {w0:Al} {g:Nat} {A:Option EK} {c:Nat} {ts:List Tok} {now:Nat} {sz:Int} {K:List MJ} {Q:List jK}
theorem aAq(x:iI)(q0 q3 q4:Option EK)(n0 m0 n3 m3 n4 m4:Nat)(v2:Bn)(L:List iI)(w:Al)(h:ig w0 g A c ts sz K (wS v2 L :: Q) now w)(hq:∀r∈Q,r.t≠87/\r.t≠31)(hk:∀r∈K,r.t=31)(hl:ts.length<=100000)(ha:gZ ts now (wj ⟨#[115,119,105,116,99,104]⟩)=BR)(hb:aEW ts (now+1) x=BR)(hL:L.length<=1000):
 ET pG 116 #[.pointer (Ai ⟨g,0,Ag⟩),.agg (gy (.slice q0 n0 m0) v2 (.slice q3 n3 m3) (.slice q4 n4 m4))] w λe w'=>∃u,e= .returned (.agg (gy (.slice q0 n0 m0) u (.slice q3 n3 m3) (.slice q4 n4 m4)))/\ig w0 g A c ts sz K (wS u (L++ [x]) :: Q) (now+1+8) w':=by
 unfold aEW at hb;simp only[BW]at hb;obtain⟨⟨⟨⟨⟨⟨a1,a2⟩,a3⟩,a4⟩,a5⟩,a6⟩,a7⟩:=hb;obtain⟨nm,net,dl,st⟩:=x;dsimp only at a1 a2 a3 a4 a5 a6 a7;have ho:w.ownsRow (g+1) 87 4 v2 L.length (L.flatMap iI.cells):=h.q _ (BS ..);obtain⟨Av,cv,rfl,_⟩:=bp ho;clear ho;obtain⟨w1,cN⟩:=ez ((w.alloc (.cells (gy (.slice q0 n0 m0) (.slice Av L.length cv) (.slice q3 n3 m3) (.slice q4 n4 m4)) 31)).alloc (.cells jg 31));have zh:ig w0 g A c ts sz (⟨w.heap.size+1,31,jg⟩ :: ⟨w.heap.size,31,gy (.slice q0 n0 m0) (.slice Av L.length cv) (.slice q3 n3 m3) (.slice q4 n4 m4)⟩ :: K) (wS (.slice Av L.length cv) L :: Q) now w1:=by
  rw[cN];have:=(h.new 31 (gy (.slice q0 n0 m0) (.slice Av L.length cv) (.slice q3 n3 m3) (.slice q4 n4 m4))).new 31 jg
  rwa[Dj]at this
 have HK:Hid (∀r∈K,r.t=31/\r.b<w.heap.size):=lz λr hr=>⟨hk r hr,(h.at_ hr).lt⟩
 have MN:=h.eX.lt;have I7:=lz zh;have lH:=lz cN;have HQ:=lz hq;have Ha:=lz ha;clear h hk zh cN hq ha;have HA:=lz (ai a1 (ai a2 (ai a3 (ai a4 (ai a5 (ai a6 a7))))));clear a1 a2 a3 a4 a5 a6 a7;obtain⟨i0,lX,hz0,hz1,hz2⟩:=info_parts aHM;go_enter func116,ntmps116;go_wp2_with fail;rw[<-lH.out];refine nK I7 (vg ⟨#[109,111,100,117,108,101]⟩ _ I7.out.eX hl (rR Ha.out kz)) λY1 sE=> ?_
 clear I7;go_wp2_with fail;refine nK sE (vg ⟨#[99,104,97,110,110,101,108]⟩ _ sE.out.eX hl (rR Ha.out kz)) λY2 sC=> ?_
 clear sE;go_wp2_with fail;refine iG sC (Fm ⟨#[115,119,105,116,99,104]⟩ _ sC.out.eX hl (Dd Ha.out kz)) λY3 pP=> ?_
 clear sC;go_wp2_with fail;refine iG pP (kV nm _ pP.out.eX hl HA.out.1) λZ0 HZ=> ?_
 clear pP;have Fl:=HZ.out.far;have kW:=lz Fl;have HB:=lz (HZ.out.new 87 #[.string nm,.int .i64 0,.int .i64 0,.int .i64 0]);have Mp:=HZ.out.eX.lt;have hwz:w.heap.size+1<Z0.heap.size:=(HZ.out.at_ (BS ..)).lt;obtain⟨B,Z2⟩:=ez Z0.heap.size;rw[<-Z2]at HB kW Mp hwz;obtain⟨Z1,Z4⟩:=ez (Z0.alloc (.cells #[.string nm,.int .i64 0,.int .i64 0,.int .i64 0] 87));rw[<-Z4]at HB;have HZ1:=lz Z4;have HBe:=lz Z2;clear Fl HZ Z4 Z2;go_wp2_with fail;rw[<-HZ1.out,<-HBe.out];clear HZ1;refine iG HB (Fp net _ HB.out.eX hl HA.out.2.1) λX0 NH=> ?_
 have k0:X0.cell? ⟨B,1,Ag⟩=Ai (.int .i64 0):=(ig.kb NH).1 1;have f0:X0.frozen? ⟨B,1,Ag⟩=false:=(ig.kb NH).2 1;clear HB;go_wp2_with fail;have RA:=lz (NH.out.put Mp kW.out.2 kW.out.1 1 (.int .i64 net));clear k0 f0 NH;refine iG RA (gY _ dl _ RA.out.eX hl HA.out.2.2.1 HA.out.2.2.2.1) λX1 CZ=> ?_
 have k1:X1.cell? ⟨B,2,Ag⟩=Ai (.int .i64 0):=(ig.kb CZ).1 2;have f1:X1.frozen? ⟨B,2,Ag⟩=false:=(ig.kb CZ).2 2;clear RA;go_wp2_with fail;have Fq:=lz (CZ.out.put Mp kW.out.2 kW.out.1 2 (.int .i64 dl));clear k1 f1 CZ;refine iG Fq (gY _ st _ Fq.out.eX hl HA.out.2.2.2.2.1 HA.out.2.2.2.2.2.1) λX2 qB=> ?_
 have k2:X2.cell? ⟨B,3,Ag⟩=Ai (.int .i64 0):=(ig.kb qB).1 3;have f2:X2.frozen? ⟨B,3,Ag⟩=false:=(ig.kb qB).2 3;clear Fq;go_wp2_with fail;have Ft:=lz (qB.out.put Mp kW.out.2 kW.out.1 3 (.int .i64 st));clear k2 f2 qB;refine yT Ft (iX _ _ Ft.out.eX hl HA.out.2.2.2.2.2.2) λu3 X3 Ja=> ?_
 clear Ft;have gP:ah X3 w.heap.size 31 (gy (.slice q0 n0 m0) (.slice Av L.length cv) (.slice q3 n3 m3) (.slice q4 n4 m4)):=Ja.out.at_ (r:=⟨w.heap.size,31,gy (.slice q0 n0 m0) (.slice Av L.length cv) (.slice q3 n3 m3) (.slice q4 n4 m4)⟩) qz;have JM:ah X3 B 87 #[.string nm,.int .i64 net,.int .i64 dl,.int .i64 st]:=Ja.out.at_ (BS ..);have b2:=gP.cell 2;have x0:=JM.cell 0;have x1:=JM.cell 1;have x2:=JM.cell 2;have x3:=JM.cell 3;have HX:=lz (Ja.out.sub (K':=⟨w.heap.size,31,gy (.slice q0 n0 m0) (.slice Av L.length cv) (.slice q3 n3 m3) (.slice q4 n4 m4)⟩ :: ⟨w.heap.size+1,31,jg⟩ :: K) (Q':=wS (.slice Av L.length cv) L :: Q) (λr hr=>by
  simp only[BU]at hr ⊢;rcases hr with hr | hr | hr
  .exact .inr (.inr (.inl hr))
  .exact .inr (.inl hr)
  .exact .inr (.inr (.inr hr))) (λr hr=>hr))
 clear Ja gP JM;go_wp2_with (at_builtin;refine G9 _ rfl (.tmp 59) (.tmp 61) 24 rfl (g+1) 87 i0 (.agg #[.string ⟨#[]⟩,.int .i64 0,.int .i64 0,.int .i64 0]) 4 40 underlying24 lX hz0 hz1 hz2 rfl dz _ _ _ rfl ((HX.out.q _ (BS ..)).alloc _) ⟨X3.heap.size,0,Ag⟩ 1 1 [.string nm,.int .i64 net,.int .i64 dl,.int .i64 st] rfl rfl ?c1 ?c2 ?c3 ?c4 ?c5 ?_)
 case c1=>
  intro j u' hj;rw[bO,E9,(ah.new X3 87 #[.string nm,.int .i64 net,.int .i64 dl,.int .i64 st]).cell j];simpa using hj
 case c2=>intro u' kQ;simp at kQ;rcases kQ with rfl | rfl | rfl | rfl<;>rfl
 case c3=>unfold EW;omega
 case c4=>omega
 case c5=>have:=HX.out.eX.lt;simp;omega
 intro v9 W9 mT VD _;obtain⟨Au,cu,rfl,_⟩:=bp mT;have hG:=HX.out.grow (λr hr=> ?hK) (λr hr=>(HQ.out r hr).1) (show W9.ownsRow (g+1) 87 4 (.slice Au (L.length+1) cu) (L.length+1) (L.flatMap iI.cells++ [.string nm,.int .i64 net,.int .i64 dl,.int .i64 st])from mT) VD
 case hK=>
  simp only[BU]at hr;rcases hr with rfl | rfl | hr
  .show 31≠87;decide
  .show 31≠87;decide
  .rw[(HK.out r hr).1];decide
 rw[show(⟨87,4,.slice Au (L.length+1) cu,L.length+1,L.flatMap iI.cells++ [.string nm,.int .i64 net,.int .i64 dl,.int .i64 st]⟩:jK)=wS (.slice Au (L.length+1) cu) (L++ [⟨nm,net,dl,st⟩])from by simp[iI.cells]]at hG;have HG:=lz hG;have b9:W9.cell? ⟨w.heap.size,2,Ag⟩=Ai (.slice Av L.length cv):=(ig.kb HG).1 2;have bf9:W9.frozen? ⟨w.heap.size,2,Ag⟩=false:=(ig.kb HG).2 2;clear hG mT VD b2 x0 x1 x2 x3 HX;have HP:=lz (HG.out.put MN (λr hr=> ?hK2) (HG.out.J4 (BS ..) (λq hq=> ?Sk)) 2 (.slice Au (L.length+1) cu))
 case hK2=>
  rcases BU.1 hr with rfl | hr
  .show w.heap.size+1≠w.heap.size;omega
  .have:=(HK.out r hr).2;omega
 case Sk=>
  rcases BU.1 hq with rfl | hq
  .show 87≠31;decide
  .exact(HQ.out q hq).2
 have hcb:ah W9 w.heap.size 31 (gy (.slice q0 n0 m0) (.slice Av L.length cv) (.slice q3 n3 m3) (.slice q4 n4 m4)):=HG.out.at_ (BS ..);have iy:ah W9 (w.heap.size+1) 31 jg:=HG.out.at_ (r:=⟨w.heap.size+1,31,jg⟩) qz;have d0:=hcb.cell 0;have d1:=hcb.cell 1;have d2:=hcb.cell 2;have d3:=hcb.cell 3;have d4:=hcb.cell 4;have d5:=hcb.cell 5;have d6:=hcb.cell 6;have d7:=hcb.cell 7;have r0:=iy.cell 0;have r1:=iy.cell 1;have r2:=iy.cell 2;have r3:=iy.cell 3;have r4:=iy.cell 4;have r5:=iy.cell 5;have r6:=iy.cell 6;have r7:=iy.cell 7;have e0:=iy.frozen 0;have e1:=iy.frozen 1;have e2:=iy.frozen 2;have e3:=iy.frozen 3;have e4:=iy.frozen 4;have e5:=iy.frozen 5;have e6:=iy.frozen 6;have e7:=iy.frozen 7;clear hcb iy HG;go_wp2_with fail;have RB:=lz (HP.out.sub (K':=⟨w.heap.size+1,31,jg⟩ :: K) (Q':=wS (.slice Au (L.length+1) cu) (L++ [⟨nm,net,dl,st⟩]) :: Q) (λr hr=>by
  simp only[BU]at hr ⊢;rcases hr with hr | hr
  .exact .inr (.inl hr)
  .exact .inr (.inr hr)) (λr hr=>by simpa using hr))
 have RE:=lz (RB.out.Wf (show g<w.heap.size+1 by omega) (λr hr=>by have:=(HK.out r hr).2;omega) (RB.out.J4 (BS ..) (λq hq=>by
  rcases BU.1 hq with rfl | hq
  .show 87≠31;decide
  .exact(HQ.out q hq).2)) (.slice q0 n0 m0) (.slice Ag 0 0) (.slice Au (L.length+1) cu) (.slice q3 n3 m3) (.slice q4 n4 m4) (.slice Ag 0 0) (.slice Ag 0 0) (.slice Ag 0 0))
 clear HP RB b9 bf9 d0 d1 d2 d3 d4 d5 d6 d7 r0 r1 r2 r3 r4 r5 r6 r7 e0 e1 e2 e3 e4 e5 e6 e7;obtain⟨WZ,hWZ⟩:=ez ((((((((((W9.setCell ⟨w.heap.size,2,Ag⟩ (.slice Au (L.length+1) cu)).setCell ⟨w.heap.size+1,0,Ag⟩ ((.slice q0 n0 m0))).setCell ⟨w.heap.size+1,1,Ag⟩ (.slice Ag 0 0)).setCell ⟨w.heap.size+1,2,Ag⟩ (.slice Au (L.length+1) cu)).setCell ⟨w.heap.size+1,3,Ag⟩ ((.slice q3 n3 m3))).setCell ⟨w.heap.size+1,4,Ag⟩ ((.slice q4 n4 m4))).setCell ⟨w.heap.size+1,5,Ag⟩ (.slice Ag 0 0)).setCell ⟨w.heap.size+1,6,Ag⟩ (.slice Ag 0 0)).setCell ⟨w.heap.size+1,7,Ag⟩ (.slice Ag 0 0)));rw[<-hWZ]at RE ⊢;have tO:ah WZ (w.heap.size+1) 31 (gy (.slice q0 n0 m0) (.slice Au (L.length+1) cu) (.slice q3 n3 m3) (.slice q4 n4 m4)):=RE.out.at_ (BS ..);have z0:=tO.cell 0;have z1:=tO.cell 1;have z2:=tO.cell 2;have z3:=tO.cell 3;have z4:=tO.cell 4;have z5:=tO.cell 5;have z6:=tO.cell 6;have z7:=tO.cell 7;refine GJ (v:= .agg (gy (.slice q0 n0 m0) (.slice Au (L.length+1) cu) (.slice q3 n3 m3) (.slice q4 n4 m4))) (by simp[results,results116,go_sem,z0,z1,z2,z3,z4,z5,z6,z7]) rfl ?_;refine⟨_,rfl,?_⟩;have:=RE.out.sub (K':=K) (Q':=wS (.slice Au (L.length+1) cu) (L++ [⟨nm,net,dl,st⟩]) :: Q) (λr hr=>EX _ hr) (λr hr=>hr);rw[show now+1+8=now+1+1+2+2+2+1 from by omega];exact this
theorem aAr(x:aO)(q0 q2 q4:Option EK)(n0 m0 n2 m2 n4 m4:Nat)(v3:Bn)(L:List aO)(w:Al)(h:ig w0 g A c ts sz K (wT v3 L :: Q) now w)(hq:∀r∈Q,r.t≠46/\r.t≠31)(hk:∀r∈K,r.t=31)(hl:ts.length<=100000)(ha:gZ ts now (wj ⟨#[108,105,110,107]⟩)=BR)(hb:aEX ts (now+1) x=BR)(hL:L.length<=1000):
 ET pG 116 #[.pointer (Ai ⟨g,0,Ag⟩),.agg (gy (.slice q0 n0 m0) (.slice q2 n2 m2) v3 (.slice q4 n4 m4))] w λe w'=>∃u,e= .returned (.agg (gy (.slice q0 n0 m0) (.slice q2 n2 m2) u (.slice q4 n4 m4)))/\ig w0 g A c ts sz K (wT u (L++ [x]) :: Q) (now+1+7) w':=by
 unfold aEX at hb;simp only[BW]at hb;obtain⟨⟨⟨⟨⟨a1,a2⟩,a3⟩,a4⟩,a5⟩,a6⟩:=hb;obtain⟨na,nb,net,slo⟩:=x;dsimp only at a1 a2 a3 a4 a5 a6;have ho:w.ownsRow (g+1) 46 4 v3 L.length (L.flatMap aO.cells):=h.q _ (BS ..);obtain⟨Av,cv,rfl,_⟩:=bp ho;clear ho;obtain⟨w1,cN⟩:=ez ((w.alloc (.cells (gy (.slice q0 n0 m0) (.slice q2 n2 m2) (.slice Av L.length cv) (.slice q4 n4 m4)) 31)).alloc (.cells jg 31));have zh:ig w0 g A c ts sz (⟨w.heap.size+1,31,jg⟩ :: ⟨w.heap.size,31,gy (.slice q0 n0 m0) (.slice q2 n2 m2) (.slice Av L.length cv) (.slice q4 n4 m4)⟩ :: K) (wT (.slice Av L.length cv) L :: Q) now w1:=by
  rw[cN];have:=(h.new 31 (gy (.slice q0 n0 m0) (.slice q2 n2 m2) (.slice Av L.length cv) (.slice q4 n4 m4))).new 31 jg
  rwa[Dj]at this
 have HK:Hid (∀r∈K,r.t=31/\r.b<w.heap.size):=lz λr hr=>⟨hk r hr,(h.at_ hr).lt⟩
 have MN:=h.eX.lt;have I7:=lz zh;have lH:=lz cN;have HQ:=lz hq;have Ha:=lz ha;clear h hk zh cN hq ha;have HA:=lz (ai a1 (ai a2 (ai a3 (ai a4 (ai a5 a6)))));clear a1 a2 a3 a4 a5 a6;obtain⟨i0,lX,hz0,hz1,hz2⟩:=info_parts aHN;go_enter func116,ntmps116;go_wp2_with fail;rw[<-lH.out];refine nK I7 (vg ⟨#[109,111,100,117,108,101]⟩ _ I7.out.eX hl (rR Ha.out kz)) λY1 sE=> ?_
 clear I7;go_wp2_with fail;refine nK sE (vg ⟨#[99,104,97,110,110,101,108]⟩ _ sE.out.eX hl (rR Ha.out kz)) λY2 sC=> ?_
 clear sE;go_wp2_with fail;refine nK sC (vg ⟨#[115,119,105,116,99,104]⟩ _ sC.out.eX hl (rR Ha.out kz)) λY3 pP=> ?_
 clear sC;go_wp2_with fail;refine iG pP (Fm ⟨#[108,105,110,107]⟩ _ pP.out.eX hl (Dd Ha.out kz)) λY4 sD=> ?_
 clear pP;go_wp2_with fail;refine iG sD (kV na _ sD.out.eX hl HA.out.1) λZ0 HZ=> ?_
 clear sD;have Fl:=HZ.out.far;have kW:=lz Fl;have HB:=lz (HZ.out.new 46 #[.string na,.string ⟨#[]⟩,.int .i64 0,.int .i64 0]);have Mp:=HZ.out.eX.lt;have hwz:w.heap.size+1<Z0.heap.size:=(HZ.out.at_ (BS ..)).lt;obtain⟨B,Z2⟩:=ez Z0.heap.size;rw[<-Z2]at HB kW Mp hwz;obtain⟨Z1,Z4⟩:=ez (Z0.alloc (.cells #[.string na,.string ⟨#[]⟩,.int .i64 0,.int .i64 0] 46));rw[<-Z4]at HB;have HZ1:=lz Z4;have HBe:=lz Z2;clear Fl HZ Z4 Z2;go_wp2_with fail;rw[<-HZ1.out,<-HBe.out];clear HZ1;refine iG HB (kV nb _ HB.out.eX hl HA.out.2.1) λX0 NH=> ?_
 have k0:X0.cell? ⟨B,1,Ag⟩=Ai (.string ⟨#[]⟩):=(ig.kb NH).1 1;have f0:X0.frozen? ⟨B,1,Ag⟩=false:=(ig.kb NH).2 1;clear HB;go_wp2_with fail;have RA:=lz (NH.out.put Mp kW.out.2 kW.out.1 1 (.string nb));clear k0 f0 NH;refine iG RA (Fp net _ RA.out.eX hl HA.out.2.2.1) λX1 CZ=> ?_
 have k1:X1.cell? ⟨B,2,Ag⟩=Ai (.int .i64 0):=(ig.kb CZ).1 2;have f1:X1.frozen? ⟨B,2,Ag⟩=false:=(ig.kb CZ).2 2;clear RA;go_wp2_with fail;have Fq:=lz (CZ.out.put Mp kW.out.2 kW.out.1 2 (.int .i64 net));clear k1 f1 CZ;refine iG Fq (gY _ slo _ Fq.out.eX hl HA.out.2.2.2.1 HA.out.2.2.2.2.1) λX2 qB=> ?_
 have k2:X2.cell? ⟨B,3,Ag⟩=Ai (.int .i64 0):=(ig.kb qB).1 3;have f2:X2.frozen? ⟨B,3,Ag⟩=false:=(ig.kb qB).2 3;clear Fq;go_wp2_with fail;have Ft:=lz (qB.out.put Mp kW.out.2 kW.out.1 3 (.int .i64 slo));clear k2 f2 qB;refine yT Ft (iX _ _ Ft.out.eX hl HA.out.2.2.2.2.2) λu3 X3 Ja=> ?_
 clear Ft;have gP:ah X3 w.heap.size 31 (gy (.slice q0 n0 m0) (.slice q2 n2 m2) (.slice Av L.length cv) (.slice q4 n4 m4)):=Ja.out.at_ (r:=⟨w.heap.size,31,gy (.slice q0 n0 m0) (.slice q2 n2 m2) (.slice Av L.length cv) (.slice q4 n4 m4)⟩) qz;have JM:ah X3 B 46 #[.string na,.string nb,.int .i64 net,.int .i64 slo]:=Ja.out.at_ (BS ..);have b3:=gP.cell 3;have x0:=JM.cell 0;have x1:=JM.cell 1;have x2:=JM.cell 2;have x3:=JM.cell 3;have HX:=lz (Ja.out.sub (K':=⟨w.heap.size,31,gy (.slice q0 n0 m0) (.slice q2 n2 m2) (.slice Av L.length cv) (.slice q4 n4 m4)⟩ :: ⟨w.heap.size+1,31,jg⟩ :: K) (Q':=wT (.slice Av L.length cv) L :: Q) (λr hr=>by
  simp only[BU]at hr ⊢;rcases hr with hr | hr | hr
  .exact .inr (.inr (.inl hr))
  .exact .inr (.inl hr)
  .exact .inr (.inr (.inr hr))) (λr hr=>hr))
 clear Ja gP JM;go_wp2_with (at_builtin;refine G9 _ rfl (.tmp 82) (.tmp 84) 25 rfl (g+1) 46 i0 (.agg #[.string ⟨#[]⟩,.string ⟨#[]⟩,.int .i64 0,.int .i64 0]) 4 48 underlying25 lX hz0 hz1 hz2 rfl dz _ _ _ rfl ((HX.out.q _ (BS ..)).alloc _) ⟨X3.heap.size,0,Ag⟩ 1 1 [.string na,.string nb,.int .i64 net,.int .i64 slo] rfl rfl ?c1 ?c2 ?c3 ?c4 ?c5 ?_)
 case c1=>
  intro j u' hj;rw[bO,E9,(ah.new X3 46 #[.string na,.string nb,.int .i64 net,.int .i64 slo]).cell j];simpa using hj
 case c2=>intro u' kQ;simp at kQ;rcases kQ with rfl | rfl | rfl | rfl<;>rfl
 case c3=>unfold EW;omega
 case c4=>omega
 case c5=>have:=HX.out.eX.lt;simp;omega
 intro v9 W9 mT VD _;obtain⟨Au,cu,rfl,_⟩:=bp mT;have hG:=HX.out.grow (λr hr=> ?hK) (λr hr=>(HQ.out r hr).1) (show W9.ownsRow (g+1) 46 4 (.slice Au (L.length+1) cu) (L.length+1) (L.flatMap aO.cells++ [.string na,.string nb,.int .i64 net,.int .i64 slo])from mT) VD
 case hK=>
  simp only[BU]at hr;rcases hr with rfl | rfl | hr
  .show 31≠46;decide
  .show 31≠46;decide
  .rw[(HK.out r hr).1];decide
 rw[show(⟨46,4,.slice Au (L.length+1) cu,L.length+1,L.flatMap aO.cells++ [.string na,.string nb,.int .i64 net,.int .i64 slo]⟩:jK)=wT (.slice Au (L.length+1) cu) (L++ [⟨na,nb,net,slo⟩])from by simp[aO.cells]]at hG;have HG:=lz hG;have b9:W9.cell? ⟨w.heap.size,3,Ag⟩=Ai (.slice Av L.length cv):=(ig.kb HG).1 3;have bf9:W9.frozen? ⟨w.heap.size,3,Ag⟩=false:=(ig.kb HG).2 3;clear hG mT VD b3 x0 x1 x2 x3 HX;have HP:=lz (HG.out.put MN (λr hr=> ?hK2) (HG.out.J4 (BS ..) (λq hq=> ?Sk)) 3 (.slice Au (L.length+1) cu))
 case hK2=>
  rcases BU.1 hr with rfl | hr
  .show w.heap.size+1≠w.heap.size;omega
  .have:=(HK.out r hr).2;omega
 case Sk=>
  rcases BU.1 hq with rfl | hq
  .show 46≠31;decide
  .exact(HQ.out q hq).2
 have hcb:ah W9 w.heap.size 31 (gy (.slice q0 n0 m0) (.slice q2 n2 m2) (.slice Av L.length cv) (.slice q4 n4 m4)):=HG.out.at_ (BS ..);have iy:ah W9 (w.heap.size+1) 31 jg:=HG.out.at_ (r:=⟨w.heap.size+1,31,jg⟩) qz;have d0:=hcb.cell 0;have d1:=hcb.cell 1;have d2:=hcb.cell 2;have d3:=hcb.cell 3;have d4:=hcb.cell 4;have d5:=hcb.cell 5;have d6:=hcb.cell 6;have d7:=hcb.cell 7;have r0:=iy.cell 0;have r1:=iy.cell 1;have r2:=iy.cell 2;have r3:=iy.cell 3;have r4:=iy.cell 4;have r5:=iy.cell 5;have r6:=iy.cell 6;have r7:=iy.cell 7;have e0:=iy.frozen 0;have e1:=iy.frozen 1;have e2:=iy.frozen 2;have e3:=iy.frozen 3;have e4:=iy.frozen 4;have e5:=iy.frozen 5;have e6:=iy.frozen 6;have e7:=iy.frozen 7;clear hcb iy HG;go_wp2_with fail;have RB:=lz (HP.out.sub (K':=⟨w.heap.size+1,31,jg⟩ :: K) (Q':=wT (.slice Au (L.length+1) cu) (L++ [⟨na,nb,net,slo⟩]) :: Q) (λr hr=>by
  simp only[BU]at hr ⊢;rcases hr with hr | hr
  .exact .inr (.inl hr)
  .exact .inr (.inr hr)) (λr hr=>by simpa using hr))
 have RE:=lz (RB.out.Wf (show g<w.heap.size+1 by omega) (λr hr=>by have:=(HK.out r hr).2;omega) (RB.out.J4 (BS ..) (λq hq=>by
  rcases BU.1 hq with rfl | hq
  .show 46≠31;decide
  .exact(HQ.out q hq).2)) (.slice q0 n0 m0) (.slice Ag 0 0) (.slice q2 n2 m2) (.slice Au (L.length+1) cu) (.slice q4 n4 m4) (.slice Ag 0 0) (.slice Ag 0 0) (.slice Ag 0 0))
 clear HP RB b9 bf9 d0 d1 d2 d3 d4 d5 d6 d7 r0 r1 r2 r3 r4 r5 r6 r7 e0 e1 e2 e3 e4 e5 e6 e7;obtain⟨WZ,hWZ⟩:=ez ((((((((((W9.setCell ⟨w.heap.size,3,Ag⟩ (.slice Au (L.length+1) cu)).setCell ⟨w.heap.size+1,0,Ag⟩ ((.slice q0 n0 m0))).setCell ⟨w.heap.size+1,1,Ag⟩ (.slice Ag 0 0)).setCell ⟨w.heap.size+1,2,Ag⟩ ((.slice q2 n2 m2))).setCell ⟨w.heap.size+1,3,Ag⟩ (.slice Au (L.length+1) cu)).setCell ⟨w.heap.size+1,4,Ag⟩ ((.slice q4 n4 m4))).setCell ⟨w.heap.size+1,5,Ag⟩ (.slice Ag 0 0)).setCell ⟨w.heap.size+1,6,Ag⟩ (.slice Ag 0 0)).setCell ⟨w.heap.size+1,7,Ag⟩ (.slice Ag 0 0)));rw[<-hWZ]at RE ⊢;have tO:ah WZ (w.heap.size+1) 31 (gy (.slice q0 n0 m0) (.slice q2 n2 m2) (.slice Au (L.length+1) cu) (.slice q4 n4 m4)):=RE.out.at_ (BS ..);have z0:=tO.cell 0;have z1:=tO.cell 1;have z2:=tO.cell 2;have z3:=tO.cell 3;have z4:=tO.cell 4;have z5:=tO.cell 5;have z6:=tO.cell 6;have z7:=tO.cell 7;refine GJ (v:= .agg (gy (.slice q0 n0 m0) (.slice q2 n2 m2) (.slice Au (L.length+1) cu) (.slice q4 n4 m4))) (by simp[results,results116,go_sem,z0,z1,z2,z3,z4,z5,z6,z7]) rfl ?_;refine⟨_,rfl,?_⟩;have:=RE.out.sub (K':=K) (Q':=wT (.slice Au (L.length+1) cu) (L++ [⟨na,nb,net,slo⟩]) :: Q) (λr hr=>EX _ hr) (λr hr=>hr);rw[show now+1+7=now+1+1+1+2+2+1 from by omega];exact this
theorem aAs(x:VlT)(q0 q2 q3:Option EK)(n0 m0 n2 m2 n3 m3:Nat)(v4:Bn)(L:List fU)(w:Al)(h:ig w0 g A c ts sz K (vB v4 L :: Q) now w)(hq:∀r∈Q,r.t≠44/\r.t≠31)(hk:∀r∈K,r.t=31)(hl:ts.length<=100000)(ha:gZ ts now (wj ⟨#[118,108]⟩)=BR)(hb:aEY ts (now+1) x=BR)(hL:L.length<=1000):
 ET pG 116 #[.pointer (Ai ⟨g,0,Ag⟩),.agg (gy (.slice q0 n0 m0) (.slice q2 n2 m2) (.slice q3 n3 m3) v4)] w λe w'=>∃u y,e= .returned (.agg (gy (.slice q0 n0 m0) (.slice q2 n2 m2) (.slice q3 n3 m3) u))/\fU.is y x/\ig w0 g A c ts sz K (vB u (L++ [y]) :: y.row :: Q) (now+1+(12+6*x.dst.length)) w':=by
 unfold aEY at hb;simp only[BW,decide_eq_true_eq]at hb;obtain⟨⟨⟨⟨⟨⟨⟨⟨⟨⟨⟨a1,a2⟩,a3⟩,a4⟩,a5⟩,a6⟩,a7⟩,a8⟩,a9⟩,Qf⟩,a11⟩,a12⟩:=hb;obtain⟨nm,src,lQ,mx,dst⟩:=x;dsimp only at a1 a2 a3 a4 a5 a6 a7 a8 a9 Qf a11 a12;have ho:w.ownsRow (g+1) 44 7 v4 L.length (L.flatMap fU.cells):=h.q _ (BS ..);obtain⟨Av,cv,rfl,_⟩:=bp ho;clear ho;obtain⟨w1,cN⟩:=ez ((w.alloc (.cells (gy (.slice q0 n0 m0) (.slice q2 n2 m2) (.slice q3 n3 m3) (.slice Av L.length cv)) 31)).alloc (.cells jg 31));have zh:ig w0 g A c ts sz (⟨w.heap.size+1,31,jg⟩ :: ⟨w.heap.size,31,gy (.slice q0 n0 m0) (.slice q2 n2 m2) (.slice q3 n3 m3) (.slice Av L.length cv)⟩ :: K) (vB (.slice Av L.length cv) L :: Q) now w1:=by
  rw[cN];have:=(h.new 31 (gy (.slice q0 n0 m0) (.slice q2 n2 m2) (.slice q3 n3 m3) (.slice Av L.length cv))).new 31 jg
  rwa[Dj]at this
 have HK:Hid (∀r∈K,r.t=31/\r.b<w.heap.size):=lz λr hr=>⟨hk r hr,(h.at_ hr).lt⟩
 have MN:=h.eX.lt;have I7:=lz zh;have lH:=lz cN;have HQ:=lz hq;have Ha:=lz ha;clear h hk zh cN hq ha;have HA:=lz (ai a1 (ai a2 (ai a3 (ai a4 (ai a5 (ai a6 (ai a7 (ai a8 (ai a9 (ai Qf (ai a11 a12)))))))))));clear a1 a2 a3 a4 a5 a6 a7 a8 a9 Qf a11 a12;obtain⟨i0,lX,hz0,hz1,hz2⟩:=info_parts aHO;go_enter func116,ntmps116;go_wp2_with fail;rw[<-lH.out];refine nK I7 (vg ⟨#[109,111,100,117,108,101]⟩ _ I7.out.eX hl (rR Ha.out kz)) λY1 sE=> ?_
 clear I7;go_wp2_with fail;refine nK sE (vg ⟨#[99,104,97,110,110,101,108]⟩ _ sE.out.eX hl (rR Ha.out kz)) λY2 sC=> ?_
 clear sE;go_wp2_with fail;refine nK sC (vg ⟨#[115,119,105,116,99,104]⟩ _ sC.out.eX hl (rR Ha.out kz)) λY3 pP=> ?_
 clear sC;go_wp2_with fail;refine nK pP (vg ⟨#[108,105,110,107]⟩ _ pP.out.eX hl (rR Ha.out kz)) λY4 sD=> ?_
 clear pP;go_wp2_with fail;refine iG sD (Fm ⟨#[118,108]⟩ _ sD.out.eX hl (Dd Ha.out kz)) λY5 qu=> ?_
 clear sD;go_wp2_with fail;refine iG qu (kV nm _ qu.out.eX hl HA.out.1) λZ0 HZ=> ?_
 clear qu;have Fl:=HZ.out.far;have kW:=lz Fl;have HB:=lz (HZ.out.new 44 #[.string nm,.string ⟨#[]⟩,.string ⟨#[]⟩,.string ⟨#[]⟩,.int .i64 0,.int .i64 0,.slice Ag 0 0]);have Mp:=HZ.out.eX.lt;have hwz:w.heap.size+1<Z0.heap.size:=(HZ.out.at_ (BS ..)).lt;obtain⟨B,Z2⟩:=ez Z0.heap.size;rw[<-Z2]at HB kW Mp hwz;obtain⟨Z1,Z4⟩:=ez (Z0.alloc (.cells #[.string nm,.string ⟨#[]⟩,.string ⟨#[]⟩,.string ⟨#[]⟩,.int .i64 0,.int .i64 0,.slice Ag 0 0] 44));rw[<-Z4]at HB;have HZ1:=lz Z4;have HBe:=lz Z2;clear Fl HZ Z4 Z2;go_wp2_with fail;rw[<-HZ1.out,<-HBe.out];clear HZ1;refine yT HB (iX _ _ HB.out.eX hl HA.out.2.1) λu0 X0 NH=> ?_
 clear HB;go_wp2_with fail;refine iG NH (ZP src _ NH.out.eX hl HA.out.2.2.1) λX1 CZ=> ?_
 have k10:X1.cell? ⟨B,1,Ag⟩=Ai (.string ⟨#[]⟩):=(ig.kb CZ).1 1;have f10:X1.frozen? ⟨B,1,Ag⟩=false:=(ig.kb CZ).2 1;have k11:X1.cell? ⟨B,2,Ag⟩=Ai (.string ⟨#[]⟩):=(ig.kb CZ).1 2;have f11:X1.frozen? ⟨B,2,Ag⟩=false:=(ig.kb CZ).2 2;have k12:X1.cell? ⟨B,3,Ag⟩=Ai (.string ⟨#[]⟩):=(ig.kb CZ).1 3;have f12:X1.frozen? ⟨B,3,Ag⟩=false:=(ig.kb CZ).2 3;clear NH;go_wp2_with fail;have Fq:=lz (((CZ.out.put Mp kW.out.2 kW.out.1 1 (.string src.m)).put Mp kW.out.2 kW.out.1 2 (.string src.p)).put Mp kW.out.2 kW.out.1 3 (.string src.o));clear k10 f10 k11 f11 k12 f12 CZ;refine iG Fq (gY _ lQ _ Fq.out.eX hl HA.out.2.2.2.1 HA.out.2.2.2.2.1) λX2 qB=> ?_
 have k2:X2.cell? ⟨B,4,Ag⟩=Ai (.int .i64 0):=(ig.kb qB).1 4;have f2:X2.frozen? ⟨B,4,Ag⟩=false:=(ig.kb qB).2 4;clear Fq;go_wp2_with fail;have Ft:=lz (qB.out.put Mp kW.out.2 kW.out.1 4 (.int .i64 lQ));clear k2 f2 qB;refine iG Ft (gY _ mx _ Ft.out.eX hl HA.out.2.2.2.2.2.1 HA.out.2.2.2.2.2.2.1) λX3 Ja=> ?_
 have k3:X3.cell? ⟨B,5,Ag⟩=Ai (.int .i64 0):=(ig.kb Ja).1 5;have f3:X3.frozen? ⟨B,5,Ag⟩=false:=(ig.kb Ja).2 5;clear Ft;go_wp2_with fail;have aHR:=lz (Ja.out.put Mp kW.out.2 kW.out.1 5 (.int .i64 mx));clear k3 f3 Ja;refine yT aHR (iX _ _ aHR.out.eX hl HA.out.2.2.2.2.2.2.2.1) λu4 X4 HX4=> ?_
 clear aHR;go_wp2_with fail;refine(aHC dst _ HX4.out.eX hl HA.out.2.2.2.2.2.2.2.2.1 HA.out.2.2.2.2.2.2.2.2.2.2.1 HA.out.2.2.2.2.2.2.2.2.2.2.2).mono ?_;rintro e X5 ⟨Ar,cr,rfl,hR5⟩;have Gm:=lz ((HX4.out.next hR5.eX hR5.gr).rows (dA.one hR5.own) (show g+1<=_ from HX4.out.eX.lt));have k5:X5.cell? ⟨B,6,Ag⟩=Ai (.slice Ag 0 0):=(ig.kb Gm).1 6;have f5:X5.frozen? ⟨B,6,Ag⟩=false:=(ig.kb Gm).2 6;have aMQ:Hid (ZY (⟨41,3,.slice Ar dst.length cr,dst.length,dst.flatMap bw.cells⟩ :: vB (.slice Av L.length cv) L :: Q) B):=lz λr hr k hk e=>by
  rcases BU.1 hr with rfl | hr
  .have h1:=(hR5.own.lt k hk).1
   have h2:B<_:=(HX4.out.at_ (BS ..)).lt;omega
  .exact kW.out.1 r hr k hk e
 clear HX4 hR5;go_wp2_with fail;have aHS:=lz (Gm.out.put Mp kW.out.2 aMQ.out 6 (.slice Ar dst.length cr));clear k5 f5 Gm;refine yT aHS (iX _ _ aHS.out.eX hl HA.out.2.2.2.2.2.2.2.2.2.1) λu6 X6 HX6=> ?_
 clear aHS;have gP:ah X6 w.heap.size 31 (gy (.slice q0 n0 m0) (.slice q2 n2 m2) (.slice q3 n3 m3) (.slice Av L.length cv)):=HX6.out.at_ (r:=⟨w.heap.size,31,gy (.slice q0 n0 m0) (.slice q2 n2 m2) (.slice q3 n3 m3) (.slice Av L.length cv)⟩) qz;have JM:ah X6 B 44 #[.string nm,.string src.m,.string src.p,.string src.o,.int .i64 lQ,.int .i64 mx,.slice Ar dst.length cr]:=HX6.out.at_ (BS ..);have b4:=gP.cell 4;have x0:=JM.cell 0;have x1:=JM.cell 1;have x2:=JM.cell 2;have x3:=JM.cell 3;have x4:=JM.cell 4;have x5:=JM.cell 5;have x6:=JM.cell 6;have HX:=lz (HX6.out.sub (K':=⟨w.heap.size,31,gy (.slice q0 n0 m0) (.slice q2 n2 m2) (.slice q3 n3 m3) (.slice Av L.length cv)⟩ :: ⟨w.heap.size+1,31,jg⟩ :: K) (Q':=vB (.slice Av L.length cv) L :: ⟨41,3,.slice Ar dst.length cr,dst.length,dst.flatMap bw.cells⟩ :: Q) (λr hr=>by
  simp only[BU]at hr ⊢;rcases hr with hr | hr | hr
  .exact .inr (.inr (.inl hr))
  .exact .inr (.inl hr)
  .exact .inr (.inr (.inr hr))) (λr hr=>by simp only[GQ,List.nil_append,BU]at hr ⊢;rcases hr with hr | hr | hr;exact .inr (.inl hr);exact .inl hr;exact .inr (.inr hr)))
 clear HX6 gP JM;have HQ2:Hid (∀r∈(⟨41,3,.slice Ar dst.length cr,dst.length,dst.flatMap bw.cells⟩ :: Q:List jK),r.t≠44/\r.t≠31):=lz λr hr=>by
  rcases BU.1 hr with rfl | hr
  .exact⟨by show 41≠44;decide,by show 41≠31;decide⟩
  .exact HQ.out r hr
 go_wp2_with (at_builtin;refine G9 _ rfl (.tmp 112) (.tmp 114) 26 rfl (g+1) 44 i0 (.agg #[.string ⟨#[]⟩,.string ⟨#[]⟩,.string ⟨#[]⟩,.string ⟨#[]⟩,.int .i64 0,.int .i64 0,.slice Ag 0 0]) 7 104 underlying26 lX hz0 hz1 hz2 rfl dz _ _ _ rfl ((HX.out.q _ (BS ..)).alloc _) ⟨X6.heap.size,0,Ag⟩ 1 1 [.string nm,.string src.m,.string src.p,.string src.o,.int .i64 lQ,.int .i64 mx,.slice Ar dst.length cr] rfl rfl ?c1 ?c2 ?c3 ?c4 ?c5 ?_)
 case c1=>
  intro j u' hj;rw[bO,E9,(ah.new X6 44 #[.string nm,.string src.m,.string src.p,.string src.o,.int .i64 lQ,.int .i64 mx,.slice Ar dst.length cr]).cell j];simpa using hj
 case c2=>intro u' kQ;simp at kQ;rcases kQ with rfl | rfl | rfl | rfl | rfl | rfl | rfl<;>rfl
 case c3=>unfold EW;omega
 case c4=>omega
 case c5=>have:=HX.out.eX.lt;simp;omega
 intro v9 W9 mT VD _;obtain⟨Au,cu,rfl,_⟩:=bp mT;have hG:=HX.out.grow (λr hr=> ?hK) (λr hr=>(HQ2.out r hr).1) (show W9.ownsRow (g+1) 44 7 (.slice Au (L.length+1) cu) (L.length+1) (L.flatMap fU.cells++ [.string nm,.string src.m,.string src.p,.string src.o,.int .i64 lQ,.int .i64 mx,.slice Ar dst.length cr])from mT) VD
 case hK=>
  simp only[BU]at hr;rcases hr with rfl | rfl | hr
  .show 31≠44;decide
  .show 31≠44;decide
  .rw[(HK.out r hr).1];decide
 rw[show(⟨44,7,.slice Au (L.length+1) cu,L.length+1,L.flatMap fU.cells++ [.string nm,.string src.m,.string src.p,.string src.o,.int .i64 lQ,.int .i64 mx,.slice Ar dst.length cr]⟩:jK)=vB (.slice Au (L.length+1) cu) (L++ [⟨nm,src,lQ,mx,⟨Ar,cr,dst⟩⟩])from by simp[fU.cells]]at hG;have HG:=lz hG;have b9:W9.cell? ⟨w.heap.size,4,Ag⟩=Ai (.slice Av L.length cv):=(ig.kb HG).1 4;have bf9:W9.frozen? ⟨w.heap.size,4,Ag⟩=false:=(ig.kb HG).2 4;clear hG mT VD b4 x0 x1 x2 x3 x4 x5 x6 HX;have HP:=lz (HG.out.put MN (λr hr=> ?hK2) (HG.out.J4 (BS ..) (λq hq=> ?Sk)) 4 (.slice Au (L.length+1) cu))
 case hK2=>
  rcases BU.1 hr with rfl | hr
  .show w.heap.size+1≠w.heap.size;omega
  .have:=(HK.out r hr).2;omega
 case Sk=>
  rcases BU.1 hq with rfl | hq
  .show 44≠31;decide
  .exact(HQ2.out q hq).2
 have hcb:ah W9 w.heap.size 31 (gy (.slice q0 n0 m0) (.slice q2 n2 m2) (.slice q3 n3 m3) (.slice Av L.length cv)):=HG.out.at_ (BS ..);have iy:ah W9 (w.heap.size+1) 31 jg:=HG.out.at_ (r:=⟨w.heap.size+1,31,jg⟩) qz;have d0:=hcb.cell 0;have d1:=hcb.cell 1;have d2:=hcb.cell 2;have d3:=hcb.cell 3;have d4:=hcb.cell 4;have d5:=hcb.cell 5;have d6:=hcb.cell 6;have d7:=hcb.cell 7;have r0:=iy.cell 0;have r1:=iy.cell 1;have r2:=iy.cell 2;have r3:=iy.cell 3;have r4:=iy.cell 4;have r5:=iy.cell 5;have r6:=iy.cell 6;have r7:=iy.cell 7;have e0:=iy.frozen 0;have e1:=iy.frozen 1;have e2:=iy.frozen 2;have e3:=iy.frozen 3;have e4:=iy.frozen 4;have e5:=iy.frozen 5;have e6:=iy.frozen 6;have e7:=iy.frozen 7;clear hcb iy HG;go_wp2_with fail;have RB:=lz (HP.out.sub (K':=⟨w.heap.size+1,31,jg⟩ :: K) (Q':=vB (.slice Au (L.length+1) cu) (L++ [⟨nm,src,lQ,mx,⟨Ar,cr,dst⟩⟩]) :: ⟨41,3,.slice Ar dst.length cr,dst.length,dst.flatMap bw.cells⟩ :: Q) (λr hr=>by
  simp only[BU]at hr ⊢;rcases hr with hr | hr
  .exact .inr (.inl hr)
  .exact .inr (.inr hr)) (λr hr=>by simpa using hr))
 have RE:=lz (RB.out.Wf (show g<w.heap.size+1 by omega) (λr hr=>by have:=(HK.out r hr).2;omega) (RB.out.J4 (BS ..) (λq hq=>by
  rcases BU.1 hq with rfl | hq
  .show 44≠31;decide
  .exact(HQ2.out q hq).2)) (.slice q0 n0 m0) (.slice Ag 0 0) (.slice q2 n2 m2) (.slice q3 n3 m3) (.slice Au (L.length+1) cu) (.slice Ag 0 0) (.slice Ag 0 0) (.slice Ag 0 0))
 clear HP RB b9 bf9 d0 d1 d2 d3 d4 d5 d6 d7 r0 r1 r2 r3 r4 r5 r6 r7 e0 e1 e2 e3 e4 e5 e6 e7;obtain⟨WZ,hWZ⟩:=ez ((((((((((W9.setCell ⟨w.heap.size,4,Ag⟩ (.slice Au (L.length+1) cu)).setCell ⟨w.heap.size+1,0,Ag⟩ ((.slice q0 n0 m0))).setCell ⟨w.heap.size+1,1,Ag⟩ (.slice Ag 0 0)).setCell ⟨w.heap.size+1,2,Ag⟩ ((.slice q2 n2 m2))).setCell ⟨w.heap.size+1,3,Ag⟩ ((.slice q3 n3 m3))).setCell ⟨w.heap.size+1,4,Ag⟩ (.slice Au (L.length+1) cu)).setCell ⟨w.heap.size+1,5,Ag⟩ (.slice Ag 0 0)).setCell ⟨w.heap.size+1,6,Ag⟩ (.slice Ag 0 0)).setCell ⟨w.heap.size+1,7,Ag⟩ (.slice Ag 0 0)));rw[<-hWZ]at RE ⊢;have tO:ah WZ (w.heap.size+1) 31 (gy (.slice q0 n0 m0) (.slice q2 n2 m2) (.slice q3 n3 m3) (.slice Au (L.length+1) cu)):=RE.out.at_ (BS ..);have z0:=tO.cell 0;have z1:=tO.cell 1;have z2:=tO.cell 2;have z3:=tO.cell 3;have z4:=tO.cell 4;have z5:=tO.cell 5;have z6:=tO.cell 6;have z7:=tO.cell 7;refine GJ (v:= .agg (gy (.slice q0 n0 m0) (.slice q2 n2 m2) (.slice q3 n3 m3) (.slice Au (L.length+1) cu))) (by simp[results,results116,go_sem,z0,z1,z2,z3,z4,z5,z6,z7]) rfl ?_;refine⟨_,⟨nm,src,lQ,mx,⟨Ar,cr,dst⟩⟩,rfl,⟨Ar,cr,rfl⟩,?_⟩;have:=RE.out.sub (K':=K) (Q':=vB (.slice Au (L.length+1) cu) (L++ [⟨nm,src,lQ,mx,⟨Ar,cr,dst⟩⟩]) :: ⟨41,3,.slice Ar dst.length cr,dst.length,dst.flatMap bw.cells⟩ :: Q) (λr hr=>EX _ hr) (λr hr=>hr);rw[show now+1+(12+6*dst.length)=now+1+1+1+5+2+2+1+6*dst.length-1+1 from by omega];exact this
end
theorem PJ{y:bT}{r:jK}(hr:r∈y.rows):r.t=71\/r.t=73:=by
 rcases BU.1 hr with rfl | hr
 .exact .inl rfl
 .obtain⟨p,_,rfl⟩:=GR.1 hr
  exact .inr rfl
section
variable {w0:Al} {g:Nat} {A:Option EK} {c:Nat} {ts:List Tok} {now:Nat} {sz:Int} {K:List MJ} {Q:List jK}
theorem aAt(x:DA)(q2 q3 q4:Option EK)(n2 m2 n3 m3 n4 m4:Nat)(v0:Bn)(L:List bT)(w:Al)(h:ig w0 g A c ts sz K (zj v0 L :: Q) now w)(hq:∀r∈Q,r.t≠67/\r.t≠31)(hk:∀r∈K,r.t=31)(hl:ts.length<=100000)(ha:gZ ts now (wj ⟨#[109,111,100,117,108,101]⟩)=BR)(hb:RO ts (now+1) x=BR)(hL:L.length<=1000):
 ET pG 116 #[.pointer (Ai ⟨g,0,Ag⟩),.agg (gy v0 (.slice q2 n2 m2) (.slice q3 n3 m3) (.slice q4 n4 m4))] w λe w'=>∃u y,e= .returned (.agg (gy u (.slice q2 n2 m2) (.slice q3 n3 m3) (.slice q4 n4 m4)))/\bT.is y x/\ig w0 g A c ts sz K (zj u (L++ [y]) :: (y.rows++Q)) (now+1+zi x) w':=by
 have ho:w.ownsRow (g+1) 67 4 v0 L.length (L.flatMap bT.cells):=h.q _ (BS ..);obtain⟨Av,cv,rfl,_⟩:=bp ho;clear ho;obtain⟨w1,cN⟩:=ez ((w.alloc (.cells (gy (.slice Av L.length cv) (.slice q2 n2 m2) (.slice q3 n3 m3) (.slice q4 n4 m4)) 31)).alloc (.cells jg 31));have zh:ig w0 g A c ts sz (⟨w.heap.size+1,31,jg⟩ :: ⟨w.heap.size,31,gy (.slice Av L.length cv) (.slice q2 n2 m2) (.slice q3 n3 m3) (.slice q4 n4 m4)⟩ :: K) (zj (.slice Av L.length cv) L :: Q) now w1:=by
  rw[cN];have:=(h.new 31 (gy (.slice Av L.length cv) (.slice q2 n2 m2) (.slice q3 n3 m3) (.slice q4 n4 m4))).new 31 jg
  rwa[Dj]at this
 have HK:Hid (∀r∈K,r.t=31/\r.b<w.heap.size):=lz λr hr=>⟨hk r hr,(h.at_ hr).lt⟩
 have MN:=h.eX.lt;have I7:=lz zh;have lH:=lz cN;have HQ:=lz hq;have Ha:=lz ha;have Hb:=lz hb;obtain⟨i0,lX,hz0,hz1,hz2⟩:=info_parts aHL;clear h hk zh cN hq ha hb;go_enter func116,ntmps116;go_wp2_with fail;rw[<-lH.out];refine iG I7 (Fm ⟨#[109,111,100,117,108,101]⟩ _ I7.out.eX hl (Dd Ha.out kz)) λY1 sE=> ?_
 clear I7;have HD:=lz (sE.out.below (W':=Y1.drew) (Below.refl _ _).drew);have O5:=(HD.out.at_ (r:=⟨w.heap.size,31,gy (.slice Av L.length cv) (.slice q2 n2 m2) (.slice q3 n3 m3) (.slice q4 n4 m4)⟩) qz).cell 0;clear sE;have VB:=lz (ZW x _ HD.out.eX hl Hb.out);go_wp2_with fail;refine aT (λW'=>W'.cell? ⟨w.heap.size,0,Ag⟩=Ai (.slice Av L.length cv)) 7 kz O5 (λhHeld=> ?_);refine TS 0 rfl hHeld ?_;simp only[zP,zA,zB,zC];refine TS 1 rfl hHeld ?_;simp only[zP,zA,zB,zC];refine TS 2 rfl hHeld ?_;simp only[zP,zA,zB,zC];refine RQ 3 rfl λK hK=> ?_
 go_simp;refine VB.out.mono ?_;rintro e Vl ⟨⟨nm,mem,fr,⟨Ap,cp,P⟩⟩,rfl,hy,aEQ,O6,O7⟩;have qt:=lz (((HD.out.next O6 O7).rows aEQ (show g+1<=_ from HD.out.eX.lt)).sub (K':=⟨w.heap.size,31,gy (.slice Av L.length cv) (.slice q2 n2 m2) (.slice q3 n3 m3) (.slice q4 n4 m4)⟩ :: ⟨w.heap.size+1,31,jg⟩ :: _) (Q':=zj (.slice Av L.length cv) L :: (bT.rows ⟨nm,mem,fr,⟨Ap,cp,P⟩⟩++Q)) (λr hr=>by
  simp only[BU]at hr ⊢;rcases hr with hr | hr | hr
  .exact .inr (.inl hr)
  .exact .inl hr
  .exact .inr (.inr hr)) (λr hr=>by
  simp only[BU,E2]at hr ⊢;rcases hr with hr | hr | hr
  .exact .inr (.inl hr)
  .exact .inl hr
  .exact .inr (.inr hr)))
 have pZ:Vl.cell? ⟨w.heap.size,0,Ag⟩=Ai (.slice Av L.length cv):=(ig.kb qt).1 0;refine hK.out _ _ (λ_=>pZ) ?_;have HY:=lz hy;clear hK hHeld O6 O7 HD O5 aEQ VB hy;refine RQ 4 rfl λK hK=> ?_
 go_simp;have qb:(Vl.alloc (.cells #[.string nm,.int .i64 mem,.int .i64 fr,.slice Ap P.length cp] 67)).cell? ⟨w.heap.size,0,Ag⟩=Ai (.slice Av L.length cv):=((qt.out.at_ (BS ..)).alloc _).cell 0;refine hK.out _ _ (λ_=>qb) ?_;clear hK pZ;refine RQ 5 rfl λK hK=> ?_
 refine mC (by rfl) (.tmp 16) (.tmp 19) 22 (by rfl) (g+1) 67 i0 (.agg #[.string ⟨#[]⟩,.int .i64 0,.int .i64 0,.slice Ag 0 0]) 4 56 underlying22 lX hz0 hz1 hz2 rfl dz (.slice Av L.length cv) L.length _ (by rfl) ((qt.out.q _ (BS ..)).alloc _) ⟨Vl.heap.size,0,Ag⟩ 1 1 [.string nm,.int .i64 mem,.int .i64 fr,.slice Ap P.length cp] (by rfl) (by rfl) ?c1 ?c2 ?c3 ?c4 ?c5 ?_
 case c1=>
  intro j u' hj;rw[bO,E9,(ah.new Vl 67 #[.string nm,.int .i64 mem,.int .i64 fr,.slice Ap P.length cp]).cell j];simpa using hj
 case c2=>intro u' kQ;simp at kQ;rcases kQ with rfl | rfl | rfl | rfl<;>rfl
 case c3=>unfold EW;omega
 case c4=>omega
 case c5=>have:=qt.out.eX.lt;simp;omega
 intro v19 VJ oZ O8;obtain⟨Au,cu,rfl,_⟩:=bp oZ;have hG:=qt.out.grow (λr hr=> ?hK) (λr hr=> ?hQ) (show VJ.ownsRow (g+1) 67 4 (.slice Au (L.length+1) cu) (L.length+1) (L.flatMap bT.cells++ [.string nm,.int .i64 mem,.int .i64 fr,.slice Ap P.length cp])from oZ) O8
 case hK=>
  simp only[BU]at hr;rcases hr with rfl | rfl | hr
  .show 31≠67;decide
  .show 31≠67;decide
  .rw[(HK.out r hr).1];decide
 case hQ=>
  rcases E2.1 hr with hr | hr
  .rcases PJ hr with e | e<;>rw[e]<;>decide
  .exact(HQ.out r hr).1
 rw[show(⟨67,4,.slice Au (L.length+1) cu,L.length+1,L.flatMap bT.cells++ [.string nm,.int .i64 mem,.int .i64 fr,.slice Ap P.length cp]⟩:jK)=zj (.slice Au (L.length+1) cu) (L++ [⟨nm,mem,fr,⟨Ap,cp,P⟩⟩])from by simp[bT.cells]]at hG;have HG:=lz hG;have aER:∀q∈zj (.slice Au (L.length+1) cu) (L++ [⟨nm,mem,fr,⟨Ap,cp,P⟩⟩]) :: (bT.rows ⟨nm,mem,fr,⟨Ap,cp,P⟩⟩++Q),q.t≠31:=λq hq=>by
  rcases BU.1 hq with rfl | hq
  .show 67≠31;decide
  .rcases E2.1 hq with hq | hq
   .rcases PJ hq with e | e<;>rw[e]<;>decide
   .exact(HQ.out q hq).2
 have HF:=lz aER;have nJ:VJ.cell? ⟨w.heap.size,0,Ag⟩=Ai (.slice Av L.length cv):=(ig.kb HG).1 0;have aHJ:VJ.frozen? ⟨w.heap.size,0,Ag⟩=false:=(ig.kb HG).2 0;refine hK.out _ _ (λ_=>nJ) ?_;clear hK qb oZ O8 qt hG aER;refine TS 6 rfl nJ ?_;simp only[zP,zA,zB,zC];refine RQ 7 rfl λK hK=> ?_
 go_simp;refine hK.out _ _ (λh=>absurd h dz) ?_;clear hK;refine aL kz ?_ _;have HP:=lz (HG.out.put MN (λr hr=> ?hK2) (HG.out.J4 (BS ..) HF.out) 0 (.slice Au (L.length+1) cu))
 case hK2=>
  rcases BU.1 hr with rfl | hr
  .show w.heap.size+1≠w.heap.size;omega
  .have:=(HK.out r hr).2;omega
 have hcb:ah VJ w.heap.size 31 (gy (.slice Av L.length cv) (.slice q2 n2 m2) (.slice q3 n3 m3) (.slice q4 n4 m4)):=HG.out.at_ (BS ..);have iy:ah VJ (w.heap.size+1) 31 jg:=HG.out.at_ (r:=⟨w.heap.size+1,31,jg⟩) qz;have d0:=hcb.cell 0;have d1:=hcb.cell 1;have d2:=hcb.cell 2;have d3:=hcb.cell 3;have d4:=hcb.cell 4;have d5:=hcb.cell 5;have d6:=hcb.cell 6;have d7:=hcb.cell 7;have r0:=iy.cell 0;have r1:=iy.cell 1;have r2:=iy.cell 2;have r3:=iy.cell 3;have r4:=iy.cell 4;have r5:=iy.cell 5;have r6:=iy.cell 6;have r7:=iy.cell 7;have e0:=iy.frozen 0;have e1:=iy.frozen 1;have e2:=iy.frozen 2;have e3:=iy.frozen 3;have e4:=iy.frozen 4;have e5:=iy.frozen 5;have e6:=iy.frozen 6;have e7:=iy.frozen 7;clear hcb iy HG nJ;go_wp2_with fail;have RB:=lz (HP.out.sub (K':=⟨w.heap.size+1,31,jg⟩ :: _) (λr hr=>by
  simp only[BU]at hr ⊢;rcases hr with hr | hr
  .exact .inr (.inl hr)
  .exact .inr (.inr hr)) (λr hr=>hr))
 have RE:=lz (RB.out.Wf (show g<w.heap.size+1 by omega) (λr hr=>by have:=(HK.out r hr).2;omega) (RB.out.J4 (BS ..) HF.out) (.slice Au (L.length+1) cu) (.slice Ag 0 0) (.slice q2 n2 m2) (.slice q3 n3 m3) (.slice q4 n4 m4) (.slice Ag 0 0) (.slice Ag 0 0) (.slice Ag 0 0));clear HP RB aHJ d0 r0 e0 d1 r1 e1 d2 r2 e2 d3 r3 e3 d4 r4 e4 d5 r5 e5 d6 r6 e6 d7 r7 e7;obtain⟨WZ,hWZ⟩:=ez ((((((((((VJ.setCell ⟨w.heap.size,0,Ag⟩ (.slice Au (L.length+1) cu)).setCell ⟨w.heap.size+1,0,Ag⟩ (.slice Au (L.length+1) cu)).setCell ⟨w.heap.size+1,1,Ag⟩ (.slice Ag 0 0)).setCell ⟨w.heap.size+1,2,Ag⟩ (.slice q2 n2 m2)).setCell ⟨w.heap.size+1,3,Ag⟩ (.slice q3 n3 m3)).setCell ⟨w.heap.size+1,4,Ag⟩ (.slice q4 n4 m4)).setCell ⟨w.heap.size+1,5,Ag⟩ (.slice Ag 0 0)).setCell ⟨w.heap.size+1,6,Ag⟩ (.slice Ag 0 0)).setCell ⟨w.heap.size+1,7,Ag⟩ (.slice Ag 0 0)));rw[<-hWZ]at RE ⊢;have tO:ah WZ (w.heap.size+1) 31 (gy (.slice Au (L.length+1) cu) (.slice q2 n2 m2) (.slice q3 n3 m3) (.slice q4 n4 m4)):=RE.out.at_ (BS ..);have z0:=tO.cell 0;have z1:=tO.cell 1;have z2:=tO.cell 2;have z3:=tO.cell 3;have z4:=tO.cell 4;have z5:=tO.cell 5;have z6:=tO.cell 6;have z7:=tO.cell 7;refine GJ (v:= .agg (gy (.slice Au (L.length+1) cu) (.slice q2 n2 m2) (.slice q3 n3 m3) (.slice q4 n4 m4))) (by simp[results,results116,go_sem,z0,z1,z2,z3,z4,z5,z6,z7]) rfl ?_;exact⟨_,⟨nm,mem,fr,⟨Ap,cp,P⟩⟩,rfl,HY.out,RE.out.sub (λr hr=>EX _ hr) (λr hr=>hr)⟩
end
inductive gF where
 | mo (x:DA)
 | sw (x:iI)
 | ln (x:aO)
 | vl (x:VlT)
def gF.len:gF->Nat
 | .mo x=>1+zi x
 | .sw _=>9
 | .ln _=>8
 | .vl x=>13+6*x.dst.length
def gF.PI:gF->Option DA
 | .mo x=>Ai x
 | _=>Ag
def gF.Z5:gF->Option iI
 | .sw x=>Ai x
 | _=>Ag
def gF.ln?:gF->Option aO
 | .ln x=>Ai x
 | _=>Ag
def gF.Z6:gF->Option VlT
 | .vl x=>Ai x
 | _=>Ag
def J3(ts:List Tok)(p:Nat):gF->Bool
 | .mo x=>gZ ts p (wj ⟨#[109,111,100,117,108,101]⟩)&&RO ts (p+1) x&&x.parts.all λy=>y.aq.all λq=>decide (q.kd=1)
 | .sw x=>gZ ts p (wj ⟨#[115,119,105,116,99,104]⟩)&&aEW ts (p+1) x
 | .ln x=>gZ ts p (wj ⟨#[108,105,110,107]⟩)&&aEX ts (p+1) x
 | .vl x=>gZ ts p (wj ⟨#[118,108]⟩)&&aEY ts (p+1) x
def qA(ts:List Tok):Nat->List gF->Bool
 | p,[]=>decide (p=ts.length)
 | p,i :: r=>J3 ts p i&&qA ts (p+i.len) r
def mD:List gF->Nat
 | []=>0
 | i :: r=>i.len+mD r
theorem AF:∀(L:List gF) (i:gF),mD (L++ [i])=mD L+i.len
 | [],i=>by simp[mD]
 | y :: L,i=>by
  rw[GQ];unfold mD;rw[AF L i];omega
theorem DB{ts:List Tok}:∀(L:List gF) (p k:Nat),qA ts p L=BR->k<=L.length->qA ts (p+mD (L.take k)) (L.drop k)=BR
 | L,p,0,h,_=>by simpa [mD]using h
 | [],p,k+1,h,hk=>by simp at hk
 | i :: r,p,k+1,h,hk=>by
  unfold qA at h;simp only[BW]at h;have:=DB r _ k h.2 (by simpa using hk);rw[List.take_succ_cons,List.drop_succ_cons];unfold mD;rw[show p+(i.len+mD (r.take k))=p+i.len+mD (r.take k)from by omega];exact this
structure Cf where
 v0:Bn
 v2:Bn
 v3:Bn
 v4:Bn
 M:List bT
 S:List iI
 L:List aO
 V:List fU
def Cf.inner(x:Cf):List jK:=x.M.flatMap bT.rows++x.V.map fU.row
def Cf.rows(x:Cf):List jK:=zj x.v0 x.M :: wS x.v2 x.S :: wT x.v3 x.L :: vB x.v4 x.V :: x.inner
abbrev Cf.cs(x:Cf):Array Value:=gy x.v0 x.v2 x.v3 x.v4
structure Cf.Is(x:Cf)(I:List gF):Prop where
 m:iC bT.is x.M (I.filterMap gF.PI)
 s:x.S=I.filterMap gF.Z5
 l:x.L=I.filterMap gF.ln?
 v:iC fU.is x.V (I.filterMap gF.Z6)
theorem wU{x:Cf}{r:jK}(h:r∈x.inner):r.t=71\/r.t=73\/r.t=41:=by
 rcases E2.1 h with h | h
 .obtain⟨y,_,hr⟩:=List.mem_flatMap.1 h
  rcases PJ hr with e | e
  .exact .inl e
  .exact .inr (.inl e)
 .obtain⟨y,_,rfl⟩:=GR.1 h
  exact .inr (.inr rfl)
section
variable {w0:Al} {g:Nat} {A:Option EK} {c:Nat} {ts:List Tok} {now:Nat} {sz:Int} {K:List MJ}
theorem Cf.slices{x:Cf}{w:Al}(h:ig w0 g A c ts sz K x.rows now w):∃q0 m0 q2 m2 q3 m3 q4 m4,x.v0= .slice q0 x.M.length m0/\x.v2= .slice q2 x.S.length m2/\x.v3= .slice q3 x.L.length m3/\x.v4= .slice q4 x.V.length m4:=by
 have h0:=h.q (zj x.v0 x.M) (by simp[Cf.rows]);have h2:=h.q (wS x.v2 x.S) (by simp[Cf.rows]);have h3:=h.q (wT x.v3 x.L) (by simp[Cf.rows]);have h4:=h.q (vB x.v4 x.V) (by simp[Cf.rows]);obtain⟨q0,m0,e0,_⟩:=bp h0;obtain⟨q2,m2,e2,_⟩:=bp h2;obtain⟨q3,m3,e3,_⟩:=bp h3;obtain⟨q4,m4,e4,_⟩:=bp h4;exact⟨q0,m0,q2,m2,q3,m3,q4,m4,e0,e2,e3,e4⟩
theorem Wd(it:gF)(x:Cf)(I:List gF)(w:Al)(h:ig w0 g A c ts sz K x.rows now w)(hx:x.Is I)(hk:∀r∈K,r.t=31)(hl:ts.length<=100000)(ha:J3 ts now it=BR)(hL:x.M.length<=1000/\x.S.length<=1000/\x.L.length<=1000/\x.V.length<=1000):
 ET pG 116 #[.pointer (Ai ⟨g,0,Ag⟩),.agg x.cs] w λe w'=>∃y:Cf,e= .returned (.agg y.cs)/\y.Is (I++ [it])/\ig w0 g A c ts sz K y.rows (now+it.len) w':=by
 obtain⟨q0,m0,q2,m2,q3,m3,q4,m4,e0,e2,e3,e4⟩:=Cf.slices h;obtain⟨v0,v2,v3,v4,M,S,L,V⟩:=x;dsimp only at e0 e2 e3 e4 hL;subst e0 e2 e3 e4;obtain⟨hm,hs,Z7,hv⟩:=hx;dsimp only at hm hs Z7 hv
 cases it with
 | sw z=>
  unfold J3 at ha;simp only[BW]at ha;have h1:=h.sub (K':=K) (Q':=wS (.slice q2 S.length m2) S :: zj (.slice q0 M.length m0) M :: wT (.slice q3 L.length m3) L :: vB (.slice q4 V.length m4) V :: Cf.inner ⟨.slice q0 M.length m0,.slice q2 S.length m2,.slice q3 L.length m3,.slice q4 V.length m4,M,S,L,V⟩) (λr hr=>hr) (λr hr=>by
   simp only[Cf.rows,BU]at hr ⊢;rcases hr with hr | hr | hr
   .exact .inr (.inl hr)
   .exact .inl hr
   .exact .inr (.inr hr))
  refine(aAq z q0 q3 q4 _ m0 _ m3 _ m4 _ S w h1 (λr hr=> ?_) hk hl ha.1 ha.2 hL.2.1).mono ?_
  .simp only[BU]at hr
   rcases hr with rfl | rfl | rfl | hr
   .exact⟨by show 67≠87;decide,by show 67≠31;decide⟩
   .exact⟨by show 46≠87;decide,by show 46≠31;decide⟩
   .exact⟨by show 44≠87;decide,by show 44≠31;decide⟩
   .rcases wU hr with e | e | e<;>rw[e]<;>decide
  .rintro e w' ⟨u,rfl,hP⟩
   refine⟨⟨.slice q0 M.length m0,u,.slice q3 L.length m3,.slice q4 V.length m4,M,S++ [z],L,V⟩,rfl,⟨by simpa [EV,EY,E7,gF.PI]using hm,by simp[EV,EY,E7,gF.Z5,hs],by simp[EV,EY,E7,gF.ln?,Z7],by simpa [EV,EY,E7,gF.Z6]using hv⟩,?_⟩;have:=hP.sub (K':=K) (Q':=Cf.rows ⟨.slice q0 M.length m0,u,.slice q3 L.length m3,.slice q4 V.length m4,M,S++ [z],L,V⟩) (λr hr=>hr) (λr hr=>by
    simp only[Cf.rows,BU]at hr ⊢;rcases hr with hr | hr | hr
    .exact .inr (.inl hr)
    .exact .inl hr
    .exact .inr (.inr hr))
   rw[show now+gF.len (.sw z)=now+1+8 from by show now+9=_;omega];exact this
 | ln z=>
  unfold J3 at ha;simp only[BW]at ha;have h1:=h.sub (K':=K) (Q':=wT (.slice q3 L.length m3) L :: zj (.slice q0 M.length m0) M :: wS (.slice q2 S.length m2) S :: vB (.slice q4 V.length m4) V :: Cf.inner ⟨.slice q0 M.length m0,.slice q2 S.length m2,.slice q3 L.length m3,.slice q4 V.length m4,M,S,L,V⟩) (λr hr=>hr) (λr hr=>by
   simp only[Cf.rows,BU]at hr ⊢;rcases hr with hr | hr | hr | hr
   .exact .inr (.inr (.inl hr))
   .exact .inl hr
   .exact .inr (.inl hr)
   .exact .inr (.inr (.inr hr)))
  refine(aAr z q0 q2 q4 _ m0 _ m2 _ m4 _ L w h1 (λr hr=> ?_) hk hl ha.1 ha.2 hL.2.2.1).mono ?_
  .simp only[BU]at hr
   rcases hr with rfl | rfl | rfl | hr
   .exact⟨by show 67≠46;decide,by show 67≠31;decide⟩
   .exact⟨by show 87≠46;decide,by show 87≠31;decide⟩
   .exact⟨by show 44≠46;decide,by show 44≠31;decide⟩
   .rcases wU hr with e | e | e<;>rw[e]<;>decide
  .rintro e w' ⟨u,rfl,hP⟩
   refine⟨⟨.slice q0 M.length m0,.slice q2 S.length m2,u,.slice q4 V.length m4,M,S,L++ [z],V⟩,rfl,⟨by simpa [EV,EY,E7,gF.PI]using hm,by simp[EV,EY,E7,gF.Z5,hs],by simp[EV,EY,E7,gF.ln?,Z7],by simpa [EV,EY,E7,gF.Z6]using hv⟩,?_⟩;have:=hP.sub (K':=K) (Q':=Cf.rows ⟨.slice q0 M.length m0,.slice q2 S.length m2,u,.slice q4 V.length m4,M,S,L++ [z],V⟩) (λr hr=>hr) (λr hr=>by
    simp only[Cf.rows,BU]at hr ⊢;rcases hr with hr | hr | hr | hr
    .exact .inr (.inl hr)
    .exact .inr (.inr (.inl hr))
    .exact .inl hr
    .exact .inr (.inr (.inr hr)))
   rw[show now+gF.len (.ln z)=now+1+7 from by show now+8=_;omega];exact this
 | vl z=>
  unfold J3 at ha;simp only[BW]at ha;have h1:=h.sub (K':=K) (Q':=vB (.slice q4 V.length m4) V :: zj (.slice q0 M.length m0) M :: wS (.slice q2 S.length m2) S :: wT (.slice q3 L.length m3) L :: Cf.inner ⟨.slice q0 M.length m0,.slice q2 S.length m2,.slice q3 L.length m3,.slice q4 V.length m4,M,S,L,V⟩) (λr hr=>hr) (λr hr=>by
   simp only[Cf.rows,BU]at hr ⊢;rcases hr with hr | hr | hr | hr | hr
   .exact .inr (.inr (.inr (.inl hr)))
   .exact .inl hr
   .exact .inr (.inl hr)
   .exact .inr (.inr (.inl hr))
   .exact .inr (.inr (.inr (.inr hr))))
  refine(aAs z q0 q2 q3 _ m0 _ m2 _ m3 _ V w h1 (λr hr=> ?_) hk hl ha.1 ha.2 hL.2.2.2).mono ?_
  .simp only[BU]at hr
   rcases hr with rfl | rfl | rfl | hr
   .exact⟨by show 67≠44;decide,by show 67≠31;decide⟩
   .exact⟨by show 87≠44;decide,by show 87≠31;decide⟩
   .exact⟨by show 46≠44;decide,by show 46≠31;decide⟩
   .rcases wU hr with e | e | e<;>rw[e]<;>decide
  .rintro e w' ⟨u,y,rfl,hy,hP⟩
   refine⟨⟨.slice q0 M.length m0,.slice q2 S.length m2,.slice q3 L.length m3,u,M,S,L,V++ [y]⟩,rfl,⟨by simpa [EV,EY,E7,gF.PI]using hm,by simp[EV,EY,E7,gF.Z5,hs],by simp[EV,EY,E7,gF.ln?,Z7],by simpa [EV,EY,E7,gF.Z6]using iC.add hy hv⟩,?_⟩;have:=hP.sub (K':=K) (Q':=Cf.rows ⟨.slice q0 M.length m0,.slice q2 S.length m2,.slice q3 L.length m3,u,M,S,L,V++ [y]⟩) (λr hr=>hr) (λr hr=>by
    simp only[Cf.rows,Cf.inner,BU,E2,JO,List.map_cons,List.map_nil,List.not_mem_nil,or_false]at hr ⊢;rcases hr with hr | hr | hr | hr | hr | hr | hr
    .exact .inr (.inr (.inl hr))
    .exact .inr (.inr (.inr (.inl hr)))
    .exact .inr (.inr (.inr (.inr (.inl hr))))
    .exact .inl hr
    .exact .inr (.inr (.inr (.inr (.inr (.inl hr)))))
    .exact .inr (.inr (.inr (.inr (.inr (.inr hr)))))
    .exact .inr (.inl hr))
   rw[show now+gF.len (.vl z)=now+1+(12+6*z.dst.length)from by show now+(13+6*z.dst.length)=_;omega];exact this
 | mo z=>
  unfold J3 at ha;simp only[BW]at ha;have h1:=h.sub (K':=K) (Q':=zj (.slice q0 M.length m0) M :: wS (.slice q2 S.length m2) S :: wT (.slice q3 L.length m3) L :: vB (.slice q4 V.length m4) V :: Cf.inner ⟨.slice q0 M.length m0,.slice q2 S.length m2,.slice q3 L.length m3,.slice q4 V.length m4,M,S,L,V⟩) (λr hr=>hr) (λr hr=>hr);refine(aAt z q2 q3 q4 _ m2 _ m3 _ m4 _ M w h1 (λr hr=> ?_) hk hl ha.1.1 ha.1.2 hL.1).mono ?_
  .simp only[BU]at hr
   rcases hr with rfl | rfl | rfl | hr
   .exact⟨by show 87≠67;decide,by show 87≠31;decide⟩
   .exact⟨by show 46≠67;decide,by show 46≠31;decide⟩
   .exact⟨by show 44≠67;decide,by show 44≠31;decide⟩
   .rcases wU hr with e | e | e<;>rw[e]<;>decide
  .rintro e w' ⟨u,y,rfl,hy,hP⟩
   refine⟨⟨u,.slice q2 S.length m2,.slice q3 L.length m3,.slice q4 V.length m4,M++ [y],S,L,V⟩,rfl,⟨by simpa [EV,EY,E7,gF.PI]using iC.add hy hm,by simp[EV,EY,E7,gF.Z5,hs],by simp[EV,EY,E7,gF.ln?,Z7],by simpa [EV,EY,E7,gF.Z6]using hv⟩,?_⟩;have:=hP.sub (K':=K) (Q':=Cf.rows ⟨u,.slice q2 S.length m2,.slice q3 L.length m3,.slice q4 V.length m4,M++ [y],S,L,V⟩) (λr hr=>hr) (λr hr=>by
    simp only[Cf.rows,Cf.inner,BU,E2,Ig,List.flatMap_cons,List.flatMap_nil,List.append_nil]at hr ⊢;rcases hr with hr | hr | hr | hr | (hr | hr) | hr
    .exact .inl hr
    .exact .inr (.inr (.inl hr))
    .exact .inr (.inr (.inr (.inl hr)))
    .exact .inr (.inr (.inr (.inr (.inl hr))))
    .exact .inr (.inr (.inr (.inr (.inr (.inl hr)))))
    .exact .inr (.inl hr)
    .exact .inr (.inr (.inr (.inr (.inr (.inr hr))))))
   rw[show now+gF.len (.mo z)=now+1+zi z from by show now+(1+zi z)=_;omega];exact this
end
theorem aEZ(s:ByteArray)(ts:List Tok)(F:Nat)(w:Al)(hs:s.size<=1000)(h:jG s F 0 []=Ai ts):
 ET pG 115 #[.string s] w λe w'=>∃g A c,e= .returned (.pointer (Ai ⟨g,0,Ag⟩))/\gM w' g A c ts 0 s.size/\w.heap.size<=g/\Below w.heap.size w w':=by
 have Hl:=lz (aIK s ts F w hs h);clear h;go_enter func115,ntmps115;go_wp2_with fail;refine Hl.out.mono ?_;rintro e w1 ⟨A,c,rfl,ht,hb⟩;have HR:=lz (ai ht hb);clear ht hb Hl;go_wp2;go_ret;refine⟨w1.heap.size,A,c,rfl,⟨ah.new w1 _ _,HR.out.1.dn nL λb o hlt=>World.cell?_alloc_lt w1 _ ⟨b,o,Ag⟩ hlt⟩,HR.out.2.size,HR.out.2.alloc HR.out.2.size _⟩
