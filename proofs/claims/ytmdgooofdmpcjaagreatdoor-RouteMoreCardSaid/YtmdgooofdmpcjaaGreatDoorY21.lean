import Derived.Test.YtmdgooofdmpcjaaGreatDoorY6
set_option maxRecDepth 100000
set_option maxHeartbeats 8000000
set_option linter.unusedSimpArgs false
set_option linter.unusedVariables false
set_option linter.unusedSectionVars false
open Go.Proofs.Tryz renaming prog → pG
open Nat renaming lt_of_lt_of_le->EU
open Go.Proofs.Tryz
namespace Go.Proofs.YtmdgooofdmpcjaaGreatDoor
open Go renaming wpQuiet_nil->E5
open RowKit renaming Below->BD,intOf->E8
section
open Go.ChangeShapes Go.WideShapes Go.ChangeAt Go.RowKit
attribute [local go_sem] Oper.semAt_some
def jN(r:bw)(l:List bw):Int:=l.foldl (λa y=>wrap64 (a+wrap64 (wrap64 ((y.m.size:Int)+y.p.size)+y.o.size))) (wrap64 (wrap64 ((r.m.size:Int)+r.p.size)+r.o.size))
theorem Gy(r:bw)(l:List bw):jN r (l.take 0)=wrap64 (wrap64 ((r.m.size:Int)+r.p.size)+r.o.size):=by
 unfold jN;rw[List.take_zero];exact List.foldl_nil
theorem Gz{r:bw}{l:List bw}{k:Nat}(h:k<l.length):jN r (l.take (k+1))=wrap64 (jN r (l.take k)+wrap64 (wrap64 ((l[k].m.size:Int)+l[k].p.size)+l[k].o.size)):=by
 unfold jN;rw[List.take_succ_eq_append_getElem h,List.foldl_append];rfl
theorem Jz(r:bw)(l:List bw)(A:Option Addr)(c:Nat)(w:World)(h:jo w w.heap.size A l)(hl:l.length<=9223372036854775807):
 CU 21 #[r.val,.slice A l.length c] w (.int .i64 (jN r l)):=by
 have b0:=ah.new w 41 #[.string r.m,.string r.p,.string r.o];have k0:=b0.cell 0;have k1:=b0.cell 1;have k2:=b0.cell 2;have H:=lz h;obtain⟨F,h0,hF,he⟩:∃F:Nat->Int,F 0=wrap64 (wrap64 ((r.m.size:Int)+r.p.size)+r.o.size)/\(∀k (h:k<l.length),F (k+1)=wrap64 (F k+wrap64 (wrap64 ((l[k].m.size:Int)+l[k].p.size)+l[k].o.size)))/\F l.length=jN r l:=⟨λk=>jN r (l.take k),Gy r l,λk h=>Gz h,qz⟩;have H0:=lz h0;have HF:=lz hF;rw[<-he];clear b0 h h0 hF he;go_enter func21,ntmps21;go_wp2;go_loopw [5,6] (λb i wr=>∃(k:Nat),k<=l.length/\b= .int .i64 (F k)/\i= .int .i64 k/\Hid (BD w.heap.size w wr)) (λ_ i _=>l.length-(E8 i).toNat)
 case atStart=>exact⟨0,nZ,by rw[H0.out],rfl,lz (bN)⟩
 case round=>
  obtain⟨k,hk,rfl,rfl,HW⟩:=hrel;clear k0 k1 k2;by_cases hlt:k<l.length
  .obtain⟨b,o,rfl,hb,hc⟩:=(H.out.below HW.out) oz
   obtain⟨d0,d1,d2⟩:=hc k hlt;have hn:=lz (HF.out k hlt);clear hc;generalize l[k]=y at *;have iR:=bn wr;go_wp2_with fail;refine aB kz kz ?_;repeat (go_big_quiet_step (fail))
   refine E5 ?_;intro _ hw';obtain⟨xx,hw''⟩:=hw';subst hw'';have HX:=lz (HW.out.trans (xx.h.mono HW.out.size));clear iR d0 d1 d2;generalize xx.w=W2 at *;go_wp2;go_roundw
   case rel=>exact⟨k+1,oz,by rw[hn.out],by go_num,HX⟩
   case measure=>simp[E8];omega
  .obtain rfl:k=l.length:=by omega
   go_wp2;go_ret;exact⟨rfl,HW.out⟩
theorem Q0(x:ay)(w:World)(hr:x.rd w w.heap.size):
 Calls pG 9 #[x.val] w λe w'=>(∃z:Int,e= .returned (.int .i64 z))/\BD w.heap.size w w':=by
 obtain⟨⟨a0,p0,l0⟩,⟨a1,p1,l1⟩,⟨a2,p2,l2⟩,⟨a3,p3,l3⟩,⟨a4,p4,l4⟩,⟨a5,p5,l5⟩,⟨a6,p6,l6⟩,⟨a7,p7,l7⟩⟩:=x;have rT:=lz (show dK w w.heap.size a0 l0 from hr.mods);have hl0:l0.length<=9223372036854775807:=nT hr.AU (nT hr.AV dz);have VF:=lz (show dY w w.heap.size a1 l1 from hr.aj);have DL:l1.length<=9223372036854775807:=nT hr.DZ (nT hr.D1 dz);have Hr2:=lz (show dL w w.heap.size a2 l2 from hr.aP);have Cb:l2.length<=9223372036854775807:=nT hr.aBH (nT hr.aBI dz);have Hr3:=lz (show fZ w w.heap.size a3 l3 from hr.links);have qD:l3.length<=9223372036854775807:=nT hr.D2 (nT hr.D3 dz);have Hr4:=lz (show mV w w.heap.size a4 l4 from hr.aF);have Xk:l4.length<=9223372036854775807:=nT hr.T9 (nT hr.Ua dz);have Hr5:=lz (show fA w w.heap.size a5 l5 from hr.bQ);have hl5:l5.length<=9223372036854775807:=nT hr.aBJ (nT hr.aBK dz);have Hr6:=lz (show kr w w.heap.size a6 l6 from hr.causes);have hl6:l6.length<=9223372036854775807:=nT hr.CN (nT hr.CO dz);have Hr7:=lz (show dS w w.heap.size a7 l7 from hr.aA);have hl7:l7.length<=9223372036854775807:=nT hr.R9 (nT hr.Sb dz);obtain⟨y0,bR⟩:=ez (w.alloc (.cells #[.slice a0 l0.length p0,.slice a1 l1.length p1,.slice a2 l2.length p2,.slice a3 l3.length p3,.slice a4 l4.length p4,.slice a5 l5.length p5,.slice a6 l6.length p6,.slice a7 l7.length p7] 31));have bW:BD w.heap.size w y0:=by rw[bR];exact bN
 have bS:ah y0 w.heap.size 31 #[.slice a0 l0.length p0,.slice a1 l1.length p1,.slice a2 l2.length p2,.slice a3 l3.length p3,.slice a4 l4.length p4,.slice a5 l5.length p5,.slice a6 l6.length p6,.slice a7 l7.length p7]:=by rw[bR];exact ah.new w _ _
 have sH:w.heap.size<y0.heap.size:=bS.lt;have aV:=lz bW;have sA:=lz bS;have dV:=lz bR;have k0:=bR▸bS.cell 0;have k1:=bR▸bS.cell 1;have k2:=bR▸bS.cell 2;have k3:=bR▸bS.cell 3;have k4:=bR▸bS.cell 4;have k5:=bR▸bS.cell 5;have k6:=bR▸bS.cell 6;have k7:=bR▸bS.cell 7;clear hr bR bW bS;go_enter func9,ntmps9;go_wp2_with fail;rw[<-dV.out];clear k0 k1 k2 k3 k4 k5 k6 k7;go_loopw [3,4,5] (λa b i wr=>∃(n ch:Int) (k:Nat),k<=l0.length/\a= .int .i64 n/\b= .int .i64 ch/\i= .int .i64 k/\Hid (BD y0.heap.size y0 wr)) (λ_ _ i _=>l0.length-(E8 i).toNat)
 case atStart=>exact⟨_,_,0,nZ,rfl,rfl,rfl,lz (Below.refl _ _)⟩
 case round=>
  obtain⟨nA,chA,kA,hkA,rfl,rfl,rfl,HWA⟩:=hrel;generalize wr=wA at *;have cA:=(sA.out.below HWA.out sH).cell 0;by_cases aPq:kA<l0.length
  .skip
   have aLI:BD w.heap.size w wA:=aV.out.trans (HWA.out.mono aV.out.size);obtain⟨bA,oA,rfl,hbA,hcA⟩:=(rT.out.below aLI) oz;obtain⟨d0,d1,d2,d3,Gg⟩:=hcA kA aPq;clear hcA aLI;generalize l0[kA]=xA at *;obtain⟨y1,K1⟩:=ez (wA.alloc (.cells #[.string xA.nm,.int .i64 xA.mem,.int .i64 xA.fr,.slice xA.parts.a xA.parts.l.length xA.parts.c] 67));have bY:BD wA.heap.size wA y1:=by rw[K1];exact bN
   have CY:ah y1 wA.heap.size 67 #[.string xA.nm,.int .i64 xA.mem,.int .i64 xA.fr,.slice xA.parts.a xA.parts.l.length xA.parts.c]:=by rw[K1];exact ah.new wA _ _
   have Hmr:=lz (Gg.below bY);have Vx:xA.parts.l.length<=9223372036854775807:=nT Gg.zI (nT Gg.zJ dz);have aPr:wA.heap.size<y1.heap.size:=CY.lt;have m0:=K1▸CY.cell 0;have m3:=K1▸CY.cell 3;have Hy1:=lz K1;have Hbm:=lz CY;have cU:=lz (HWA.out.trans (bY.mono HWA.out.size));clear Gg CY K1 bY;go_wp2_with fail;rw[<-Hy1.out];clear m0 m3 d0 d1 d2 d3 cA;go_loopw [3,4,7] (λa b i wr=>∃(n ch:Int) (k:Nat),k<=xA.parts.l.length/\a= .int .i64 n/\b= .int .i64 ch/\i= .int .i64 k/\Hid (BD y1.heap.size y1 wr)) (λ_ _ i _=>xA.parts.l.length-(E8 i).toNat)
   case atStart=>exact⟨_,_,0,nZ,rfl,rfl,rfl,lz (Below.refl _ _)⟩
   case round=>
    obtain⟨nB,chB,kB,hkB,rfl,rfl,rfl,HWB⟩:=hrel;generalize wr=wB at *;have m3:=(Hbm.out.below HWB.out aPr).cell 3;by_cases aPs:kB<xA.parts.l.length
    .obtain⟨bB,oB,eB,gD,hcB⟩:=(Hmr.out.below HWB.out).parts oz
     obtain⟨e0,e1,e2,e3,e4,e5,e6,e7,e8,e9,Mg⟩:=hcB kB aPs;clear hcB;rw[eB]at m3;generalize xA.parts.l[kB]=xB at *;obtain⟨y2,KT⟩:=ez (wB.alloc (.cells #[.string xB.nm,.int .i64 xB.pe,.int .i64 xB.le,.int .i64 xB.mem,.slice xB.aG.a xB.aG.l.length xB.aG.c,.int .i64 xB.ev,.int .i64 xB.bo,.slice xB.aX.a xB.aX.l.length xB.aX.c,.slice xB.aq.a xB.aq.l.length xB.aq.c,.slice xB.procs.a xB.procs.l.length xB.procs.c] 71));have pq:BD wB.heap.size wB y2:=by rw[KT];exact bN
     have kg:ah y2 wB.heap.size 71 #[.string xB.nm,.int .i64 xB.pe,.int .i64 xB.le,.int .i64 xB.mem,.slice xB.aG.a xB.aG.l.length xB.aG.c,.int .i64 xB.ev,.int .i64 xB.bo,.slice xB.aX.a xB.aX.l.length xB.aX.c,.slice xB.aq.a xB.aq.l.length xB.aq.c,.slice xB.procs.a xB.procs.l.length xB.procs.c]:=by rw[KT];exact ah.new wB _ _
     have Hpr:=lz (Mg.below pq);have hlq:xB.aq.l.length<=9223372036854775807:=nT Mg.DX (nT Mg.DY dz);have KX:xB.procs.l.length<=9223372036854775807:=nT Mg.zG (nT Mg.zH dz);have aLK:wB.heap.size<y2.heap.size:=kg.lt;have q0:=KT▸kg.cell 0;have q4:=KT▸kg.cell 4;have q7:=KT▸kg.cell 7;have q8:=KT▸kg.cell 8;have q9:=KT▸kg.cell 9;have Hy2:=lz KT;have UK:=lz kg;have eF:=lz (HWB.out.trans (pq.mono HWB.out.size));clear Mg kg KT pq;go_wp2_with fail;rw[<-Hy2.out];clear q0 q4 q7 q8 q9 e0 e1 e2 e3 e4 e5 e6 e7 e8 e9 m3;go_loopw [4,9] (λb i wr=>∃(ch:Int) (k:Nat),k<=xB.aq.l.length/\b= .int .i64 ch/\i= .int .i64 k/\Hid (BD y2.heap.size y2 wr)) (λ_ i _=>xB.aq.l.length-(E8 i).toNat)
     case atStart=>exact⟨_,0,nZ,rfl,rfl,lz (Below.refl _ _)⟩
     case round=>
      obtain⟨chC,kC,hkC,rfl,rfl,HWC⟩:=hrel;generalize wr=wC at *;have q8:=(UK.out.below HWC.out aLK).cell 8;by_cases aPt:kC<xB.aq.l.length
      .obtain⟨bC,oC,eC,hbC,hcC⟩:=(Hpr.out.below HWC.out).aq oz
       obtain⟨f0,f1,f2,f3,f4,f5,_⟩:=hcC kC aPt;clear hcC;rw[eC]at q8;generalize xB.aq.l[kC]=xC at *;go_wp2;go_roundw
       case rel=>exact⟨_,kC+1,oz,rfl,by go_num,HWC⟩
       case measure=>simp[E8];omega
      .go_wp2_with fail
       clear q8;go_loopw [3,4,10] (λa b i wr=>∃(n ch:Int) (k:Nat),k<=xB.procs.l.length/\a= .int .i64 n/\b= .int .i64 ch/\i= .int .i64 k/\Hid (BD y2.heap.size y2 wr)) (λ_ _ i _=>xB.procs.l.length-(E8 i).toNat)
       case atStart=>exact⟨_,_,0,nZ,rfl,rfl,rfl,HWC⟩
       case round=>
        obtain⟨nD,chD,kD,hkD,rfl,rfl,rfl,HWD⟩:=hrel;generalize wr=wD at *;have q9:=(UK.out.below HWD.out aLK).cell 9;by_cases aPu:kD<xB.procs.l.length
        .obtain⟨bD,oD,eD,hbD,hcD⟩:=(Hpr.out.below HWD.out).procs oz
         obtain⟨f0,f1,f2,f3,f4,_⟩:=hcD kD aPu;clear hcD;rw[eD]at q9;generalize xB.procs.l[kD]=xD at *;go_wp2;go_roundw
         case rel=>exact⟨_,_,kD+1,oz,rfl,rfl,by go_num,HWD⟩
         case measure=>simp[E8];omega
        .go_wp2_with fail
         go_roundw
         case rel=>exact⟨_,_,kB+1,oz,rfl,rfl,by go_num,lz (eF.out.trans (HWD.out.mono eF.out.size))⟩
         case measure=>simp[E8];omega
    .go_wp2_with fail
     go_roundw
     case rel=>exact⟨_,_,kA+1,oz,rfl,rfl,by go_num,lz (cU.out.trans (HWB.out.mono cU.out.size))⟩
     case measure=>simp[E8];omega
  .go_wp2_with fail
   clear cA;go_loopw [3,4,11] (λa b i wr=>∃(n ch:Int) (k:Nat),k<=l1.length/\a= .int .i64 n/\b= .int .i64 ch/\i= .int .i64 k/\Hid (BD y0.heap.size y0 wr)) (λ_ _ i _=>l1.length-(E8 i).toNat)
   case atStart=>exact⟨_,_,0,nZ,rfl,rfl,rfl,HWA⟩
   case round=>
    obtain⟨nE,chE,kE,hkE,rfl,rfl,rfl,HWE⟩:=hrel;generalize wr=wE at *;have cE:=(sA.out.below HWE.out sH).cell 1;by_cases aPv:kE<l1.length
    .skip
     have aLL:BD w.heap.size w wE:=aV.out.trans (HWE.out.mono aV.out.size);obtain⟨bE,oE,rfl,hbE,hcE⟩:=(VF.out.below aLL) oz;obtain⟨d0,d1,d2,d3,AA⟩:=hcE kE aPv;clear hcE aLL;generalize l1[kE]=xE at *;have hld:xE.dst.l.length<=9223372036854775807:=nT AA.P5 (nT AA.P6 dz);have au:∀z:Ext wE,CU 21 #[.agg #[.string xE.src.m,.string xE.src.p,.string xE.src.o],.slice xE.dst.a xE.dst.l.length xE.dst.c] z.w (.int .i64 (jN xE.src xE.dst.l)):=λz=>Jz xE.src xE.dst.l xE.dst.a xE.dst.c z.w (AA.dst.below z.h) hld
     have aN:=lz au;clear au;have Hxr:=lz AA;clear AA;have YT:w.heap.size<wE.heap.size:=EU sH HWE.out.size;have iR:=bn wE;go_wp2_with fail;refine aB kz kz ?_;repeat (go_big_quiet_step ((go_at_call 21;with_reducible exact dN (aN.out _))))
     refine E5 ?_;intro _ hw';obtain⟨xx,hw''⟩:=hw';subst hw'';have aXb:=lz xx.h;have HvE:=lz (HWE.out.trans (xx.h.mono HWE.out.size));clear iR YT aN d0 d1 d2 d3 cE;generalize xx.w=vE at *;go_wp2;go_roundw
     case rel=>exact⟨_,_,kE+1,oz,rfl,rfl,by go_num,HvE⟩
     case measure=>simp[E8];omega
    .go_wp2_with fail
     clear cE;go_loopw [3,4,12] (λa b i wr=>∃(n ch:Int) (k:Nat),k<=l4.length/\a= .int .i64 n/\b= .int .i64 ch/\i= .int .i64 k/\Hid (BD y0.heap.size y0 wr)) (λ_ _ i _=>l4.length-(E8 i).toNat)
     case atStart=>exact⟨_,_,0,nZ,rfl,rfl,rfl,HWE⟩
     case round=>
      obtain⟨nF,chF,kF,hkF,rfl,rfl,rfl,HWF⟩:=hrel;generalize wr=wF at *;have cF:=(sA.out.below HWF.out sH).cell 4;by_cases aPy:kF<l4.length
      .skip
       have aLM:BD w.heap.size w wF:=aV.out.trans (HWF.out.mono aV.out.size);obtain⟨bF,oF,rfl,hbF,hcF⟩:=(Hr4.out.below aLM) oz;obtain⟨d0,d1,d2,d3,d4,d5,d6,AA⟩:=hcF kF aPy;clear hcF aLM;generalize l4[kF]=xF at *;have hld:xF.dst.l.length<=9223372036854775807:=nT AA.P5 (nT AA.P6 dz);have au:∀z:Ext wF,CU 21 #[.agg #[.string xF.src.m,.string xF.src.p,.string xF.src.o],.slice xF.dst.a xF.dst.l.length xF.dst.c] z.w (.int .i64 (jN xF.src xF.dst.l)):=λz=>Jz xF.src xF.dst.l xF.dst.a xF.dst.c z.w (AA.dst.below z.h) hld
       have aN:=lz au;clear au;have Hxr:=lz AA;clear AA;have YT:w.heap.size<wF.heap.size:=EU sH HWF.out.size;have iR:=bn wF;go_wp2_with fail;refine aB kz kz ?_;repeat (go_big_quiet_step ((go_at_call 21;with_reducible exact dN (aN.out _))))
       refine E5 ?_;intro _ hw';obtain⟨xx,hw''⟩:=hw';subst hw'';have aXd:=lz xx.h;have HvF:=lz (HWF.out.trans (xx.h.mono HWF.out.size));clear iR YT aN d0 d1 d2 d3 d4 d5 d6 cF;generalize xx.w=vF at *;go_wp2;go_roundw
       case rel=>exact⟨_,_,kF+1,oz,rfl,rfl,by go_num,HvF⟩
       case measure=>simp[E8];omega
      .go_wp2_with fail
       clear cF;go_loopw [3,4,13] (λa b i wr=>∃(n ch:Int) (k:Nat),k<=l6.length/\a= .int .i64 n/\b= .int .i64 ch/\i= .int .i64 k/\Hid (BD y0.heap.size y0 wr)) (λ_ _ i _=>l6.length-(E8 i).toNat)
       case atStart=>exact⟨_,_,0,nZ,rfl,rfl,rfl,HWF⟩
       case round=>
        obtain⟨nG,chG,kG,hkG,rfl,rfl,rfl,HWG⟩:=hrel;generalize wr=wG at *;have cG:=(sA.out.below HWG.out sH).cell 6;by_cases aPz:kG<l6.length
        .skip
         have aLN:BD w.heap.size w wG:=aV.out.trans (HWG.out.mono aV.out.size);obtain⟨bG,oG,rfl,hbG,hcG⟩:=(Hr6.out.below aLN) oz;obtain⟨d0,d1,d2,AA⟩:=hcG kG aPz;clear hcG aLN;generalize l6[kG]=xG at *;have Z7:xG.n.n<=9223372036854775807:=nT AA.nc (nT AA.nm dz);have hlx:xG.x.n<=9223372036854775807:=nT AA.xc (nT AA.xm dz);have hnl:=AA.nl;have hxl:=AA.xl;have Hxr:=lz AA;have aCj:bG<wG.heap.size:=World.block_lt_of_cell? wG _ d0;have Hd0:=lz d0;have Hd1:=lz d1;have Hd2:=lz d2;clear AA;have YT:w.heap.size<wG.heap.size:=EU sH HWG.out.size;have iR:=bn wG;go_wp2_with fail;refine aB kz kz ?_;repeat (go_big_quiet_step ((fail)))
         refine E5 ?_;intro _ hw';obtain⟨xx,hw''⟩:=hw';subst hw'';have aP0:=lz xx.h;have HvG:=lz (HWG.out.trans (xx.h.mono HWG.out.size));clear iR YT;generalize xx.w=vG at *;have hXG:BD wG.heap.size wG vG:=aP0.out;have cG2:=(sA.out.below HvG.out sH).cell 6;have g0:vG.cell? ⟨bG,oG+kG*3,none⟩=some (.string xG.c.unit):=(cZ hXG bG _ aCj).trans d0;have g1:vG.cell? ⟨bG,oG+kG*3+1,none⟩=some xG.n.val:=(cZ hXG bG _ aCj).trans d1;have g2:vG.cell? ⟨bG,oG+kG*3+2,none⟩=some xG.x.val:=(cZ hXG bG _ aCj).trans d2;have aLO:=lz (Hxr.out.below hXG);have HXG:=lz hXG;clear d0 d1 d2 hXG cG;go_wp2_with fail;clear g0;go_loopw [4,14] (λb i wr=>∃(ch:Int) (k:Nat),k<=xG.n.n/\b= .int .i64 ch/\i= .int .i64 k/\Hid (BD vG.heap.size vG wr)) (λ_ i _=>xG.n.n-(E8 i).toNat)
         case atStart=>exact⟨_,0,nZ,rfl,rfl,lz (Below.refl _ _)⟩
         case round=>
          obtain⟨chH,kH,hkH,rfl,rfl,HWH⟩:=hrel;generalize wr=wH at *;have cH:=(sA.out.below (HvG.out.trans (HWH.out.mono HvG.out.size)) sH).cell 6;have aLQ:bG<vG.heap.size:=EU aCj HXG.out.size;have h1:wH.cell? ⟨bG,oG+kG*3+1,none⟩=some xG.n.val:=(cZ HWH.out bG _ aLQ).trans g1;by_cases aXg:kH<xG.n.n
          .obtain⟨bH,oH,eH,hbH,hcH⟩:=(aLO.out.below HWH.out).n oz
           obtain⟨f0,f1⟩:=hcH kH oz;clear hcH;rw[show xG.n.val= .slice xG.n.a xG.n.n xG.n.c from rfl,eH]at h1;generalize xG.c.needs[kH]'(by omega)=xH at *;go_wp2;go_roundw
           case rel=>exact⟨_,kH+1,oz,rfl,by go_num,HWH⟩
           case measure=>simp[E8];omega
          .go_wp2_with fail
           clear h1 cH;go_loopw [4,15] (λb i wr=>∃(ch:Int) (k:Nat),k<=xG.x.n/\b= .int .i64 ch/\i= .int .i64 k/\Hid (BD vG.heap.size vG wr)) (λ_ i _=>xG.x.n-(E8 i).toNat)
           case atStart=>exact⟨_,0,nZ,rfl,rfl,HWH⟩
           case round=>
            obtain⟨chI,kI,hkI,rfl,rfl,HWI⟩:=hrel;generalize wr=wI at *;have cI:=(sA.out.below (HvG.out.trans (HWI.out.mono HvG.out.size)) sH).cell 6;have h1:wI.cell? ⟨bG,oG+kG*3+2,none⟩=some xG.x.val:=(cZ HWI.out bG _ aLQ).trans g2;by_cases aXh:kI<xG.x.n
            .obtain⟨bI,oI,eI,hbI,hcI⟩:=(aLO.out.below HWI.out).x oz
             have f0:=hcI kI oz;clear hcI;rw[show xG.x.val= .slice xG.x.a xG.x.n xG.x.c from rfl,eI]at h1;generalize xG.c.excl[kI]'(by omega)=xI at *;go_wp2;go_roundw
             case rel=>exact⟨_,kI+1,oz,rfl,by go_num,HWI⟩
             case measure=>simp[E8];omega
            .go_wp2_with fail
             go_roundw
             case rel=>exact⟨_,_,kG+1,oz,rfl,rfl,by go_num,lz (HvG.out.trans (HWI.out.mono HvG.out.size))⟩
             case measure=>simp[E8];omega
        .go_wp2_with fail
         clear cG;go_loopw [4,16] (λb i wr=>∃(ch:Int) (k:Nat),k<=l2.length/\b= .int .i64 ch/\i= .int .i64 k/\Hid (BD y0.heap.size y0 wr)) (λ_ i _=>l2.length-(E8 i).toNat)
         case atStart=>exact⟨_,0,nZ,rfl,rfl,HWG⟩
         case round=>
          obtain⟨chJ,kJ,hkJ,rfl,rfl,HWJ⟩:=hrel;generalize wr=wJ at *;have cJ:=(sA.out.below HWJ.out sH).cell 2;by_cases aP1:kJ<l2.length
          .skip
           have aLS:BD w.heap.size w wJ:=aV.out.trans (HWJ.out.mono aV.out.size);obtain⟨bJ,oJ,rfl,hbJ,hcJ⟩:=(Hr2.out.below aLS) oz;obtain⟨d0,d1,d2,d3⟩:=hcJ kJ aP1;clear hcJ aLS;generalize l2[kJ]=xJ at *;go_wp2;go_roundw
           case rel=>exact⟨_,kJ+1,oz,rfl,by go_num,HWJ⟩
           case measure=>simp[E8];omega
          .go_wp2_with fail
           clear cJ;go_loopw [4,17] (λb i wr=>∃(ch:Int) (k:Nat),k<=l3.length/\b= .int .i64 ch/\i= .int .i64 k/\Hid (BD y0.heap.size y0 wr)) (λ_ i _=>l3.length-(E8 i).toNat)
           case atStart=>exact⟨_,0,nZ,rfl,rfl,HWJ⟩
           case round=>
            obtain⟨chK,kK,hkK,rfl,rfl,HWK⟩:=hrel;generalize wr=wK at *;have cK:=(sA.out.below HWK.out sH).cell 3;by_cases aP2:kK<l3.length
            .skip
             have aLT:BD w.heap.size w wK:=aV.out.trans (HWK.out.mono aV.out.size);obtain⟨bK,oK,rfl,hbK,hcK⟩:=(Hr3.out.below aLT) oz;obtain⟨d0,d1,d2,d3⟩:=hcK kK aP2;clear hcK aLT;generalize l3[kK]=xK at *;have YT:w.heap.size<wK.heap.size:=EU sH HWK.out.size;have iR:=bn wK;go_wp2_with fail;refine aB kz kz ?_;repeat (go_big_quiet_step ((fail)))
             refine E5 ?_;intro _ hw';obtain⟨xx,hw''⟩:=hw';subst hw'';have aXi:=lz xx.h;have HvK:=lz (HWK.out.trans (xx.h.mono HWK.out.size));clear iR YT d0 d1 d2 d3 cK;generalize xx.w=vK at *;go_wp2;go_roundw
             case rel=>exact⟨_,kK+1,oz,rfl,by go_num,HvK⟩
             case measure=>simp[E8];omega
            .go_wp2_with fail
             clear cK;go_loopw [4,18] (λb i wr=>∃(ch:Int) (k:Nat),k<=l5.length/\b= .int .i64 ch/\i= .int .i64 k/\Hid (BD y0.heap.size y0 wr)) (λ_ i _=>l5.length-(E8 i).toNat)
             case atStart=>exact⟨_,0,nZ,rfl,rfl,HWK⟩
             case round=>
              obtain⟨chL,kL,hkL,rfl,rfl,HWL⟩:=hrel;generalize wr=wL at *;have cL:=(sA.out.below HWL.out sH).cell 5;by_cases aP3:kL<l5.length
              .skip
               have aLU:BD w.heap.size w wL:=aV.out.trans (HWL.out.mono aV.out.size);obtain⟨bL,oL,rfl,hbL,hcL⟩:=(Hr5.out.below aLU) oz;obtain⟨d0,d1,d2,d3,d4,_⟩:=hcL kL aP3;clear hcL aLU;generalize l5[kL]=xL at *;have YT:w.heap.size<wL.heap.size:=EU sH HWL.out.size;have iR:=bn wL;go_wp2_with fail;refine aB kz kz ?_;repeat (go_big_quiet_step ((fail)))
               refine E5 ?_;intro _ hw';obtain⟨xx,hw''⟩:=hw';subst hw'';have aXk:=lz xx.h;have HvL:=lz (HWL.out.trans (xx.h.mono HWL.out.size));clear iR YT d0 d1 d2 d3 d4 cL;generalize xx.w=vL at *;go_wp2;go_roundw
               case rel=>exact⟨_,kL+1,oz,rfl,by go_num,HvL⟩
               case measure=>simp[E8];omega
              .go_wp2_with fail
               clear cL;go_loopw [4,19] (λb i wr=>∃(ch:Int) (k:Nat),k<=l7.length/\b= .int .i64 ch/\i= .int .i64 k/\Hid (BD y0.heap.size y0 wr)) (λ_ i _=>l7.length-(E8 i).toNat)
               case atStart=>exact⟨_,0,nZ,rfl,rfl,HWL⟩
               case round=>
                obtain⟨chM,kM,hkM,rfl,rfl,HWM⟩:=hrel;generalize wr=wM at *;have cM:=(sA.out.below HWM.out sH).cell 7;by_cases aP4:kM<l7.length
                .skip
                 have aLV:BD w.heap.size w wM:=aV.out.trans (HWM.out.mono aV.out.size);obtain⟨bM,oM,rfl,hbM,hcM⟩:=(Hr7.out.below aLV) oz;obtain⟨d0,d1,d2,d3⟩:=hcM kM aP4;clear hcM aLV;generalize l7[kM]=xM at *;have YT:w.heap.size<wM.heap.size:=EU sH HWM.out.size;have iR:=bn wM;go_wp2_with fail;refine aB kz kz ?_;repeat (go_big_quiet_step ((fail)))
                 refine E5 ?_;intro _ hw';obtain⟨xx,hw''⟩:=hw';subst hw'';have aXm:=lz xx.h;have HvM:=lz (HWM.out.trans (xx.h.mono HWM.out.size));clear iR YT d0 d1 d2 d3 cM;generalize xx.w=vM at *;go_wp2;go_roundw
                 case rel=>exact⟨_,kM+1,oz,rfl,by go_num,HvM⟩
                 case measure=>simp[E8];omega
                .go_wp2_with fail
                 clear cM;go_ret;exact⟨⟨_,rfl⟩,aV.out.trans (HWM.out.mono aV.out.size)⟩
