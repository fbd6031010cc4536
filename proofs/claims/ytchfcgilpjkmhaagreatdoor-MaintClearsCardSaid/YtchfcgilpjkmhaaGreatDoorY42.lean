import Derived.Test.YtchfcgilpjkmhaaGreatDoorY16
import Derived.Test.YtchfcgilpjkmhaaGreatDoorY0
set_option maxRecDepth 100000
set_option linter.unusedSimpArgs false
set_option linter.unusedVariables false
set_option linter.unusedSectionVars false
namespace Go.Proofs.YtchfcgilpjkmhaaGreatDoor
open Go.ChangeShapes Go.WideShapes Go.ChangeAt Go.RowKit
attribute [local go_sem] Oper.semAt_some
def lettersV(r:RefV)(l:List RefV):Int:=l.foldl (fun a y=>wrap64 (a+wrap64 (wrap64 ((y.m.size:Int)+y.p.size)+y.o.size))) (wrap64 (wrap64 ((r.m.size:Int)+r.p.size)+r.o.size))
theorem lettersV_zero(r:RefV)(l:List RefV):lettersV r (l.take 0)=wrap64 (wrap64 ((r.m.size:Int)+r.p.size)+r.o.size):=by
 unfold lettersV;rw[List.take_zero];exact List.foldl_nil
theorem lettersV_next{r:RefV}{l:List RefV}{k:Nat}(h:k<l.length):lettersV r (l.take (k+1))=wrap64 (lettersV r (l.take k)+wrap64 (wrap64 ((l[k].m.size:Int)+l[k].p.size)+l[k].o.size)):=by
 unfold lettersV;rw[List.take_succ_eq_append_getElem h,List.foldl_append];rfl
set_option maxHeartbeats 2000000 in
theorem letters_c(r:RefV)(l:List RefV)(A:Option Addr)(c:Nat)(w:World)(h:RdRef w w.heap.size A l)(hl:l.length≤9223372036854775807):
 CU 20 #[r.val,.slice A l.length c] w (.int .i64 (lettersV r l)):=by
 have b0:=Blk.new w 82 #[.string r.m,.string r.p,.string r.o];have k0:=b0.cell 0;have k1:=b0.cell 1;have k2:=b0.cell 2;have H:=lz h;obtain⟨F,h0,hF,he⟩:∃F:Nat→Int,F 0=wrap64 (wrap64 ((r.m.size:Int)+r.p.size)+r.o.size)∧(∀k (h:k<l.length),F (k+1)=wrap64 (F k+wrap64 (wrap64 ((l[k].m.size:Int)+l[k].p.size)+l[k].o.size)))∧F l.length=lettersV r l:=⟨fun k=>lettersV r (l.take k),lettersV_zero r l,fun k h=>lettersV_next h,by simp⟩;have H0:=lz h0;have HF:=lz hF;rw[←he];clear b0 h h0 hF he;go_enter Tryz.func20,Tryz.ntmps20;go_wp2_with fail;go_loopw [5,6] (fun b i wr=>∃(k:Nat),k≤l.length∧b= .int .i64 (F k)∧i= .int .i64 k∧Hid (Below w.heap.size w wr)) (fun _ i _=>l.length-(intOf i).toNat)
 case atStart=>exact⟨0,Nat.zero_le _,by rw[H0.out],rfl,lz ((Below.refl _ w).alloc (Nat.le_refl _) _)⟩
 case round=>
  obtain⟨k,hk,rfl,rfl,HW⟩:=hrel;clear k0 k1 k2;by_cases hlt:k<l.length
  ·obtain⟨b,o,rfl,hb,hc⟩:=(H.out.below HW.out) (by omega)
   obtain⟨d0,d1,d2⟩:=hc k hlt;have hn:=lz (HF.out k hlt);clear hc;generalize l[k]=y at *;have hec:=ext_cell wr;go_wp2_with fail;refine wp_region_ext kz kz ?_;repeat (go_big_quiet_step (fail))
   refine wpQuiet_nil ?_;intro _ hw';obtain⟨xx,hw''⟩:=hw';subst hw'';have HX:=lz (HW.out.trans (xx.h.mono HW.out.size));clear hec d0 d1 d2;generalize xx.w=W2 at *;go_wp2_with fail;go_roundw
   case rel=>exact⟨k+1,by omega,by rw[hn.out],by go_num,HX⟩
   case measure=>simp[intOf];omega
  ·obtain rfl:k=l.length:=by omega
   go_wp2_with fail;go_ret;exact⟨rfl,HW.out⟩
set_option maxHeartbeats 16000000 in
theorem size_c(x:CfgV)(w:World)(hr:x.rd w w.heap.size):
 Calls Tryz.prog 5 #[x.val] w fun e w'=>(∃z:Int,e= .returned (.int .i64 z))∧Below w.heap.size w w':=by
 obtain⟨⟨a0,p0,l0⟩,⟨a1,p1,l1⟩,⟨a2,p2,l2⟩,⟨a3,p3,l3⟩,⟨a4,p4,l4⟩,⟨a5,p5,l5⟩,⟨a6,p6,l6⟩,⟨a7,p7,l7⟩⟩:=x;have Hr0:=lz (show RdModule w w.heap.size a0 l0 from hr.mods);have hl0:l0.length≤9223372036854775807:=Nat.le_trans hr.mods1 (Nat.le_trans hr.mods2 (by decide));have Hr1:=lz (show RdChannel w w.heap.size a1 l1 from hr.chans);have hl1:l1.length≤9223372036854775807:=Nat.le_trans hr.chans1 (Nat.le_trans hr.chans2 (by decide));have Hr2:=lz (show RdSwitch w w.heap.size a2 l2 from hr.sws);have hl2:l2.length≤9223372036854775807:=Nat.le_trans hr.sws1 (Nat.le_trans hr.sws2 (by decide));have Hr3:=lz (show RdLink w w.heap.size a3 l3 from hr.links);have hl3:l3.length≤9223372036854775807:=Nat.le_trans hr.links1 (Nat.le_trans hr.links2 (by decide));have Hr4:=lz (show RdVL w w.heap.size a4 l4 from hr.vls);have hl4:l4.length≤9223372036854775807:=Nat.le_trans hr.vls1 (Nat.le_trans hr.vls2 (by decide));have Hr5:=lz (show RdHealth w w.heap.size a5 l5 from hr.hea);have hl5:l5.length≤9223372036854775807:=Nat.le_trans hr.hea1 (Nat.le_trans hr.hea2 (by decide));have Hr6:=lz (show RdCs w w.heap.size a6 l6 from hr.causes);have hl6:l6.length≤9223372036854775807:=Nat.le_trans hr.causes1 (Nat.le_trans hr.causes2 (by decide));have Hr7:=lz (show RdVersion w w.heap.size a7 l7 from hr.vers);have hl7:l7.length≤9223372036854775807:=Nat.le_trans hr.vers1 (Nat.le_trans hr.vers2 (by decide));obtain⟨y0,hy0⟩:∃y0,y0=w.alloc (.cells #[.slice a0 l0.length p0,.slice a1 l1.length p1,.slice a2 l2.length p2,.slice a3 l3.length p3,.slice a4 l4.length p4,.slice a5 l5.length p5,.slice a6 l6.length p6,.slice a7 l7.length p7] 31):=⟨_,rfl⟩;have hB0:Below w.heap.size w y0:=by rw[hy0];exact(Below.refl _ _).alloc (Nat.le_refl _) _
 have hb0:Blk y0 w.heap.size 31 #[.slice a0 l0.length p0,.slice a1 l1.length p1,.slice a2 l2.length p2,.slice a3 l3.length p3,.slice a4 l4.length p4,.slice a5 l5.length p5,.slice a6 l6.length p6,.slice a7 l7.length p7]:=by rw[hy0];exact Blk.new w _ _
 have hlt0:w.heap.size<y0.heap.size:=hb0.lt;have HB0:=lz hB0;have Hb0:=lz hb0;have Hy0:=lz hy0;have k0:=hy0▸hb0.cell 0;have k1:=hy0▸hb0.cell 1;have k2:=hy0▸hb0.cell 2;have k3:=hy0▸hb0.cell 3;have k4:=hy0▸hb0.cell 4;have k5:=hy0▸hb0.cell 5;have k6:=hy0▸hb0.cell 6;have k7:=hy0▸hb0.cell 7;clear hr hy0 hB0 hb0;go_enter Tryz.func5,Tryz.ntmps5;go_wp2_with fail;rw[←Hy0.out];clear k0 k1 k2 k3 k4 k5 k6 k7;go_loopw [3,4,5] (fun a b i wr=>∃(n ch:Int) (k:Nat),k≤l0.length∧a= .int .i64 n∧b= .int .i64 ch∧i= .int .i64 k∧Hid (Below y0.heap.size y0 wr)) (fun _ _ i _=>l0.length-(intOf i).toNat)
 case atStart=>exact⟨_,_,0,Nat.zero_le _,rfl,rfl,rfl,lz (Below.refl _ _)⟩
 case round=>
  obtain⟨nA,chA,kA,hkA,rfl,rfl,rfl,HWA⟩:=hrel;generalize wr=wA at *;have cA:=(Hb0.out.below HWA.out hlt0).cell 0;by_cases hltA:kA<l0.length
  ·skip
   have hBwA:Below w.heap.size w wA:=HB0.out.trans (HWA.out.mono HB0.out.size);obtain⟨bA,oA,rfl,hbA,hcA⟩:=(Hr0.out.below hBwA) (by omega);obtain⟨d0,d1,d2,d3,hmr⟩:=hcA kA hltA;clear hcA hBwA;generalize l0[kA]=xA at *;obtain⟨y1,hy1⟩:∃y1,y1=wA.alloc (.cells #[.string xA.nm,.int .i64 xA.mem,.int .i64 xA.fr,.slice xA.parts.a xA.parts.l.length xA.parts.c] 70):=⟨_,rfl⟩;have hB1:Below wA.heap.size wA y1:=by rw[hy1];exact(Below.refl _ _).alloc (Nat.le_refl _) _
   have hbm:Blk y1 wA.heap.size 70 #[.string xA.nm,.int .i64 xA.mem,.int .i64 xA.fr,.slice xA.parts.a xA.parts.l.length xA.parts.c]:=by rw[hy1];exact Blk.new wA _ _
   have Hmr:=lz (hmr.below hB1);have hlp:xA.parts.l.length≤9223372036854775807:=Nat.le_trans hmr.parts1 (Nat.le_trans hmr.parts2 (by decide));have hltm:wA.heap.size<y1.heap.size:=hbm.lt;have m0:=hy1▸hbm.cell 0;have m3:=hy1▸hbm.cell 3;have Hy1:=lz hy1;have Hbm:=lz hbm;have HB1:=lz (HWA.out.trans (hB1.mono HWA.out.size));clear hmr hbm hy1 hB1;go_wp2_with fail;rw[←Hy1.out];clear m0 m3 d0 d1 d2 d3 cA;go_loopw [3,4,7] (fun a b i wr=>∃(n ch:Int) (k:Nat),k≤xA.parts.l.length∧a= .int .i64 n∧b= .int .i64 ch∧i= .int .i64 k∧Hid (Below y1.heap.size y1 wr)) (fun _ _ i _=>xA.parts.l.length-(intOf i).toNat)
   case atStart=>exact⟨_,_,0,Nat.zero_le _,rfl,rfl,rfl,lz (Below.refl _ _)⟩
   case round=>
    obtain⟨nB,chB,kB,hkB,rfl,rfl,rfl,HWB⟩:=hrel;generalize wr=wB at *;have m3:=(Hbm.out.below HWB.out hltm).cell 3;by_cases hltB:kB<xA.parts.l.length
    ·obtain⟨bB,oB,eB,hbB,hcB⟩:=(Hmr.out.below HWB.out).parts (by omega)
     obtain⟨e0,e1,e2,e3,e4,e5,e6,e7,e8,e9,hpr⟩:=hcB kB hltB;clear hcB;rw[eB]at m3;generalize xA.parts.l[kB]=xB at *;obtain⟨y2,hy2⟩:∃y2,y2=wB.alloc (.cells #[.string xB.nm,.int .i64 xB.pe,.int .i64 xB.le,.int .i64 xB.mem,.slice xB.semas.a xB.semas.l.length xB.semas.c,.int .i64 xB.ev,.int .i64 xB.bo,.slice xB.bufs.a xB.bufs.l.length xB.bufs.c,.slice xB.ports.a xB.ports.l.length xB.ports.c,.slice xB.procs.a xB.procs.l.length xB.procs.c] 75):=⟨_,rfl⟩;have hB2:Below wB.heap.size wB y2:=by rw[hy2];exact(Below.refl _ _).alloc (Nat.le_refl _) _
     have hbp:Blk y2 wB.heap.size 75 #[.string xB.nm,.int .i64 xB.pe,.int .i64 xB.le,.int .i64 xB.mem,.slice xB.semas.a xB.semas.l.length xB.semas.c,.int .i64 xB.ev,.int .i64 xB.bo,.slice xB.bufs.a xB.bufs.l.length xB.bufs.c,.slice xB.ports.a xB.ports.l.length xB.ports.c,.slice xB.procs.a xB.procs.l.length xB.procs.c]:=by rw[hy2];exact Blk.new wB _ _
     have Hpr:=lz (hpr.below hB2);have hlq:xB.ports.l.length≤9223372036854775807:=Nat.le_trans hpr.ports1 (Nat.le_trans hpr.ports2 (by decide));have hlr:xB.procs.l.length≤9223372036854775807:=Nat.le_trans hpr.procs1 (Nat.le_trans hpr.procs2 (by decide));have hltp:wB.heap.size<y2.heap.size:=hbp.lt;have q0:=hy2▸hbp.cell 0;have q4:=hy2▸hbp.cell 4;have q7:=hy2▸hbp.cell 7;have q8:=hy2▸hbp.cell 8;have q9:=hy2▸hbp.cell 9;have Hy2:=lz hy2;have Hbp:=lz hbp;have HB2:=lz (HWB.out.trans (hB2.mono HWB.out.size));clear hpr hbp hy2 hB2;go_wp2_with fail;rw[←Hy2.out];clear q0 q4 q7 q8 q9 e0 e1 e2 e3 e4 e5 e6 e7 e8 e9 m3;go_loopw [4,9] (fun b i wr=>∃(ch:Int) (k:Nat),k≤xB.ports.l.length∧b= .int .i64 ch∧i= .int .i64 k∧Hid (Below y2.heap.size y2 wr)) (fun _ i _=>xB.ports.l.length-(intOf i).toNat)
     case atStart=>exact⟨_,0,Nat.zero_le _,rfl,rfl,lz (Below.refl _ _)⟩
     case round=>
      obtain⟨chC,kC,hkC,rfl,rfl,HWC⟩:=hrel;generalize wr=wC at *;have q8:=(Hbp.out.below HWC.out hltp).cell 8;by_cases hltC:kC<xB.ports.l.length
      ·obtain⟨bC,oC,eC,hbC,hcC⟩:=(Hpr.out.below HWC.out).ports (by omega)
       obtain⟨f0,f1,f2,f3,f4,f5,_⟩:=hcC kC hltC;clear hcC;rw[eC]at q8;generalize xB.ports.l[kC]=xC at *;go_wp2_with fail;go_roundw
       case rel=>exact⟨_,kC+1,by omega,rfl,by go_num,HWC⟩
       case measure=>simp[intOf];omega
      ·go_wp2_with fail
       clear q8;go_loopw [3,4,10] (fun a b i wr=>∃(n ch:Int) (k:Nat),k≤xB.procs.l.length∧a= .int .i64 n∧b= .int .i64 ch∧i= .int .i64 k∧Hid (Below y2.heap.size y2 wr)) (fun _ _ i _=>xB.procs.l.length-(intOf i).toNat)
       case atStart=>exact⟨_,_,0,Nat.zero_le _,rfl,rfl,rfl,HWC⟩
       case round=>
        obtain⟨nD,chD,kD,hkD,rfl,rfl,rfl,HWD⟩:=hrel;generalize wr=wD at *;have q9:=(Hbp.out.below HWD.out hltp).cell 9;by_cases hltD:kD<xB.procs.l.length
        ·obtain⟨bD,oD,eD,hbD,hcD⟩:=(Hpr.out.below HWD.out).procs (by omega)
         obtain⟨f0,f1,f2,f3,f4,_⟩:=hcD kD hltD;clear hcD;rw[eD]at q9;generalize xB.procs.l[kD]=xD at *;go_wp2_with fail;go_roundw
         case rel=>exact⟨_,_,kD+1,by omega,rfl,rfl,by go_num,HWD⟩
         case measure=>simp[intOf];omega
        ·go_wp2_with fail
         go_roundw
         case rel=>exact⟨_,_,kB+1,by omega,rfl,rfl,by go_num,lz (HB2.out.trans (HWD.out.mono HB2.out.size))⟩
         case measure=>simp[intOf];omega
    ·go_wp2_with fail
     go_roundw
     case rel=>exact⟨_,_,kA+1,by omega,rfl,rfl,by go_num,lz (HB1.out.trans (HWB.out.mono HB1.out.size))⟩
     case measure=>simp[intOf];omega
  ·go_wp2_with fail
   clear cA;go_loopw [3,4,11] (fun a b i wr=>∃(n ch:Int) (k:Nat),k≤l1.length∧a= .int .i64 n∧b= .int .i64 ch∧i= .int .i64 k∧Hid (Below y0.heap.size y0 wr)) (fun _ _ i _=>l1.length-(intOf i).toNat)
   case atStart=>exact⟨_,_,0,Nat.zero_le _,rfl,rfl,rfl,HWA⟩
   case round=>
    obtain⟨nE,chE,kE,hkE,rfl,rfl,rfl,HWE⟩:=hrel;generalize wr=wE at *;have cE:=(Hb0.out.below HWE.out hlt0).cell 1;by_cases hltE:kE<l1.length
    ·skip
     have hBwE:Below w.heap.size w wE:=HB0.out.trans (HWE.out.mono HB0.out.size);obtain⟨bE,oE,rfl,hbE,hcE⟩:=(Hr1.out.below hBwE) (by omega);obtain⟨d0,d1,d2,d3,hxr⟩:=hcE kE hltE;clear hcE hBwE;generalize l1[kE]=xE at *;have hld:xE.dst.l.length≤9223372036854775807:=Nat.le_trans hxr.dst1 (Nat.le_trans hxr.dst2 (by decide));have hcall:∀z:Ext wE,CU 20 #[.agg #[.string xE.src.m,.string xE.src.p,.string xE.src.o],.slice xE.dst.a xE.dst.l.length xE.dst.c] z.w (.int .i64 (lettersV xE.src xE.dst.l)):=fun z=>letters_c xE.src xE.dst.l xE.dst.a xE.dst.c z.w (hxr.dst.below z.h) hld
     have Hcall:=lz hcall;clear hcall;have Hxr:=lz hxr;clear hxr;have hlw:w.heap.size<wE.heap.size:=Nat.lt_of_lt_of_le hlt0 HWE.out.size;have hec:=ext_cell wE;go_wp2_with fail;refine wp_region_ext kz kz ?_;repeat (go_big_quiet_step ((go_at_call 20;with_reducible exact ext_call (Hcall.out _))))
     refine wpQuiet_nil ?_;intro _ hw';obtain⟨xx,hw''⟩:=hw';subst hw'';have HXvE:=lz xx.h;have HvE:=lz (HWE.out.trans (xx.h.mono HWE.out.size));clear hec hlw Hcall d0 d1 d2 d3 cE;generalize xx.w=vE at *;go_wp2_with fail;go_roundw
     case rel=>exact⟨_,_,kE+1,by omega,rfl,rfl,by go_num,HvE⟩
     case measure=>simp[intOf];omega
    ·go_wp2_with fail
     clear cE;go_loopw [3,4,12] (fun a b i wr=>∃(n ch:Int) (k:Nat),k≤l4.length∧a= .int .i64 n∧b= .int .i64 ch∧i= .int .i64 k∧Hid (Below y0.heap.size y0 wr)) (fun _ _ i _=>l4.length-(intOf i).toNat)
     case atStart=>exact⟨_,_,0,Nat.zero_le _,rfl,rfl,rfl,HWE⟩
     case round=>
      obtain⟨nF,chF,kF,hkF,rfl,rfl,rfl,HWF⟩:=hrel;generalize wr=wF at *;have cF:=(Hb0.out.below HWF.out hlt0).cell 4;by_cases hltF:kF<l4.length
      ·skip
       have hBwF:Below w.heap.size w wF:=HB0.out.trans (HWF.out.mono HB0.out.size);obtain⟨bF,oF,rfl,hbF,hcF⟩:=(Hr4.out.below hBwF) (by omega);obtain⟨d0,d1,d2,d3,d4,d5,d6,hxr⟩:=hcF kF hltF;clear hcF hBwF;generalize l4[kF]=xF at *;have hld:xF.dst.l.length≤9223372036854775807:=Nat.le_trans hxr.dst1 (Nat.le_trans hxr.dst2 (by decide));have hcall:∀z:Ext wF,CU 20 #[.agg #[.string xF.src.m,.string xF.src.p,.string xF.src.o],.slice xF.dst.a xF.dst.l.length xF.dst.c] z.w (.int .i64 (lettersV xF.src xF.dst.l)):=fun z=>letters_c xF.src xF.dst.l xF.dst.a xF.dst.c z.w (hxr.dst.below z.h) hld
       have Hcall:=lz hcall;clear hcall;have Hxr:=lz hxr;clear hxr;have hlw:w.heap.size<wF.heap.size:=Nat.lt_of_lt_of_le hlt0 HWF.out.size;have hec:=ext_cell wF;go_wp2_with fail;refine wp_region_ext kz kz ?_;repeat (go_big_quiet_step ((go_at_call 20;with_reducible exact ext_call (Hcall.out _))))
       refine wpQuiet_nil ?_;intro _ hw';obtain⟨xx,hw''⟩:=hw';subst hw'';have HXvF:=lz xx.h;have HvF:=lz (HWF.out.trans (xx.h.mono HWF.out.size));clear hec hlw Hcall d0 d1 d2 d3 d4 d5 d6 cF;generalize xx.w=vF at *;go_wp2_with fail;go_roundw
       case rel=>exact⟨_,_,kF+1,by omega,rfl,rfl,by go_num,HvF⟩
       case measure=>simp[intOf];omega
      ·go_wp2_with fail
       clear cF;go_loopw [3,4,13] (fun a b i wr=>∃(n ch:Int) (k:Nat),k≤l6.length∧a= .int .i64 n∧b= .int .i64 ch∧i= .int .i64 k∧Hid (Below y0.heap.size y0 wr)) (fun _ _ i _=>l6.length-(intOf i).toNat)
       case atStart=>exact⟨_,_,0,Nat.zero_le _,rfl,rfl,rfl,HWF⟩
       case round=>
        obtain⟨nG,chG,kG,hkG,rfl,rfl,rfl,HWG⟩:=hrel;generalize wr=wG at *;have cG:=(Hb0.out.below HWG.out hlt0).cell 6;by_cases hltG:kG<l6.length
        ·skip
         have hBwG:Below w.heap.size w wG:=HB0.out.trans (HWG.out.mono HB0.out.size);obtain⟨bG,oG,rfl,hbG,hcG⟩:=(Hr6.out.below hBwG) (by omega);obtain⟨d0,d1,d2,hxr⟩:=hcG kG hltG;clear hcG hBwG;generalize l6[kG]=xG at *;have hln:xG.n.n≤9223372036854775807:=Nat.le_trans hxr.nc (Nat.le_trans hxr.nm (by decide));have hlx:xG.x.n≤9223372036854775807:=Nat.le_trans hxr.xc (Nat.le_trans hxr.xm (by decide));have hnl:=hxr.nl;have hxl:=hxr.xl;have Hxr:=lz hxr;have hltb:bG<wG.heap.size:=World.block_lt_of_cell? wG _ d0;have Hd0:=lz d0;have Hd1:=lz d1;have Hd2:=lz d2;clear hxr;have hlw:w.heap.size<wG.heap.size:=Nat.lt_of_lt_of_le hlt0 HWG.out.size;have hec:=ext_cell wG;go_wp2_with fail;refine wp_region_ext kz kz ?_;repeat (go_big_quiet_step ((fail)))
         refine wpQuiet_nil ?_;intro _ hw';obtain⟨xx,hw''⟩:=hw';subst hw'';have HXvG:=lz xx.h;have HvG:=lz (HWG.out.trans (xx.h.mono HWG.out.size));clear hec hlw;generalize xx.w=vG at *;have hXG:Below wG.heap.size wG vG:=HXvG.out;have cG2:=(Hb0.out.below HvG.out hlt0).cell 6;have g0:vG.cell? ⟨bG,oG+kG*3,none⟩=some (.string xG.c.unit):=(bcell hXG bG _ hltb).trans d0;have g1:vG.cell? ⟨bG,oG+kG*3+1,none⟩=some xG.n.val:=(bcell hXG bG _ hltb).trans d1;have g2:vG.cell? ⟨bG,oG+kG*3+2,none⟩=some xG.x.val:=(bcell hXG bG _ hltb).trans d2;have HxrV:=lz (Hxr.out.below hXG);have HXG:=lz hXG;clear d0 d1 d2 hXG cG;go_wp2_with fail;clear g0;go_loopw [4,14] (fun b i wr=>∃(ch:Int) (k:Nat),k≤xG.n.n∧b= .int .i64 ch∧i= .int .i64 k∧Hid (Below vG.heap.size vG wr)) (fun _ i _=>xG.n.n-(intOf i).toNat)
         case atStart=>exact⟨_,0,Nat.zero_le _,rfl,rfl,lz (Below.refl _ _)⟩
         case round=>
          obtain⟨chH,kH,hkH,rfl,rfl,HWH⟩:=hrel;generalize wr=wH at *;have cH:=(Hb0.out.below (HvG.out.trans (HWH.out.mono HvG.out.size)) hlt0).cell 6;have hltv:bG<vG.heap.size:=Nat.lt_of_lt_of_le hltb HXG.out.size;have h1:wH.cell? ⟨bG,oG+kG*3+1,none⟩=some xG.n.val:=(bcell HWH.out bG _ hltv).trans g1;by_cases hltH:kH<xG.n.n
          ·obtain⟨bH,oH,eH,hbH,hcH⟩:=(HxrV.out.below HWH.out).n (by omega)
           obtain⟨f0,f1⟩:=hcH kH (by omega);clear hcH;rw[show xG.n.val= .slice xG.n.a xG.n.n xG.n.c from rfl,eH]at h1;generalize xG.c.needs[kH]'(by omega)=xH at *;go_wp2_with fail;go_roundw
           case rel=>exact⟨_,kH+1,by omega,rfl,by go_num,HWH⟩
           case measure=>simp[intOf];omega
          ·go_wp2_with fail
           clear h1 cH;go_loopw [4,15] (fun b i wr=>∃(ch:Int) (k:Nat),k≤xG.x.n∧b= .int .i64 ch∧i= .int .i64 k∧Hid (Below vG.heap.size vG wr)) (fun _ i _=>xG.x.n-(intOf i).toNat)
           case atStart=>exact⟨_,0,Nat.zero_le _,rfl,rfl,HWH⟩
           case round=>
            obtain⟨chI,kI,hkI,rfl,rfl,HWI⟩:=hrel;generalize wr=wI at *;have cI:=(Hb0.out.below (HvG.out.trans (HWI.out.mono HvG.out.size)) hlt0).cell 6;have h1:wI.cell? ⟨bG,oG+kG*3+2,none⟩=some xG.x.val:=(bcell HWI.out bG _ hltv).trans g2;by_cases hltI:kI<xG.x.n
            ·obtain⟨bI,oI,eI,hbI,hcI⟩:=(HxrV.out.below HWI.out).x (by omega)
             have f0:=hcI kI (by omega);clear hcI;rw[show xG.x.val= .slice xG.x.a xG.x.n xG.x.c from rfl,eI]at h1;generalize xG.c.excl[kI]'(by omega)=xI at *;go_wp2_with fail;go_roundw
             case rel=>exact⟨_,kI+1,by omega,rfl,by go_num,HWI⟩
             case measure=>simp[intOf];omega
            ·go_wp2_with fail
             go_roundw
             case rel=>exact⟨_,_,kG+1,by omega,rfl,rfl,by go_num,lz (HvG.out.trans (HWI.out.mono HvG.out.size))⟩
             case measure=>simp[intOf];omega
        ·go_wp2_with fail
         clear cG;go_loopw [4,16] (fun b i wr=>∃(ch:Int) (k:Nat),k≤l2.length∧b= .int .i64 ch∧i= .int .i64 k∧Hid (Below y0.heap.size y0 wr)) (fun _ i _=>l2.length-(intOf i).toNat)
         case atStart=>exact⟨_,0,Nat.zero_le _,rfl,rfl,HWG⟩
         case round=>
          obtain⟨chJ,kJ,hkJ,rfl,rfl,HWJ⟩:=hrel;generalize wr=wJ at *;have cJ:=(Hb0.out.below HWJ.out hlt0).cell 2;by_cases hltJ:kJ<l2.length
          ·skip
           have hBwJ:Below w.heap.size w wJ:=HB0.out.trans (HWJ.out.mono HB0.out.size);obtain⟨bJ,oJ,rfl,hbJ,hcJ⟩:=(Hr2.out.below hBwJ) (by omega);obtain⟨d0,d1,d2,d3⟩:=hcJ kJ hltJ;clear hcJ hBwJ;generalize l2[kJ]=xJ at *;go_wp2_with fail;go_roundw
           case rel=>exact⟨_,kJ+1,by omega,rfl,by go_num,HWJ⟩
           case measure=>simp[intOf];omega
          ·go_wp2_with fail
           clear cJ;go_loopw [4,17] (fun b i wr=>∃(ch:Int) (k:Nat),k≤l3.length∧b= .int .i64 ch∧i= .int .i64 k∧Hid (Below y0.heap.size y0 wr)) (fun _ i _=>l3.length-(intOf i).toNat)
           case atStart=>exact⟨_,0,Nat.zero_le _,rfl,rfl,HWJ⟩
           case round=>
            obtain⟨chK,kK,hkK,rfl,rfl,HWK⟩:=hrel;generalize wr=wK at *;have cK:=(Hb0.out.below HWK.out hlt0).cell 3;by_cases hltK:kK<l3.length
            ·skip
             have hBwK:Below w.heap.size w wK:=HB0.out.trans (HWK.out.mono HB0.out.size);obtain⟨bK,oK,rfl,hbK,hcK⟩:=(Hr3.out.below hBwK) (by omega);obtain⟨d0,d1,d2,d3⟩:=hcK kK hltK;clear hcK hBwK;generalize l3[kK]=xK at *;have hlw:w.heap.size<wK.heap.size:=Nat.lt_of_lt_of_le hlt0 HWK.out.size;have hec:=ext_cell wK;go_wp2_with fail;refine wp_region_ext kz kz ?_;repeat (go_big_quiet_step ((fail)))
             refine wpQuiet_nil ?_;intro _ hw';obtain⟨xx,hw''⟩:=hw';subst hw'';have HXvK:=lz xx.h;have HvK:=lz (HWK.out.trans (xx.h.mono HWK.out.size));clear hec hlw d0 d1 d2 d3 cK;generalize xx.w=vK at *;go_wp2_with fail;go_roundw
             case rel=>exact⟨_,kK+1,by omega,rfl,by go_num,HvK⟩
             case measure=>simp[intOf];omega
            ·go_wp2_with fail
             clear cK;go_loopw [4,18] (fun b i wr=>∃(ch:Int) (k:Nat),k≤l5.length∧b= .int .i64 ch∧i= .int .i64 k∧Hid (Below y0.heap.size y0 wr)) (fun _ i _=>l5.length-(intOf i).toNat)
             case atStart=>exact⟨_,0,Nat.zero_le _,rfl,rfl,HWK⟩
             case round=>
              obtain⟨chL,kL,hkL,rfl,rfl,HWL⟩:=hrel;generalize wr=wL at *;have cL:=(Hb0.out.below HWL.out hlt0).cell 5;by_cases hltL:kL<l5.length
              ·skip
               have hBwL:Below w.heap.size w wL:=HB0.out.trans (HWL.out.mono HB0.out.size);obtain⟨bL,oL,rfl,hbL,hcL⟩:=(Hr5.out.below hBwL) (by omega);obtain⟨d0,d1,d2,d3,d4,_⟩:=hcL kL hltL;clear hcL hBwL;generalize l5[kL]=xL at *;have hlw:w.heap.size<wL.heap.size:=Nat.lt_of_lt_of_le hlt0 HWL.out.size;have hec:=ext_cell wL;go_wp2_with fail;refine wp_region_ext kz kz ?_;repeat (go_big_quiet_step ((fail)))
               refine wpQuiet_nil ?_;intro _ hw';obtain⟨xx,hw''⟩:=hw';subst hw'';have HXvL:=lz xx.h;have HvL:=lz (HWL.out.trans (xx.h.mono HWL.out.size));clear hec hlw d0 d1 d2 d3 d4 cL;generalize xx.w=vL at *;go_wp2_with fail;go_roundw
               case rel=>exact⟨_,kL+1,by omega,rfl,by go_num,HvL⟩
               case measure=>simp[intOf];omega
              ·go_wp2_with fail
               clear cL;go_loopw [4,19] (fun b i wr=>∃(ch:Int) (k:Nat),k≤l7.length∧b= .int .i64 ch∧i= .int .i64 k∧Hid (Below y0.heap.size y0 wr)) (fun _ i _=>l7.length-(intOf i).toNat)
               case atStart=>exact⟨_,0,Nat.zero_le _,rfl,rfl,HWL⟩
               case round=>
                obtain⟨chM,kM,hkM,rfl,rfl,HWM⟩:=hrel;generalize wr=wM at *;have cM:=(Hb0.out.below HWM.out hlt0).cell 7;by_cases hltM:kM<l7.length
                ·skip
                 have hBwM:Below w.heap.size w wM:=HB0.out.trans (HWM.out.mono HB0.out.size);obtain⟨bM,oM,rfl,hbM,hcM⟩:=(Hr7.out.below hBwM) (by omega);obtain⟨d0,d1,d2,d3⟩:=hcM kM hltM;clear hcM hBwM;generalize l7[kM]=xM at *;have hlw:w.heap.size<wM.heap.size:=Nat.lt_of_lt_of_le hlt0 HWM.out.size;have hec:=ext_cell wM;go_wp2_with fail;refine wp_region_ext kz kz ?_;repeat (go_big_quiet_step ((fail)))
                 refine wpQuiet_nil ?_;intro _ hw';obtain⟨xx,hw''⟩:=hw';subst hw'';have HXvM:=lz xx.h;have HvM:=lz (HWM.out.trans (xx.h.mono HWM.out.size));clear hec hlw d0 d1 d2 d3 cM;generalize xx.w=vM at *;go_wp2_with fail;go_roundw
                 case rel=>exact⟨_,kM+1,by omega,rfl,by go_num,HvM⟩
                 case measure=>simp[intOf];omega
                ·go_wp2_with fail
                 clear cM;go_ret;exact⟨⟨_,rfl⟩,HB0.out.trans (HWM.out.mono HB0.out.size)⟩
end Go.Proofs.YtchfcgilpjkmhaaGreatDoor
