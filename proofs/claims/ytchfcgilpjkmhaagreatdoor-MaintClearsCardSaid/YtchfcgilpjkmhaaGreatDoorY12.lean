import Derived.Test.YtchfcgilpjkmhaaGreatDoorY11
import Derived.Test.YtchfcgilpjkmhaaGreatDoorY0
import Derived.Test.YtchfcgilpjkmhaaGreatDoorY1
set_option maxRecDepth 100000
set_option linter.unusedSimpArgs false
set_option linter.unusedVariables false
set_option linter.unusedSectionVars false
namespace Go.Proofs.YtchfcgilpjkmhaaGreatDoor
open Go.ChangeShapes Go.WideShapes Go.ChangeAt Go.RowKit
attribute [local go_sem] Oper.semAt_some
open Go.Act renaming put → zP
open List renaming setIfInBounds_toArray → zA, set_cons_zero → zB, set_cons_succ → zC
def nameP(b:Int):Bool:=letP b||(digP b||(amoP ⟨#[95]⟩ b||false))
def endN(s:ByteArray)(k:Nat):Nat:=runEnd nameP s s.size (k+1)
def wErr(t:ByteArray):Int:=if decide ((t.size:Int)>24)=true then 71 else 0
def nErr(t:ByteArray):Int:=if numB t=true then 0 else 72
def kOf(w:World)(B:Nat):Nat:=match w.cell? ⟨B,0,none⟩with | some (.int _ z)=>z.toNat | _=>0
theorem kOf_blk{w:World}{B:Nat}{t:TypeId}{j:Int}{v1 v2:Value}(h:Blk w B t #[.int .u8 j,v1,v2]):kOf w B=j.toNat:=by
 have:w.cell? ⟨B,0,none⟩=some (.int .u8 j):=h.cell 0;unfold kOf;rw[this]
theorem eE:∀args w,(callFunc 327 args).run Tryz.prog w= .ok (.enter 327 args) w:=enters_of Tryz.func327 kz rfl
theorem eB:∀args w,(callFunc 328 args).run Tryz.prog w= .ok (.enter 328 args) w:=enters_of Tryz.func328 kz rfl
theorem eA:∀args w,(callFunc 329 args).run Tryz.prog w= .ok (.enter 329 args) w:=enters_of Tryz.func329 kz rfl
set_option maxHeartbeats 4000000 in
theorem next_1(g k:Nat)(s:ByteArray)(l1 l2 l3:Array Value)(w:World)(hk:k<s.size)(hsz:s.size≤65536)
 (h:ScB w g s k .nilFunc (.func (.func 327) #[] l1) (.func (.func 328) #[] l2) (.func (.func 329) #[] l3))
 (T1:TestG g w 327 l1 letP) (T2:TestG g w 328 l2 digP) (T3:TestG g w 329 l3 sgnP) (hp1:letP (bAt s k)=true):
 Calls Tryz.prog 317 #[.pointer (some ⟨g,0,none⟩)] w fun e w'=>e= .returned (.tuple #[.agg #[.int .u8 1,.string (s.extract k (endN s k)),.int .i64 k],.int .i64 (wErr (s.extract k (endN s k)))])∧
  ScB w' g s (endN s k) .nilFunc (.func (.func 327) #[] l1) (.func (.func 328) #[] l2) (.func (.func 329) #[] l3)∧Gr (· =g) w w':=by
 obtain⟨w1,hw1⟩:∃w1,w1=(w.alloc (.cells #[.int .u8 0,.string ⟨#[]⟩,.int .i64 0] 275)).alloc (.cells #[.int .u8 1,.string ⟨#[]⟩,.int .i64 k] 275):=⟨_,rfl⟩;have hB1:Below w.heap.size w w1:=by rw[hw1];exact((Below.refl _ w).alloc (Nat.le_refl _) _).alloc (by simp) _
 have hr:Blk w1 w.heap.size 275 #[.int .u8 0,.string ⟨#[]⟩,.int .i64 0]:=by rw[hw1];exact(Blk.new w _ _).alloc _
 have ht4:Blk w1 (w.heap.size+1) 275 #[.int .u8 1,.string ⟨#[]⟩,.int .i64 k]:=by
  rw[hw1];exact blk_at' (w.alloc (.cells #[.int .u8 0,.string ⟨#[]⟩,.int .i64 0] 275)) (w.heap.size+1) 275 _ (by simp)
 have k1':(w.alloc (.cells #[.int .u8 0,.string ⟨#[]⟩,.int .i64 0] 275)).cell? ⟨g,1,none⟩=some (.int .i64 k):=(Blk.alloc h _).cell 1;have hgl:g<w.heap.size:=Blk.lt h;have Hw1:=lz hw1;have HB1:=lz hB1;have Hr1:=lz hr;have Ht1:=lz ht4;have Hh:=lz h;have HT1:=lz T1;have HT2:=lz T2;have HT3:=lz T3;have Hp1:=lz hp1;clear hw1 hB1 hr ht4 h T1 T2 T3 hp1;go_enter Tryz.func317,Tryz.ntmps317;go_wp2_with fail;rw[←Hw1.out];go_loopw [] (fun wr=>∃j:Int,(j=1∨j=2∨j=3)∧j≤1∧Blk wr (w.heap.size+1) 275 #[.int .u8 j,.string ⟨#[]⟩,.int .i64 k]∧Blk wr w.heap.size 275 #[.int .u8 0,.string ⟨#[]⟩,.int .i64 0]∧Below w.heap.size w wr) (fun wr=>4-kOf wr (w.heap.size+1))
 case atStart=>exact⟨1,.inl rfl,by decide,Ht1.out,Hr1.out,HB1.out⟩
 case round=>
  obtain⟨j,hj,hjK,ht4,hr,hB⟩:=hrel;have hkO:=kOf_blk ht4;have hS:=ScB.below Hh.out hB;rcases hj with rfl | rfl | rfl
  ·have j40:=ht4.cell 0
   have j3:wr.cell? ⟨g,3,none⟩=some (.func (.func 327) #[] l1):=Blk.cell hS 3;have hmore:∀n,Calls Tryz.prog 332 #[.pointer (some ⟨g,0,none⟩),.func (.func 327) #[] l1] (wr.drewN n) fun e w'=>e= .returned (.bool true)∧∃m,w'=(wr.drewN n).drewN m:=fun n=>by
    have hbn:=only_below (n:=n) hB;have ht:=(HT1.out.next (Gr.of_below hbn)).at_ (bAt s k);rw[Hp1.out]at ht;exact more_at 327 l1 (bAt s k) true (wr.drewN n) (ScB.below Hh.out hbn) hk rfl eE ht
   have Hmore:=lz hmore;have HS:=lz hS;have Ht4:=lz ht4;have Hr:=lz hr;have HB:=lz hB;clear hmore hS ht4 hr hB;go_wp2_with fail;go_quiet ((go_at_call 332;exact Calls.quiet_of (Hmore.out _)));have hby:Below wr.heap.size wr (wr.drewN nq):=only_below (Below.refl _ _);have hSy:=ScB.below HS.out hby
   have hry:=Hr.out.below hby Hr.out.lt;have hty:=Ht4.out.below hby Ht4.out.lt;have hBy:=HB.out.trans (hby.mono HB.out.size);clear hby j3 j40 Hmore k1' HS Hr Ht4 HB;generalize wr.drewN nq=y at *;have m0:=hty.cell 0;have mf:=hty.frozen 0;obtain⟨W7,hW7⟩:∃W7,W7=y.setCell ⟨g,1,none⟩ (.int .i64 ((k:Int)+1)):=⟨_,rfl⟩;have hG7:Gr (· =g) y W7:=by rw[hW7];exact Gr.setCell (X:=(· =g)) y ⟨g,1,none⟩ _ rfl
   have hS7:ScB W7 g s (k+1) .nilFunc (.func (.func 327) #[] l1) (.func (.func 328) #[] l2) (.func (.func 329) #[] l3):=by
    have:=hSy.step (k+1);rw[hW7];simpa using this
   have Hr7:=lz (hG7.blk hry (by omega));have ht7:=hG7.blk hty (by omega);have y1:y.cell? ⟨g,1,none⟩=some (.int .i64 k):=Blk.cell hSy 1;have yf:y.frozen? ⟨g,1,none⟩=false:=Blk.frozen hSy 1;have HG7:Hid (Gr (· =g) w W7):=lz ((Gr.of_below hBy).trans hG7);have m7:=ht7.cell 0;have hHeld:W7.drew.cell? ⟨g,3,none⟩=some (.func (.func 327) #[] l1)∧W7.drew.cell? ⟨g,4,none⟩=some (.func (.func 328) #[] l2):=⟨Blk.cell hS7 3,Blk.cell hS7 4⟩;have HS7:=lz hS7;have Ht7:=lz ht7;have HW7:=lz hW7;clear hSy hry hty hBy hG7 hS7 ht7 hW7;go_wp2_with fail;rw[←HW7.out];refine wp_region_S (fun W=>W.cell? ⟨g,3,none⟩=some (.func (.func 327) #[] l1)∧W.cell? ⟨g,4,none⟩=some (.func (.func 328) #[] l2)) 16 kz hHeld (fun hHeld=> ?_);refine TS 0 rfl hHeld ?_
   simp only[zP,zA,zB,zC];refine TS 1 rfl hHeld ?_
   simp only[zP,zA,zB,zC];refine TS 2 rfl hHeld ?_
   simp only[zP,zA,zB,zC];refine TS 3 rfl hHeld ?_
   simp only[zP,zA,zB,zC];refine TS 4 rfl hHeld ?_
   simp only[zP,zA,zB,zC];refine TS 5 rfl hHeld ?_
   simp only[zP,zA,zB,zC];refine TS 6 rfl hHeld ?_
   simp only[zP,zA,zB,zC];refine TS 7 rfl hHeld ?_
   simp only[zP,zA,zB,zC];refine TS 8 rfl hHeld ?_
   simp only[zP,zA,zB,zC];refine TS 9 rfl hHeld ?_
   simp only[zP,zA,zB,zC];refine TS 10 rfl hHeld ?_
   simp only[zP,zA,zB,zC];refine TS 11 rfl hHeld ?_
   simp only[zP,zA,zB,zC];refine TS 12 rfl hHeld ?_
   simp only[zP,zA,zB,zC];refine RQ 13 rfl fun K hK=> ?_;go_simp;refine(among_c _ _).mono ?_;rintro e w' ⟨rfl,rfl⟩;have hb8:Below W7.heap.size W7 (W7.drew.alloc (.cells #[.string ⟨#[95]⟩] 9)):=(Below.refl _ W7).drew.alloc (Nat.le_refl _) _;have hn8:Blk (W7.drew.alloc (.cells #[.string ⟨#[95]⟩] 9)) W7.heap.size 9 #[.string ⟨#[95]⟩]:=Blk.new W7.drew _ _;have hz8:(W7.drew.alloc (.cells #[.string ⟨#[95]⟩] 9)).heap.size=W7.heap.size+1:=by simp
   have HeldB:∀W,Below W7.heap.size W7 W→W.cell? ⟨g,3,none⟩=some (.func (.func 327) #[] l1)∧W.cell? ⟨g,4,none⟩=some (.func (.func 328) #[] l2):=fun W hW=>⟨Blk.cell (ScB.below HS7.out hW) 3,Blk.cell (ScB.below HS7.out hW) 4⟩
   have HHeldB:=lz HeldB;have H8:=lz hb8;have N8:=lz hn8;have Z8:=lz hz8;refine hK.out _ _ (fun _=>HHeldB.out _ H8.out) ?_;clear hK HeldB hb8 hHeld hn8 hz8;refine RQ 14 rfl fun K hK=> ?_;go_simp;have hb9:=H8.out.alloc H8.out.size (.cells #[.func (.func 327) #[] l1,.func (.func 328) #[] l2,.func (.func 329) #[] #[.pointer (some ⟨W7.drew.heap.size,0,none⟩)]] 262);have hn9:=blk_at' (W7.drew.alloc (.cells #[.string ⟨#[95]⟩] 9)) (W7.heap.size+1) 262 #[.func (.func 327) #[] l1,.func (.func 328) #[] l2,.func (.func 329) #[] #[.pointer (some ⟨W7.drew.heap.size,0,none⟩)]] Z8.out;have hn8:=N8.out.alloc (.cells #[.func (.func 327) #[] l1,.func (.func 328) #[] l2,.func (.func 329) #[] #[.pointer (some ⟨W7.drew.heap.size,0,none⟩)]] 262);have H9:=lz hb9;have N9:=lz hn9;have N89:=lz hn8;refine hK.out _ _ (fun _=>HHeldB.out _ H9.out) ?_;clear hK hb9 hn9 hn8;refine RQ 15 rfl fun K hK=> ?_;go_simp;refine(either_c _ _ _ _).mono ?_;rintro e w' ⟨rfl,hw'⟩;have hzz:((W7.drew.alloc (.cells #[.string ⟨#[95]⟩] 9)).alloc (.cells #[.func (.func 327) #[] l1,.func (.func 328) #[] l2,.func (.func 329) #[] #[.pointer (some ⟨W7.drew.heap.size,0,none⟩)]] 262)).heap.size=W7.heap.size+2:=by simp
   have hb10:Below W7.heap.size W7 w':=by rw[hw'];exact H9.out.alloc H9.out.size _
   have hn10:Blk w' (W7.heap.size+2) 344 #[.slice (some ⟨W7.heap.size+1,0,none⟩) 3 3]:=by
    rw[hw'];exact blk_at' _ _ _ _ hzz
   have hn9:Blk w' (W7.heap.size+1) 262 #[.func (.func 327) #[] l1,.func (.func 328) #[] l2,.func (.func 329) #[] #[.pointer (some ⟨W7.heap.size,0,none⟩)]]:=by rw[hw'];exact N9.out.alloc _
   have hn8:Blk w' W7.heap.size 9 #[.string ⟨#[95]⟩]:=by rw[hw'];exact N89.out.alloc _
   have H10:=lz hb10;have hg7:g<W7.heap.size:=Blk.lt HS7.out;have hGw':Gr (· =g) w w':=HG7.out.trans (Gr.of_below hb10);have hTn:TestG g w' 327 #[.pointer (some ⟨W7.heap.size+2,0,none⟩)] nameP:=by
    refine either_g [(327,l1,letP),(328,l2,digP),(329,#[.pointer (some ⟨W7.heap.size,0,none⟩)],amoP ⟨#[95]⟩)] hn10 (by omega) (by omega) hn9.lt (fun i hi=> ?_) (by simp);have hi2:i=0∨i=1∨i=2:=by simp at hi;omega
    rcases hi2 with rfl | rfl | rfl
    ·exact⟨hn9.cell 0,eE,HT1.out.next hGw'⟩
    ·exact⟨hn9.cell 1,eB,HT2.out.next hGw'⟩
    ·exact⟨hn9.cell 2,eA,among_g hn8 (by omega)⟩
   have hwh:=while_g nameP 327 #[.pointer (some ⟨W7.heap.size+2,0,none⟩)] (k+1) s.size w' (ScB.below HS7.out hb10) (by omega) (by omega) (by omega) eE hTn;have Hwh:=lz hwh;refine hK.out _ _ (fun _=>HHeldB.out _ H10.out) ?_;clear hK hb10 hw' hzz hn10 hn9 hn8 hGw' hTn hwh;refine RQ 16 rfl fun K hK=> ?_;go_simp;refine Hwh.out.mono ?_;rintro e W11 ⟨⟨v11,rfl⟩,hS11,hG11⟩;have H11:=lz ((Gr.of_below (X:=(· =g)) H10.out).trans hG11);have HS11:=lz hS11;refine hK.out _ _ (fun h=>absurd h (by decide)) ?_;clear hK hG11 hS11;refine wpAnyS_done kz ?_ _;have hS11:ScB W11 g s (endN s k) .nilFunc (.func (.func 327) #[] l1) (.func (.func 328) #[] l2) (.func (.func 329) #[] l3):=HS11.out;have hr11:=H11.out.blk Hr7.out (by omega);have ht11:=H11.out.blk Ht7.out (by omega);have hgr11:=HG7.out.trans H11.out;have hle:endN s k≤s.size:=runEnd_le nameP s s.size (k+1) (by omega);have hge:k+1≤endN s k:=runEnd_ge nameP s s.size (k+1);obtain⟨m,hm⟩:∃m,m=endN s k:=⟨_,rfl⟩;rw[←hm]at hS11 hle hge;have Hm:=lz hm;clear hm;have n0:W11.drew.cell? ⟨g,0,none⟩=some (.string s):=Blk.cell hS11 0;have n1:W11.drew.cell? ⟨g,1,none⟩=some (.int .i64 m):=Blk.cell hS11 1;have n2:=ht11.cell 2;have n3:=ht11.cell 1;have n4:=ht11.frozen 1;have hz1:(0:Int)≤(k:Int):=by omega
   have hz2:(k:Int)≤(m:Int):=by omega
   have hz3:(m:Int)≤(s.size:Int):=by omega
   have Ht11:=lz ht11;have Hr11:=lz hr11;have HS11':=lz hS11;have HGr11:=lz hgr11;clear hS11 hr11 ht11 hgr11 y1 yf m0 mf;go_wp2_with fail;go_region;try simp only[Int.toNat_natCast]
   obtain⟨tx,htx⟩:∃tx,tx=s.extract k m:=⟨_,rfl⟩;have htz:tx.size≤65536:=by rw[htx,ByteArray.size_extract];omega
   have Htx:=lz (show(s.extract k (endN s k))=tx by rw[htx,Hm.out]);rw[←htx];clear htx;obtain⟨W12,hW12⟩:∃W12,W12=(W11.setCell ⟨w.heap.size+1,1,none⟩ (.string tx)).drew:=⟨_,rfl⟩;have hG12:Gr (· =w.heap.size+1) W11 W12:=by rw[hW12];exact(Gr.setCell (X:=(· =w.heap.size+1)) W11 ⟨w.heap.size+1,1,none⟩ _ rfl).trans (Gr.of_below (Below.refl _ _).drew)
   have ht12:Blk W12 (w.heap.size+1) 275 #[.int .u8 1,.string tx,.int .i64 k]:=by rw[hW12];have:=Ht11.out.set_ 1 (.string tx);simpa using(this.drew)
   have hr12:=hG12.blk Hr11.out (by omega);have HS12:Hid (ScB W12 g s m .nilFunc (.func (.func 327) #[] l1) (.func (.func 328) #[] l2) (.func (.func 329) #[] l3)):=lz (hG12.blk HS11'.out (by omega));have HGw:Hid (Gr (· =g) w W12):=lz (HGr11.out.trans' hG12 (fun k hk e=>by omega));have t0:=ht12.cell 0;have t1:=ht12.cell 1;have t2:=ht12.cell 2;have r0:=hr12.cell 0;have r1:=hr12.cell 1;have r2:=hr12.cell 2;have fr0:=hr12.frozen 0;have fr1:=hr12.frozen 1;have fr2:=hr12.frozen 2;have HR12:=lz hr12;have HW12:=lz hW12;have HT12:=lz ht12;clear hG12 ht12 hr12 hW12 n0 n1 n2 n3 n4 hz1 hz2 hz3;rw[←HW12.out]
   cases h24:decide ((tx.size:Int)>24)with
   | true=>
    go_wp2_with fail;have hz:=((HR12.out.set_ 0 (.int .u8 1)).set_ 1 (.string tx)).set_ 2 (.int .i64 k);have hG14:Gr (· =w.heap.size) W12 (((W12.setCell ⟨w.heap.size,0,none⟩ (.int .u8 1)).setCell ⟨w.heap.size,1,none⟩ (.string tx)).setCell ⟨w.heap.size,2,none⟩ (.int .i64 k)):=
     ((Gr.setCell (X:=(· =w.heap.size)) W12 ⟨w.heap.size,0,none⟩ _ rfl).trans (Gr.setCell (X:=(· =w.heap.size)) _ ⟨w.heap.size,1,none⟩ _ rfl)).trans (Gr.setCell (X:=(· =w.heap.size)) _ ⟨w.heap.size,2,none⟩ _ rfl)
    have hS14:=hG14.blk HS12.out (by omega);have hGF:=HGw.out.trans' hG14 (fun k hk e=>by omega);clear HR12 HS12 HGw;generalize (((W12.setCell ⟨w.heap.size,0,none⟩ (.int .u8 1)).setCell ⟨w.heap.size,1,none⟩ (.string tx)).setCell ⟨w.heap.size,2,none⟩ (.int .i64 k))=W14 at *;have z0:=hz.cell 0;have z1:=hz.cell 1;have z2:=hz.cell 2;refine bodyPost_ret (v:= .tuple #[.agg #[.int .u8 1,.string tx,.int .i64 k],.int .i64 71]) (by simp[results,Tryz.results317,go_sem,z0,z1,z2]) rfl ⟨?_,?_,hGF⟩
    ·rw[Htx.out];unfold wErr;rw[h24];rfl
    ·rw[←Hm.out];exact hS14
   | false=>
    go_wp2_with fail;have hz:=((HR12.out.set_ 0 (.int .u8 1)).set_ 1 (.string tx)).set_ 2 (.int .i64 k);have hG14:Gr (· =w.heap.size) W12 (((W12.setCell ⟨w.heap.size,0,none⟩ (.int .u8 1)).setCell ⟨w.heap.size,1,none⟩ (.string tx)).setCell ⟨w.heap.size,2,none⟩ (.int .i64 k)):=
     ((Gr.setCell (X:=(· =w.heap.size)) W12 ⟨w.heap.size,0,none⟩ _ rfl).trans (Gr.setCell (X:=(· =w.heap.size)) _ ⟨w.heap.size,1,none⟩ _ rfl)).trans (Gr.setCell (X:=(· =w.heap.size)) _ ⟨w.heap.size,2,none⟩ _ rfl)
    have hS14:=hG14.blk HS12.out (by omega);have hGF:=HGw.out.trans' hG14 (fun k hk e=>by omega);clear HR12 HS12 HGw;generalize (((W12.setCell ⟨w.heap.size,0,none⟩ (.int .u8 1)).setCell ⟨w.heap.size,1,none⟩ (.string tx)).setCell ⟨w.heap.size,2,none⟩ (.int .i64 k))=W14 at *;have z0:=hz.cell 0;have z1:=hz.cell 1;have z2:=hz.cell 2;refine bodyPost_ret (v:= .tuple #[.agg #[.int .u8 1,.string tx,.int .i64 k],.int .i64 0]) (by simp[results,Tryz.results317,go_sem,z0,z1,z2]) rfl ⟨?_,?_,hGF⟩
    ·rw[Htx.out];unfold wErr;rw[h24];rfl
    ·rw[←Hm.out];exact hS14
  ·exact absurd hjK (by decide)
  ·exact absurd hjK (by decide)
set_option maxHeartbeats 4000000 in
theorem next_2(g k:Nat)(s:ByteArray)(l1 l2 l3:Array Value)(w:World)(hk:k<s.size)(hsz:s.size≤65536)
 (h:ScB w g s k .nilFunc (.func (.func 327) #[] l1) (.func (.func 328) #[] l2) (.func (.func 329) #[] l3))
 (T1:TestG g w 327 l1 letP) (T2:TestG g w 328 l2 digP) (T3:TestG g w 329 l3 sgnP)
 (hnum:∀W t,Gr (· =g) w W→t.size≤65536→CU 334 #[.string t] W (.bool (numB t))) (hp1:letP (bAt s k)=false) (hp2:digP (bAt s k)=true):
 Calls Tryz.prog 317 #[.pointer (some ⟨g,0,none⟩)] w fun e w'=>e= .returned (.tuple #[.agg #[.int .u8 2,.string (s.extract k (endN s k)),.int .i64 k],.int .i64 (nErr (s.extract k (endN s k)))])∧
  ScB w' g s (endN s k) .nilFunc (.func (.func 327) #[] l1) (.func (.func 328) #[] l2) (.func (.func 329) #[] l3)∧Gr (· =g) w w':=by
 obtain⟨w1,hw1⟩:∃w1,w1=(w.alloc (.cells #[.int .u8 0,.string ⟨#[]⟩,.int .i64 0] 275)).alloc (.cells #[.int .u8 1,.string ⟨#[]⟩,.int .i64 k] 275):=⟨_,rfl⟩;have hB1:Below w.heap.size w w1:=by rw[hw1];exact((Below.refl _ w).alloc (Nat.le_refl _) _).alloc (by simp) _
 have hr:Blk w1 w.heap.size 275 #[.int .u8 0,.string ⟨#[]⟩,.int .i64 0]:=by rw[hw1];exact(Blk.new w _ _).alloc _
 have ht4:Blk w1 (w.heap.size+1) 275 #[.int .u8 1,.string ⟨#[]⟩,.int .i64 k]:=by
  rw[hw1];exact blk_at' (w.alloc (.cells #[.int .u8 0,.string ⟨#[]⟩,.int .i64 0] 275)) (w.heap.size+1) 275 _ (by simp)
 have k1':(w.alloc (.cells #[.int .u8 0,.string ⟨#[]⟩,.int .i64 0] 275)).cell? ⟨g,1,none⟩=some (.int .i64 k):=(Blk.alloc h _).cell 1;have hgl:g<w.heap.size:=Blk.lt h;have Hw1:=lz hw1;have HB1:=lz hB1;have Hr1:=lz hr;have Ht1:=lz ht4;have Hh:=lz h;have HT1:=lz T1;have HT2:=lz T2;have HT3:=lz T3;have Hnum:=lz hnum;clear hnum;have Hp1:=lz hp1;have Hp2:=lz hp2;clear hw1 hB1 hr ht4 h T1 T2 T3 hp1 hp2;go_enter Tryz.func317,Tryz.ntmps317;go_wp2_with fail;rw[←Hw1.out];go_loopw [] (fun wr=>∃j:Int,(j=1∨j=2∨j=3)∧j≤2∧Blk wr (w.heap.size+1) 275 #[.int .u8 j,.string ⟨#[]⟩,.int .i64 k]∧Blk wr w.heap.size 275 #[.int .u8 0,.string ⟨#[]⟩,.int .i64 0]∧Below w.heap.size w wr) (fun wr=>4-kOf wr (w.heap.size+1))
 case atStart=>exact⟨1,.inl rfl,by decide,Ht1.out,Hr1.out,HB1.out⟩
 case round=>
  obtain⟨j,hj,hjK,ht4,hr,hB⟩:=hrel;have hkO:=kOf_blk ht4;have hS:=ScB.below Hh.out hB;rcases hj with rfl | rfl | rfl
  ·have j40:=ht4.cell 0
   have j3:wr.cell? ⟨g,3,none⟩=some (.func (.func 327) #[] l1):=Blk.cell hS 3;have hmore:∀n,Calls Tryz.prog 332 #[.pointer (some ⟨g,0,none⟩),.func (.func 327) #[] l1] (wr.drewN n) fun e w'=>e= .returned (.bool false)∧∃m,w'=(wr.drewN n).drewN m:=fun n=>by
    have hbn:=only_below (n:=n) hB;have ht:=(HT1.out.next (Gr.of_below hbn)).at_ (bAt s k);rw[Hp1.out]at ht;exact more_at 327 l1 (bAt s k) false (wr.drewN n) (ScB.below Hh.out hbn) hk rfl eE ht
   have Hmore:=lz hmore;have HS:=lz hS;have Ht4:=lz ht4;have Hr:=lz hr;have HB:=lz hB;clear hmore hS ht4 hr hB;go_wp2_with fail;go_quiet ((go_at_call 332;exact Calls.quiet_of (Hmore.out _)));have hby:Below wr.heap.size wr (wr.drewN nq):=only_below (Below.refl _ _);have hSy:=ScB.below HS.out hby
   have hry:=Hr.out.below hby Hr.out.lt;have hty:=Ht4.out.below hby Ht4.out.lt;have hBy:=HB.out.trans (hby.mono HB.out.size);clear hby j3 j40 Hmore k1' HS Hr Ht4 HB;generalize wr.drewN nq=y at *;have m0:=hty.cell 0;have mf:=hty.frozen 0;have hS2:=hty.set_ 0 (.int .u8 2);have hr2:=hry.far (p:=⟨w.heap.size+1,0,none⟩) (by show w.heap.size≠w.heap.size+1;omega) (.int .u8 2);have hB2:=hBy.setCell (p:=⟨w.heap.size+1,0,none⟩) (by show w.heap.size≤w.heap.size+1;omega) (.int .u8 2);have HR:=lz (And.intro hS2 (And.intro hr2 hB2));clear hS2 hr2 hB2 hSy hry hty hBy;go_wp2_with fail;go_roundw
   case rel=>exact⟨2,by decide,by decide,by simpa using HR.out.1,HR.out.2.1,HR.out.2.2⟩
   case measure=>
    have hk2:kOf (y.setCell ⟨w.heap.size+1,0,none⟩ (.int .u8 2)) (w.heap.size+1)=(2:Int).toNat:=kOf_blk (t:=275) (v1:= .string ⟨#[]⟩) (v2:= .int .i64 k) (by simpa using HR.out.1);rw[hkO];first | (rw[hk2];decide) | (simp[hk2]<;>omega)
  ·have j40:=ht4.cell 0
   have j3:wr.cell? ⟨g,4,none⟩=some (.func (.func 328) #[] l2):=Blk.cell hS 4;have hmore:∀n,Calls Tryz.prog 332 #[.pointer (some ⟨g,0,none⟩),.func (.func 328) #[] l2] (wr.drewN n) fun e w'=>e= .returned (.bool true)∧∃m,w'=(wr.drewN n).drewN m:=fun n=>by
    have hbn:=only_below (n:=n) hB;have ht:=(HT2.out.next (Gr.of_below hbn)).at_ (bAt s k);rw[Hp2.out]at ht;exact more_at 328 l2 (bAt s k) true (wr.drewN n) (ScB.below Hh.out hbn) hk rfl eB ht
   have Hmore:=lz hmore;have HS:=lz hS;have Ht4:=lz ht4;have Hr:=lz hr;have HB:=lz hB;clear hmore hS ht4 hr hB;go_wp2_with fail;go_quiet ((go_at_call 332;exact Calls.quiet_of (Hmore.out _)));have hby:Below wr.heap.size wr (wr.drewN nq):=only_below (Below.refl _ _);have hSy:=ScB.below HS.out hby
   have hry:=Hr.out.below hby Hr.out.lt;have hty:=Ht4.out.below hby Ht4.out.lt;have hBy:=HB.out.trans (hby.mono HB.out.size);clear hby j3 j40 Hmore k1' HS Hr Ht4 HB;generalize wr.drewN nq=y at *;have m0:=hty.cell 0;have mf:=hty.frozen 0;obtain⟨W7,hW7⟩:∃W7,W7=y.setCell ⟨g,1,none⟩ (.int .i64 ((k:Int)+1)):=⟨_,rfl⟩;have hG7:Gr (· =g) y W7:=by rw[hW7];exact Gr.setCell (X:=(· =g)) y ⟨g,1,none⟩ _ rfl
   have hS7:ScB W7 g s (k+1) .nilFunc (.func (.func 327) #[] l1) (.func (.func 328) #[] l2) (.func (.func 329) #[] l3):=by
    have:=hSy.step (k+1);rw[hW7];simpa using this
   have Hr7:=lz (hG7.blk hry (by omega));have ht7:=hG7.blk hty (by omega);have y1:y.cell? ⟨g,1,none⟩=some (.int .i64 k):=Blk.cell hSy 1;have yf:y.frozen? ⟨g,1,none⟩=false:=Blk.frozen hSy 1;have HG7:Hid (Gr (· =g) w W7):=lz ((Gr.of_below hBy).trans hG7);have m7:=ht7.cell 0;have hHeld:W7.drew.cell? ⟨g,3,none⟩=some (.func (.func 327) #[] l1)∧W7.drew.cell? ⟨g,4,none⟩=some (.func (.func 328) #[] l2):=⟨Blk.cell hS7 3,Blk.cell hS7 4⟩;have HS7:=lz hS7;have Ht7:=lz ht7;have HW7:=lz hW7;clear hSy hry hty hBy hG7 hS7 ht7 hW7;go_wp2_with fail;rw[←HW7.out];refine wp_region_S (fun W=>W.cell? ⟨g,3,none⟩=some (.func (.func 327) #[] l1)∧W.cell? ⟨g,4,none⟩=some (.func (.func 328) #[] l2)) 16 kz hHeld (fun hHeld=> ?_);refine TS 0 rfl hHeld ?_
   simp only[zP,zA,zB,zC];refine TS 1 rfl hHeld ?_
   simp only[zP,zA,zB,zC];refine TS 2 rfl hHeld ?_
   simp only[zP,zA,zB,zC];refine TS 3 rfl hHeld ?_
   simp only[zP,zA,zB,zC];refine TS 4 rfl hHeld ?_
   simp only[zP,zA,zB,zC];refine TS 5 rfl hHeld ?_
   simp only[zP,zA,zB,zC];refine TS 6 rfl hHeld ?_
   simp only[zP,zA,zB,zC];refine TS 7 rfl hHeld ?_
   simp only[zP,zA,zB,zC];refine TS 8 rfl hHeld ?_
   simp only[zP,zA,zB,zC];refine TS 9 rfl hHeld ?_
   simp only[zP,zA,zB,zC];refine TS 10 rfl hHeld ?_
   simp only[zP,zA,zB,zC];refine TS 11 rfl hHeld ?_
   simp only[zP,zA,zB,zC];refine TS 12 rfl hHeld ?_
   simp only[zP,zA,zB,zC];refine RQ 13 rfl fun K hK=> ?_;go_simp;refine(among_c _ _).mono ?_;rintro e w' ⟨rfl,rfl⟩;have hb8:Below W7.heap.size W7 (W7.drew.alloc (.cells #[.string ⟨#[95]⟩] 9)):=(Below.refl _ W7).drew.alloc (Nat.le_refl _) _;have hn8:Blk (W7.drew.alloc (.cells #[.string ⟨#[95]⟩] 9)) W7.heap.size 9 #[.string ⟨#[95]⟩]:=Blk.new W7.drew _ _;have hz8:(W7.drew.alloc (.cells #[.string ⟨#[95]⟩] 9)).heap.size=W7.heap.size+1:=by simp
   have HeldB:∀W,Below W7.heap.size W7 W→W.cell? ⟨g,3,none⟩=some (.func (.func 327) #[] l1)∧W.cell? ⟨g,4,none⟩=some (.func (.func 328) #[] l2):=fun W hW=>⟨Blk.cell (ScB.below HS7.out hW) 3,Blk.cell (ScB.below HS7.out hW) 4⟩
   have HHeldB:=lz HeldB;have H8:=lz hb8;have N8:=lz hn8;have Z8:=lz hz8;refine hK.out _ _ (fun _=>HHeldB.out _ H8.out) ?_;clear hK HeldB hb8 hHeld hn8 hz8;refine RQ 14 rfl fun K hK=> ?_;go_simp;have hb9:=H8.out.alloc H8.out.size (.cells #[.func (.func 327) #[] l1,.func (.func 328) #[] l2,.func (.func 329) #[] #[.pointer (some ⟨W7.drew.heap.size,0,none⟩)]] 262);have hn9:=blk_at' (W7.drew.alloc (.cells #[.string ⟨#[95]⟩] 9)) (W7.heap.size+1) 262 #[.func (.func 327) #[] l1,.func (.func 328) #[] l2,.func (.func 329) #[] #[.pointer (some ⟨W7.drew.heap.size,0,none⟩)]] Z8.out;have hn8:=N8.out.alloc (.cells #[.func (.func 327) #[] l1,.func (.func 328) #[] l2,.func (.func 329) #[] #[.pointer (some ⟨W7.drew.heap.size,0,none⟩)]] 262);have H9:=lz hb9;have N9:=lz hn9;have N89:=lz hn8;refine hK.out _ _ (fun _=>HHeldB.out _ H9.out) ?_;clear hK hb9 hn9 hn8;refine RQ 15 rfl fun K hK=> ?_;go_simp;refine(either_c _ _ _ _).mono ?_;rintro e w' ⟨rfl,hw'⟩;have hzz:((W7.drew.alloc (.cells #[.string ⟨#[95]⟩] 9)).alloc (.cells #[.func (.func 327) #[] l1,.func (.func 328) #[] l2,.func (.func 329) #[] #[.pointer (some ⟨W7.drew.heap.size,0,none⟩)]] 262)).heap.size=W7.heap.size+2:=by simp
   have hb10:Below W7.heap.size W7 w':=by rw[hw'];exact H9.out.alloc H9.out.size _
   have hn10:Blk w' (W7.heap.size+2) 344 #[.slice (some ⟨W7.heap.size+1,0,none⟩) 3 3]:=by
    rw[hw'];exact blk_at' _ _ _ _ hzz
   have hn9:Blk w' (W7.heap.size+1) 262 #[.func (.func 327) #[] l1,.func (.func 328) #[] l2,.func (.func 329) #[] #[.pointer (some ⟨W7.heap.size,0,none⟩)]]:=by rw[hw'];exact N9.out.alloc _
   have hn8:Blk w' W7.heap.size 9 #[.string ⟨#[95]⟩]:=by rw[hw'];exact N89.out.alloc _
   have H10:=lz hb10;have hg7:g<W7.heap.size:=Blk.lt HS7.out;have hGw':Gr (· =g) w w':=HG7.out.trans (Gr.of_below hb10);have hTn:TestG g w' 327 #[.pointer (some ⟨W7.heap.size+2,0,none⟩)] nameP:=by
    refine either_g [(327,l1,letP),(328,l2,digP),(329,#[.pointer (some ⟨W7.heap.size,0,none⟩)],amoP ⟨#[95]⟩)] hn10 (by omega) (by omega) hn9.lt (fun i hi=> ?_) (by simp);have hi2:i=0∨i=1∨i=2:=by simp at hi;omega
    rcases hi2 with rfl | rfl | rfl
    ·exact⟨hn9.cell 0,eE,HT1.out.next hGw'⟩
    ·exact⟨hn9.cell 1,eB,HT2.out.next hGw'⟩
    ·exact⟨hn9.cell 2,eA,among_g hn8 (by omega)⟩
   have hwh:=while_g nameP 327 #[.pointer (some ⟨W7.heap.size+2,0,none⟩)] (k+1) s.size w' (ScB.below HS7.out hb10) (by omega) (by omega) (by omega) eE hTn;have Hwh:=lz hwh;refine hK.out _ _ (fun _=>HHeldB.out _ H10.out) ?_;clear hK hb10 hw' hzz hn10 hn9 hn8 hGw' hTn hwh;refine RQ 16 rfl fun K hK=> ?_;go_simp;refine Hwh.out.mono ?_;rintro e W11 ⟨⟨v11,rfl⟩,hS11,hG11⟩;have H11:=lz ((Gr.of_below (X:=(· =g)) H10.out).trans hG11);have HS11:=lz hS11;refine hK.out _ _ (fun h=>absurd h (by decide)) ?_;clear hK hG11 hS11;refine wpAnyS_done kz ?_ _;have hS11:ScB W11 g s (endN s k) .nilFunc (.func (.func 327) #[] l1) (.func (.func 328) #[] l2) (.func (.func 329) #[] l3):=HS11.out;have hr11:=H11.out.blk Hr7.out (by omega);have ht11:=H11.out.blk Ht7.out (by omega);have hgr11:=HG7.out.trans H11.out;have hle:endN s k≤s.size:=runEnd_le nameP s s.size (k+1) (by omega);have hge:k+1≤endN s k:=runEnd_ge nameP s s.size (k+1);obtain⟨m,hm⟩:∃m,m=endN s k:=⟨_,rfl⟩;rw[←hm]at hS11 hle hge;have Hm:=lz hm;clear hm;have n0:W11.drew.cell? ⟨g,0,none⟩=some (.string s):=Blk.cell hS11 0;have n1:W11.drew.cell? ⟨g,1,none⟩=some (.int .i64 m):=Blk.cell hS11 1;have n2:=ht11.cell 2;have n3:=ht11.cell 1;have n4:=ht11.frozen 1;have hz1:(0:Int)≤(k:Int):=by omega
   have hz2:(k:Int)≤(m:Int):=by omega
   have hz3:(m:Int)≤(s.size:Int):=by omega
   have Ht11:=lz ht11;have Hr11:=lz hr11;have HS11':=lz hS11;have HGr11:=lz hgr11;clear hS11 hr11 ht11 hgr11 y1 yf m0 mf;go_wp2_with fail;go_region;try simp only[Int.toNat_natCast]
   obtain⟨tx,htx⟩:∃tx,tx=s.extract k m:=⟨_,rfl⟩;have htz:tx.size≤65536:=by rw[htx,ByteArray.size_extract];omega
   have Htx:=lz (show(s.extract k (endN s k))=tx by rw[htx,Hm.out]);rw[←htx];clear htx;obtain⟨W12,hW12⟩:∃W12,W12=(W11.setCell ⟨w.heap.size+1,1,none⟩ (.string tx)).drew:=⟨_,rfl⟩;have hG12:Gr (· =w.heap.size+1) W11 W12:=by rw[hW12];exact(Gr.setCell (X:=(· =w.heap.size+1)) W11 ⟨w.heap.size+1,1,none⟩ _ rfl).trans (Gr.of_below (Below.refl _ _).drew)
   have ht12:Blk W12 (w.heap.size+1) 275 #[.int .u8 2,.string tx,.int .i64 k]:=by rw[hW12];have:=Ht11.out.set_ 1 (.string tx);simpa using(this.drew)
   have hr12:=hG12.blk Hr11.out (by omega);have HS12:Hid (ScB W12 g s m .nilFunc (.func (.func 327) #[] l1) (.func (.func 328) #[] l2) (.func (.func 329) #[] l3)):=lz (hG12.blk HS11'.out (by omega));have HGw:Hid (Gr (· =g) w W12):=lz (HGr11.out.trans' hG12 (fun k hk e=>by omega));have t0:=ht12.cell 0;have t1:=ht12.cell 1;have t2:=ht12.cell 2;have r0:=hr12.cell 0;have r1:=hr12.cell 1;have r2:=hr12.cell 2;have fr0:=hr12.frozen 0;have fr1:=hr12.frozen 1;have fr2:=hr12.frozen 2;have HR12:=lz hr12;have HW12:=lz hW12;have HT12:=lz ht12;clear hG12 ht12 hr12 hW12 n0 n1 n2 n3 n4 hz1 hz2 hz3;rw[←HW12.out];have Hnm:=lz (Hnum.out W12 tx HGw.out htz);clear Hnum
   cases hnb:numB tx with
   | true=>
    rw[hnb]at Hnm;go_wp2_with fail;refine Hnm.out.mono ?_;rintro e W13 ⟨rfl,hb13⟩;have HR13:=lz (HR12.out.below hb13 HR12.out.lt);have HS13:=lz (ScB.below HS12.out hb13);have HG13:=lz (HGw.out.trans (Gr.of_below (X:=(· =g)) hb13));have hT13:=HT12.out.below hb13 HT12.out.lt;have t0:=hT13.cell 0;have t1:=hT13.cell 1;have t2:=hT13.cell 2;have r0:=HR13.out.cell 0;have r1:=HR13.out.cell 1;have r2:=HR13.out.cell 2;have fr0:=HR13.out.frozen 0;have fr1:=HR13.out.frozen 1;have fr2:=HR13.out.frozen 2;clear hb13 hT13;go_wp2_with fail;have hz:=((HR13.out.set_ 0 (.int .u8 2)).set_ 1 (.string tx)).set_ 2 (.int .i64 k);have hG14:Gr (· =w.heap.size) W13 (((W13.setCell ⟨w.heap.size,0,none⟩ (.int .u8 2)).setCell ⟨w.heap.size,1,none⟩ (.string tx)).setCell ⟨w.heap.size,2,none⟩ (.int .i64 k)):=
     ((Gr.setCell (X:=(· =w.heap.size)) W13 ⟨w.heap.size,0,none⟩ _ rfl).trans (Gr.setCell (X:=(· =w.heap.size)) _ ⟨w.heap.size,1,none⟩ _ rfl)).trans (Gr.setCell (X:=(· =w.heap.size)) _ ⟨w.heap.size,2,none⟩ _ rfl)
    have hS14:=hG14.blk HS13.out (by omega);have hGF:=HG13.out.trans' hG14 (fun k hk e=>by omega);clear HR13 HS13 HG13;generalize (((W13.setCell ⟨w.heap.size,0,none⟩ (.int .u8 2)).setCell ⟨w.heap.size,1,none⟩ (.string tx)).setCell ⟨w.heap.size,2,none⟩ (.int .i64 k))=W14 at *;have z0:=hz.cell 0;have z1:=hz.cell 1;have z2:=hz.cell 2;refine bodyPost_ret (v:= .tuple #[.agg #[.int .u8 2,.string tx,.int .i64 k],.int .i64 0]) (by simp[results,Tryz.results317,go_sem,z0,z1,z2]) rfl ⟨?_,?_,hGF⟩
    ·rw[Htx.out];unfold nErr;rw[hnb];rfl
    ·rw[←Hm.out];exact hS14
   | false=>
    rw[hnb]at Hnm;go_wp2_with fail;refine Hnm.out.mono ?_;rintro e W13 ⟨rfl,hb13⟩;have HR13:=lz (HR12.out.below hb13 HR12.out.lt);have HS13:=lz (ScB.below HS12.out hb13);have HG13:=lz (HGw.out.trans (Gr.of_below (X:=(· =g)) hb13));have hT13:=HT12.out.below hb13 HT12.out.lt;have t0:=hT13.cell 0;have t1:=hT13.cell 1;have t2:=hT13.cell 2;have r0:=HR13.out.cell 0;have r1:=HR13.out.cell 1;have r2:=HR13.out.cell 2;have fr0:=HR13.out.frozen 0;have fr1:=HR13.out.frozen 1;have fr2:=HR13.out.frozen 2;clear hb13 hT13;go_wp2_with fail;have hz:=((HR13.out.set_ 0 (.int .u8 2)).set_ 1 (.string tx)).set_ 2 (.int .i64 k);have hG14:Gr (· =w.heap.size) W13 (((W13.setCell ⟨w.heap.size,0,none⟩ (.int .u8 2)).setCell ⟨w.heap.size,1,none⟩ (.string tx)).setCell ⟨w.heap.size,2,none⟩ (.int .i64 k)):=
     ((Gr.setCell (X:=(· =w.heap.size)) W13 ⟨w.heap.size,0,none⟩ _ rfl).trans (Gr.setCell (X:=(· =w.heap.size)) _ ⟨w.heap.size,1,none⟩ _ rfl)).trans (Gr.setCell (X:=(· =w.heap.size)) _ ⟨w.heap.size,2,none⟩ _ rfl)
    have hS14:=hG14.blk HS13.out (by omega);have hGF:=HG13.out.trans' hG14 (fun k hk e=>by omega);clear HR13 HS13 HG13;generalize (((W13.setCell ⟨w.heap.size,0,none⟩ (.int .u8 2)).setCell ⟨w.heap.size,1,none⟩ (.string tx)).setCell ⟨w.heap.size,2,none⟩ (.int .i64 k))=W14 at *;have z0:=hz.cell 0;have z1:=hz.cell 1;have z2:=hz.cell 2;refine bodyPost_ret (v:= .tuple #[.agg #[.int .u8 2,.string tx,.int .i64 k],.int .i64 72]) (by simp[results,Tryz.results317,go_sem,z0,z1,z2]) rfl ⟨?_,?_,hGF⟩
    ·rw[Htx.out];unfold nErr;rw[hnb];rfl
    ·rw[←Hm.out];exact hS14
  ·exact absurd hjK (by decide)
set_option maxHeartbeats 4000000 in
theorem next_3(g k:Nat)(s:ByteArray)(l1 l2 l3:Array Value)(w:World)(hk:k<s.size)(hsz:s.size≤65536)
 (h:ScB w g s k .nilFunc (.func (.func 327) #[] l1) (.func (.func 328) #[] l2) (.func (.func 329) #[] l3))
 (T1:TestG g w 327 l1 letP) (T2:TestG g w 328 l2 digP) (T3:TestG g w 329 l3 sgnP) (hp1:letP (bAt s k)=false) (hp2:digP (bAt s k)=false) (hp3:sgnP (bAt s k)=true):
 Calls Tryz.prog 317 #[.pointer (some ⟨g,0,none⟩)] w fun e w'=>e= .returned (.tuple #[.agg #[.int .u8 3,.string (s.extract k (k+1)),.int .i64 k],.int .i64 0])∧
  ScB w' g s (k+1) .nilFunc (.func (.func 327) #[] l1) (.func (.func 328) #[] l2) (.func (.func 329) #[] l3)∧Gr (· =g) w w':=by
 obtain⟨w1,hw1⟩:∃w1,w1=(w.alloc (.cells #[.int .u8 0,.string ⟨#[]⟩,.int .i64 0] 275)).alloc (.cells #[.int .u8 1,.string ⟨#[]⟩,.int .i64 k] 275):=⟨_,rfl⟩;have hB1:Below w.heap.size w w1:=by rw[hw1];exact((Below.refl _ w).alloc (Nat.le_refl _) _).alloc (by simp) _
 have hr:Blk w1 w.heap.size 275 #[.int .u8 0,.string ⟨#[]⟩,.int .i64 0]:=by rw[hw1];exact(Blk.new w _ _).alloc _
 have ht4:Blk w1 (w.heap.size+1) 275 #[.int .u8 1,.string ⟨#[]⟩,.int .i64 k]:=by
  rw[hw1];exact blk_at' (w.alloc (.cells #[.int .u8 0,.string ⟨#[]⟩,.int .i64 0] 275)) (w.heap.size+1) 275 _ (by simp)
 have k1':(w.alloc (.cells #[.int .u8 0,.string ⟨#[]⟩,.int .i64 0] 275)).cell? ⟨g,1,none⟩=some (.int .i64 k):=(Blk.alloc h _).cell 1;have hgl:g<w.heap.size:=Blk.lt h;have Hw1:=lz hw1;have HB1:=lz hB1;have Hr1:=lz hr;have Ht1:=lz ht4;have Hh:=lz h;have HT1:=lz T1;have HT2:=lz T2;have HT3:=lz T3;have Hp1:=lz hp1;have Hp2:=lz hp2;have Hp3:=lz hp3;clear hw1 hB1 hr ht4 h T1 T2 T3 hp1 hp2 hp3;go_enter Tryz.func317,Tryz.ntmps317;go_wp2_with fail;rw[←Hw1.out];go_loopw [] (fun wr=>∃j:Int,(j=1∨j=2∨j=3)∧j≤3∧Blk wr (w.heap.size+1) 275 #[.int .u8 j,.string ⟨#[]⟩,.int .i64 k]∧Blk wr w.heap.size 275 #[.int .u8 0,.string ⟨#[]⟩,.int .i64 0]∧Below w.heap.size w wr) (fun wr=>4-kOf wr (w.heap.size+1))
 case atStart=>exact⟨1,.inl rfl,by decide,Ht1.out,Hr1.out,HB1.out⟩
 case round=>
  obtain⟨j,hj,hjK,ht4,hr,hB⟩:=hrel;have hkO:=kOf_blk ht4;have hS:=ScB.below Hh.out hB;rcases hj with rfl | rfl | rfl
  ·have j40:=ht4.cell 0
   have j3:wr.cell? ⟨g,3,none⟩=some (.func (.func 327) #[] l1):=Blk.cell hS 3;have hmore:∀n,Calls Tryz.prog 332 #[.pointer (some ⟨g,0,none⟩),.func (.func 327) #[] l1] (wr.drewN n) fun e w'=>e= .returned (.bool false)∧∃m,w'=(wr.drewN n).drewN m:=fun n=>by
    have hbn:=only_below (n:=n) hB;have ht:=(HT1.out.next (Gr.of_below hbn)).at_ (bAt s k);rw[Hp1.out]at ht;exact more_at 327 l1 (bAt s k) false (wr.drewN n) (ScB.below Hh.out hbn) hk rfl eE ht
   have Hmore:=lz hmore;have HS:=lz hS;have Ht4:=lz ht4;have Hr:=lz hr;have HB:=lz hB;clear hmore hS ht4 hr hB;go_wp2_with fail;go_quiet ((go_at_call 332;exact Calls.quiet_of (Hmore.out _)));have hby:Below wr.heap.size wr (wr.drewN nq):=only_below (Below.refl _ _);have hSy:=ScB.below HS.out hby
   have hry:=Hr.out.below hby Hr.out.lt;have hty:=Ht4.out.below hby Ht4.out.lt;have hBy:=HB.out.trans (hby.mono HB.out.size);clear hby j3 j40 Hmore k1' HS Hr Ht4 HB;generalize wr.drewN nq=y at *;have m0:=hty.cell 0;have mf:=hty.frozen 0;have hS2:=hty.set_ 0 (.int .u8 2);have hr2:=hry.far (p:=⟨w.heap.size+1,0,none⟩) (by show w.heap.size≠w.heap.size+1;omega) (.int .u8 2);have hB2:=hBy.setCell (p:=⟨w.heap.size+1,0,none⟩) (by show w.heap.size≤w.heap.size+1;omega) (.int .u8 2);have HR:=lz (And.intro hS2 (And.intro hr2 hB2));clear hS2 hr2 hB2 hSy hry hty hBy;go_wp2_with fail;go_roundw
   case rel=>exact⟨2,by decide,by decide,by simpa using HR.out.1,HR.out.2.1,HR.out.2.2⟩
   case measure=>
    have hk2:kOf (y.setCell ⟨w.heap.size+1,0,none⟩ (.int .u8 2)) (w.heap.size+1)=(2:Int).toNat:=kOf_blk (t:=275) (v1:= .string ⟨#[]⟩) (v2:= .int .i64 k) (by simpa using HR.out.1);rw[hkO];first | (rw[hk2];decide) | (simp[hk2]<;>omega)
  ·have j40:=ht4.cell 0
   have j3:wr.cell? ⟨g,4,none⟩=some (.func (.func 328) #[] l2):=Blk.cell hS 4;have hmore:∀n,Calls Tryz.prog 332 #[.pointer (some ⟨g,0,none⟩),.func (.func 328) #[] l2] (wr.drewN n) fun e w'=>e= .returned (.bool false)∧∃m,w'=(wr.drewN n).drewN m:=fun n=>by
    have hbn:=only_below (n:=n) hB;have ht:=(HT2.out.next (Gr.of_below hbn)).at_ (bAt s k);rw[Hp2.out]at ht;exact more_at 328 l2 (bAt s k) false (wr.drewN n) (ScB.below Hh.out hbn) hk rfl eB ht
   have Hmore:=lz hmore;have HS:=lz hS;have Ht4:=lz ht4;have Hr:=lz hr;have HB:=lz hB;clear hmore hS ht4 hr hB;go_wp2_with fail;go_quiet ((go_at_call 332;exact Calls.quiet_of (Hmore.out _)));have hby:Below wr.heap.size wr (wr.drewN nq):=only_below (Below.refl _ _);have hSy:=ScB.below HS.out hby
   have hry:=Hr.out.below hby Hr.out.lt;have hty:=Ht4.out.below hby Ht4.out.lt;have hBy:=HB.out.trans (hby.mono HB.out.size);clear hby j3 j40 Hmore k1' HS Hr Ht4 HB;generalize wr.drewN nq=y at *;have m0:=hty.cell 0;have mf:=hty.frozen 0;have hS2:=hty.set_ 0 (.int .u8 3);have hr2:=hry.far (p:=⟨w.heap.size+1,0,none⟩) (by show w.heap.size≠w.heap.size+1;omega) (.int .u8 3);have hB2:=hBy.setCell (p:=⟨w.heap.size+1,0,none⟩) (by show w.heap.size≤w.heap.size+1;omega) (.int .u8 3);have HR:=lz (And.intro hS2 (And.intro hr2 hB2));clear hS2 hr2 hB2 hSy hry hty hBy;go_wp2_with fail;go_roundw
   case rel=>exact⟨3,by decide,by decide,by simpa using HR.out.1,HR.out.2.1,HR.out.2.2⟩
   case measure=>
    have hk2:kOf (y.setCell ⟨w.heap.size+1,0,none⟩ (.int .u8 3)) (w.heap.size+1)=(3:Int).toNat:=kOf_blk (t:=275) (v1:= .string ⟨#[]⟩) (v2:= .int .i64 k) (by simpa using HR.out.1);rw[hkO];first | (rw[hk2];decide) | (simp[hk2]<;>omega)
  ·have j40:=ht4.cell 0
   have j3:wr.cell? ⟨g,5,none⟩=some (.func (.func 329) #[] l3):=Blk.cell hS 5;have hmore:∀n,Calls Tryz.prog 332 #[.pointer (some ⟨g,0,none⟩),.func (.func 329) #[] l3] (wr.drewN n) fun e w'=>e= .returned (.bool true)∧∃m,w'=(wr.drewN n).drewN m:=fun n=>by
    have hbn:=only_below (n:=n) hB;have ht:=(HT3.out.next (Gr.of_below hbn)).at_ (bAt s k);rw[Hp3.out]at ht;exact more_at 329 l3 (bAt s k) true (wr.drewN n) (ScB.below Hh.out hbn) hk rfl eA ht
   have Hmore:=lz hmore;have HS:=lz hS;have Ht4:=lz ht4;have Hr:=lz hr;have HB:=lz hB;clear hmore hS ht4 hr hB;go_wp2_with fail;go_quiet ((go_at_call 332;exact Calls.quiet_of (Hmore.out _)));have hby:Below wr.heap.size wr (wr.drewN nq):=only_below (Below.refl _ _);have hSy:=ScB.below HS.out hby
   have hry:=Hr.out.below hby Hr.out.lt;have hty:=Ht4.out.below hby Ht4.out.lt;have hBy:=HB.out.trans (hby.mono HB.out.size);clear hby j3 j40 Hmore k1' HS Hr Ht4 HB;generalize wr.drewN nq=y at *;have m0:=hty.cell 0;have mf:=hty.frozen 0;obtain⟨W7,hW7⟩:∃W7,W7=y.setCell ⟨g,1,none⟩ (.int .i64 ((k:Int)+1)):=⟨_,rfl⟩;have hG7:Gr (· =g) y W7:=by rw[hW7];exact Gr.setCell (X:=(· =g)) y ⟨g,1,none⟩ _ rfl
   have hS7:ScB W7 g s (k+1) .nilFunc (.func (.func 327) #[] l1) (.func (.func 328) #[] l2) (.func (.func 329) #[] l3):=by
    have:=hSy.step (k+1);rw[hW7];simpa using this
   have Hr7:=lz (hG7.blk hry (by omega));have ht7:=hG7.blk hty (by omega);have y1:y.cell? ⟨g,1,none⟩=some (.int .i64 k):=Blk.cell hSy 1;have yf:y.frozen? ⟨g,1,none⟩=false:=Blk.frozen hSy 1;have HG7:Hid (Gr (· =g) w W7):=lz ((Gr.of_below hBy).trans hG7);have m7:=ht7.cell 0;have HS7:=lz hS7;have Ht7:=lz ht7;have HW7:=lz hW7;clear hSy hry hty hBy hG7 hS7 ht7 hW7;go_wp2_with fail;rw[←HW7.out];obtain⟨W11,hW11⟩:∃W11,W11=W7:=⟨_,rfl⟩;have hS11:ScB W11 g s (k+1) .nilFunc (.func (.func 327) #[] l1) (.func (.func 328) #[] l2) (.func (.func 329) #[] l3):=by rw[hW11];exact HS7.out
   have hr11:Blk W11 w.heap.size 275 #[.int .u8 0,.string ⟨#[]⟩,.int .i64 0]:=by rw[hW11];exact Hr7.out
   have ht11:Blk W11 (w.heap.size+1) 275 #[.int .u8 3,.string ⟨#[]⟩,.int .i64 k]:=by rw[hW11];exact Ht7.out
   have hgr11:Gr (· =g) w W11:=by rw[hW11];exact HG7.out
   rw[←hW11];clear hW11;obtain⟨m,hm⟩:∃m,m=k+1:=⟨_,rfl⟩;have hle:m≤s.size:=by omega
   have hge:k+1≤m:=by omega
   rw[←hm]at hS11;have Hm:=lz hm;clear hm;have n0:W11.cell? ⟨g,0,none⟩=some (.string s):=Blk.cell hS11 0;have n1:W11.cell? ⟨g,1,none⟩=some (.int .i64 m):=Blk.cell hS11 1;have n2:=ht11.cell 2;have n3:=ht11.cell 1;have n4:=ht11.frozen 1;have hz1:(0:Int)≤(k:Int):=by omega
   have hz2:(k:Int)≤(m:Int):=by omega
   have hz3:(m:Int)≤(s.size:Int):=by omega
   have Ht11:=lz ht11;have Hr11:=lz hr11;have HS11':=lz hS11;have HGr11:=lz hgr11;clear hS11 hr11 ht11 hgr11 y1 yf m0 mf;go_wp2_with fail;go_region;try simp only[Int.toNat_natCast]
   obtain⟨tx,htx⟩:∃tx,tx=s.extract k m:=⟨_,rfl⟩;have htz:tx.size≤65536:=by rw[htx,ByteArray.size_extract];omega
   have Htx:=lz (show(s.extract k (k+1))=tx by rw[htx,Hm.out]);rw[←htx];clear htx;obtain⟨W12,hW12⟩:∃W12,W12=(W11.setCell ⟨w.heap.size+1,1,none⟩ (.string tx)).drew:=⟨_,rfl⟩;have hG12:Gr (· =w.heap.size+1) W11 W12:=by rw[hW12];exact(Gr.setCell (X:=(· =w.heap.size+1)) W11 ⟨w.heap.size+1,1,none⟩ _ rfl).trans (Gr.of_below (Below.refl _ _).drew)
   have ht12:Blk W12 (w.heap.size+1) 275 #[.int .u8 3,.string tx,.int .i64 k]:=by rw[hW12];have:=Ht11.out.set_ 1 (.string tx);simpa using(this.drew)
   have hr12:=hG12.blk Hr11.out (by omega);have HS12:Hid (ScB W12 g s m .nilFunc (.func (.func 327) #[] l1) (.func (.func 328) #[] l2) (.func (.func 329) #[] l3)):=lz (hG12.blk HS11'.out (by omega));have HGw:Hid (Gr (· =g) w W12):=lz (HGr11.out.trans' hG12 (fun k hk e=>by omega));have t0:=ht12.cell 0;have t1:=ht12.cell 1;have t2:=ht12.cell 2;have r0:=hr12.cell 0;have r1:=hr12.cell 1;have r2:=hr12.cell 2;have fr0:=hr12.frozen 0;have fr1:=hr12.frozen 1;have fr2:=hr12.frozen 2;have HR12:=lz hr12;have HW12:=lz hW12;have HT12:=lz ht12;clear hG12 ht12 hr12 hW12 n0 n1 n2 n3 n4 hz1 hz2 hz3;rw[←HW12.out];go_wp2_with fail;have hz:=((HR12.out.set_ 0 (.int .u8 3)).set_ 1 (.string tx)).set_ 2 (.int .i64 k);have hG14:Gr (· =w.heap.size) W12 (((W12.setCell ⟨w.heap.size,0,none⟩ (.int .u8 3)).setCell ⟨w.heap.size,1,none⟩ (.string tx)).setCell ⟨w.heap.size,2,none⟩ (.int .i64 k)):=
    ((Gr.setCell (X:=(· =w.heap.size)) W12 ⟨w.heap.size,0,none⟩ _ rfl).trans (Gr.setCell (X:=(· =w.heap.size)) _ ⟨w.heap.size,1,none⟩ _ rfl)).trans (Gr.setCell (X:=(· =w.heap.size)) _ ⟨w.heap.size,2,none⟩ _ rfl)
   have hS14:=hG14.blk HS12.out (by omega);have hGF:=HGw.out.trans' hG14 (fun k hk e=>by omega);clear HR12 HS12 HGw;generalize (((W12.setCell ⟨w.heap.size,0,none⟩ (.int .u8 3)).setCell ⟨w.heap.size,1,none⟩ (.string tx)).setCell ⟨w.heap.size,2,none⟩ (.int .i64 k))=W14 at *;have z0:=hz.cell 0;have z1:=hz.cell 1;have z2:=hz.cell 2;refine bodyPost_ret (v:= .tuple #[.agg #[.int .u8 3,.string tx,.int .i64 k],.int .i64 0]) (by simp[results,Tryz.results317,go_sem,z0,z1,z2]) rfl ⟨?_,?_,hGF⟩
   ·rw[Htx.out]
   ·rw[←Hm.out];exact hS14
set_option maxHeartbeats 4000000 in
theorem next_0(g k:Nat)(s:ByteArray)(l1 l2 l3:Array Value)(w:World)(hk:k<s.size)(hsz:s.size≤65536)
 (h:ScB w g s k .nilFunc (.func (.func 327) #[] l1) (.func (.func 328) #[] l2) (.func (.func 329) #[] l3))
 (T1:TestG g w 327 l1 letP) (T2:TestG g w 328 l2 digP) (T3:TestG g w 329 l3 sgnP) (hp1:letP (bAt s k)=false) (hp2:digP (bAt s k)=false) (hp3:sgnP (bAt s k)=false):
 Calls Tryz.prog 317 #[.pointer (some ⟨g,0,none⟩)] w fun e w'=>e= .returned (.tuple #[.agg #[.int .u8 3,.string ⟨#[]⟩,.int .i64 k],.int .i64 70])∧
  ScB w' g s k .nilFunc (.func (.func 327) #[] l1) (.func (.func 328) #[] l2) (.func (.func 329) #[] l3)∧Gr (· =g) w w':=by
 obtain⟨w1,hw1⟩:∃w1,w1=(w.alloc (.cells #[.int .u8 0,.string ⟨#[]⟩,.int .i64 0] 275)).alloc (.cells #[.int .u8 1,.string ⟨#[]⟩,.int .i64 k] 275):=⟨_,rfl⟩;have hB1:Below w.heap.size w w1:=by rw[hw1];exact((Below.refl _ w).alloc (Nat.le_refl _) _).alloc (by simp) _
 have hr:Blk w1 w.heap.size 275 #[.int .u8 0,.string ⟨#[]⟩,.int .i64 0]:=by rw[hw1];exact(Blk.new w _ _).alloc _
 have ht4:Blk w1 (w.heap.size+1) 275 #[.int .u8 1,.string ⟨#[]⟩,.int .i64 k]:=by
  rw[hw1];exact blk_at' (w.alloc (.cells #[.int .u8 0,.string ⟨#[]⟩,.int .i64 0] 275)) (w.heap.size+1) 275 _ (by simp)
 have k1':(w.alloc (.cells #[.int .u8 0,.string ⟨#[]⟩,.int .i64 0] 275)).cell? ⟨g,1,none⟩=some (.int .i64 k):=(Blk.alloc h _).cell 1;have hgl:g<w.heap.size:=Blk.lt h;have Hw1:=lz hw1;have HB1:=lz hB1;have Hr1:=lz hr;have Ht1:=lz ht4;have Hh:=lz h;have HT1:=lz T1;have HT2:=lz T2;have HT3:=lz T3;have Hp1:=lz hp1;have Hp2:=lz hp2;have Hp3:=lz hp3;clear hw1 hB1 hr ht4 h T1 T2 T3 hp1 hp2 hp3;go_enter Tryz.func317,Tryz.ntmps317;go_wp2_with fail;rw[←Hw1.out];go_loopw [] (fun wr=>∃j:Int,(j=1∨j=2∨j=3)∧j≤3∧Blk wr (w.heap.size+1) 275 #[.int .u8 j,.string ⟨#[]⟩,.int .i64 k]∧Blk wr w.heap.size 275 #[.int .u8 0,.string ⟨#[]⟩,.int .i64 0]∧Below w.heap.size w wr) (fun wr=>4-kOf wr (w.heap.size+1))
 case atStart=>exact⟨1,.inl rfl,by decide,Ht1.out,Hr1.out,HB1.out⟩
 case round=>
  obtain⟨j,hj,hjK,ht4,hr,hB⟩:=hrel;have hkO:=kOf_blk ht4;have hS:=ScB.below Hh.out hB;rcases hj with rfl | rfl | rfl
  ·have j40:=ht4.cell 0
   have j3:wr.cell? ⟨g,3,none⟩=some (.func (.func 327) #[] l1):=Blk.cell hS 3;have hmore:∀n,Calls Tryz.prog 332 #[.pointer (some ⟨g,0,none⟩),.func (.func 327) #[] l1] (wr.drewN n) fun e w'=>e= .returned (.bool false)∧∃m,w'=(wr.drewN n).drewN m:=fun n=>by
    have hbn:=only_below (n:=n) hB;have ht:=(HT1.out.next (Gr.of_below hbn)).at_ (bAt s k);rw[Hp1.out]at ht;exact more_at 327 l1 (bAt s k) false (wr.drewN n) (ScB.below Hh.out hbn) hk rfl eE ht
   have Hmore:=lz hmore;have HS:=lz hS;have Ht4:=lz ht4;have Hr:=lz hr;have HB:=lz hB;clear hmore hS ht4 hr hB;go_wp2_with fail;go_quiet ((go_at_call 332;exact Calls.quiet_of (Hmore.out _)));have hby:Below wr.heap.size wr (wr.drewN nq):=only_below (Below.refl _ _);have hSy:=ScB.below HS.out hby
   have hry:=Hr.out.below hby Hr.out.lt;have hty:=Ht4.out.below hby Ht4.out.lt;have hBy:=HB.out.trans (hby.mono HB.out.size);clear hby j3 j40 Hmore k1' HS Hr Ht4 HB;generalize wr.drewN nq=y at *;have m0:=hty.cell 0;have mf:=hty.frozen 0;have hS2:=hty.set_ 0 (.int .u8 2);have hr2:=hry.far (p:=⟨w.heap.size+1,0,none⟩) (by show w.heap.size≠w.heap.size+1;omega) (.int .u8 2);have hB2:=hBy.setCell (p:=⟨w.heap.size+1,0,none⟩) (by show w.heap.size≤w.heap.size+1;omega) (.int .u8 2);have HR:=lz (And.intro hS2 (And.intro hr2 hB2));clear hS2 hr2 hB2 hSy hry hty hBy;go_wp2_with fail;go_roundw
   case rel=>exact⟨2,by decide,by decide,by simpa using HR.out.1,HR.out.2.1,HR.out.2.2⟩
   case measure=>
    have hk2:kOf (y.setCell ⟨w.heap.size+1,0,none⟩ (.int .u8 2)) (w.heap.size+1)=(2:Int).toNat:=kOf_blk (t:=275) (v1:= .string ⟨#[]⟩) (v2:= .int .i64 k) (by simpa using HR.out.1);rw[hkO];first | (rw[hk2];decide) | (simp[hk2]<;>omega)
  ·have j40:=ht4.cell 0
   have j3:wr.cell? ⟨g,4,none⟩=some (.func (.func 328) #[] l2):=Blk.cell hS 4;have hmore:∀n,Calls Tryz.prog 332 #[.pointer (some ⟨g,0,none⟩),.func (.func 328) #[] l2] (wr.drewN n) fun e w'=>e= .returned (.bool false)∧∃m,w'=(wr.drewN n).drewN m:=fun n=>by
    have hbn:=only_below (n:=n) hB;have ht:=(HT2.out.next (Gr.of_below hbn)).at_ (bAt s k);rw[Hp2.out]at ht;exact more_at 328 l2 (bAt s k) false (wr.drewN n) (ScB.below Hh.out hbn) hk rfl eB ht
   have Hmore:=lz hmore;have HS:=lz hS;have Ht4:=lz ht4;have Hr:=lz hr;have HB:=lz hB;clear hmore hS ht4 hr hB;go_wp2_with fail;go_quiet ((go_at_call 332;exact Calls.quiet_of (Hmore.out _)));have hby:Below wr.heap.size wr (wr.drewN nq):=only_below (Below.refl _ _);have hSy:=ScB.below HS.out hby
   have hry:=Hr.out.below hby Hr.out.lt;have hty:=Ht4.out.below hby Ht4.out.lt;have hBy:=HB.out.trans (hby.mono HB.out.size);clear hby j3 j40 Hmore k1' HS Hr Ht4 HB;generalize wr.drewN nq=y at *;have m0:=hty.cell 0;have mf:=hty.frozen 0;have hS2:=hty.set_ 0 (.int .u8 3);have hr2:=hry.far (p:=⟨w.heap.size+1,0,none⟩) (by show w.heap.size≠w.heap.size+1;omega) (.int .u8 3);have hB2:=hBy.setCell (p:=⟨w.heap.size+1,0,none⟩) (by show w.heap.size≤w.heap.size+1;omega) (.int .u8 3);have HR:=lz (And.intro hS2 (And.intro hr2 hB2));clear hS2 hr2 hB2 hSy hry hty hBy;go_wp2_with fail;go_roundw
   case rel=>exact⟨3,by decide,by decide,by simpa using HR.out.1,HR.out.2.1,HR.out.2.2⟩
   case measure=>
    have hk2:kOf (y.setCell ⟨w.heap.size+1,0,none⟩ (.int .u8 3)) (w.heap.size+1)=(3:Int).toNat:=kOf_blk (t:=275) (v1:= .string ⟨#[]⟩) (v2:= .int .i64 k) (by simpa using HR.out.1);rw[hkO];first | (rw[hk2];decide) | (simp[hk2]<;>omega)
  ·have j40:=ht4.cell 0
   have j3:wr.cell? ⟨g,5,none⟩=some (.func (.func 329) #[] l3):=Blk.cell hS 5;have hmore:∀n,Calls Tryz.prog 332 #[.pointer (some ⟨g,0,none⟩),.func (.func 329) #[] l3] (wr.drewN n) fun e w'=>e= .returned (.bool false)∧∃m,w'=(wr.drewN n).drewN m:=fun n=>by
    have hbn:=only_below (n:=n) hB;have ht:=(HT3.out.next (Gr.of_below hbn)).at_ (bAt s k);rw[Hp3.out]at ht;exact more_at 329 l3 (bAt s k) false (wr.drewN n) (ScB.below Hh.out hbn) hk rfl eA ht
   have Hmore:=lz hmore;have HS:=lz hS;have Ht4:=lz ht4;have Hr:=lz hr;have HB:=lz hB;clear hmore hS ht4 hr hB;go_wp2_with fail;go_quiet ((go_at_call 332;exact Calls.quiet_of (Hmore.out _)));have hby:Below wr.heap.size wr (wr.drewN nq):=only_below (Below.refl _ _);have hSy:=ScB.below HS.out hby
   have hry:=Hr.out.below hby Hr.out.lt;have hty:=Ht4.out.below hby Ht4.out.lt;have hBy:=HB.out.trans (hby.mono HB.out.size);clear hby j3 j40 Hmore k1' HS Hr Ht4 HB;generalize wr.drewN nq=y at *;have m0:=hty.cell 0;have mf:=hty.frozen 0;have m1:=hty.cell 1;have m2:=hty.cell 2;have fr0:=hry.frozen 0;have fr1:=hry.frozen 1;have fr2:=hry.frozen 2;have r0:=hry.cell 0;have r1:=hry.cell 1;have r2:=hry.cell 2;have HR12:=lz hry;have HS12:=lz hSy;have HGw:=lz (Gr.of_below (X:=(· =g)) hBy);clear hSy hry hty hBy;obtain⟨W12,hW12⟩:∃W12,W12=y:=⟨_,rfl⟩;rw[←hW12]at m0 m1 m2 mf fr0 fr1 fr2 r0 r1 r2 HR12 HS12 HGw ⊢;clear hW12 y;go_wp2_with fail;have hz:=((HR12.out.set_ 0 (.int .u8 3)).set_ 1 (.string ⟨#[]⟩)).set_ 2 (.int .i64 k);have hG14:Gr (· =w.heap.size) W12 (((W12.setCell ⟨w.heap.size,0,none⟩ (.int .u8 3)).setCell ⟨w.heap.size,1,none⟩ (.string ⟨#[]⟩)).setCell ⟨w.heap.size,2,none⟩ (.int .i64 k)):=
    ((Gr.setCell (X:=(· =w.heap.size)) W12 ⟨w.heap.size,0,none⟩ _ rfl).trans (Gr.setCell (X:=(· =w.heap.size)) _ ⟨w.heap.size,1,none⟩ _ rfl)).trans (Gr.setCell (X:=(· =w.heap.size)) _ ⟨w.heap.size,2,none⟩ _ rfl)
   have hS14:=hG14.blk HS12.out (by omega);have hGF:=HGw.out.trans' hG14 (fun k hk e=>by omega);clear HR12 HS12 HGw;generalize (((W12.setCell ⟨w.heap.size,0,none⟩ (.int .u8 3)).setCell ⟨w.heap.size,1,none⟩ (.string ⟨#[]⟩)).setCell ⟨w.heap.size,2,none⟩ (.int .i64 k))=W14 at *;have z0:=hz.cell 0;have z1:=hz.cell 1;have z2:=hz.cell 2;exact bodyPost_ret (v:= .tuple #[.agg #[.int .u8 3,.string ⟨#[]⟩,.int .i64 k],.int .i64 70]) (by simp[results,Tryz.results317,go_sem,z0,z1,z2]) rfl ⟨rfl,hS14,hGF⟩
def nextR(s:ByteArray)(k:Nat):Int×ByteArray×Int×Nat:=
 if letP (bAt s k)=true then(1,s.extract k (endN s k),wErr (s.extract k (endN s k)),endN s k)
 else if digP (bAt s k)=true then(2,s.extract k (endN s k),nErr (s.extract k (endN s k)),endN s k)
 else if sgnP (bAt s k)=true then(3,s.extract k (k+1),0,k+1)
 else(3,⟨#[]⟩,70,k)
theorem next_g(g k:Nat)(s:ByteArray)(l1 l2 l3:Array Value)(w:World)(hk:k<s.size)(hsz:s.size≤65536)
 (h:ScB w g s k .nilFunc (.func (.func 327) #[] l1) (.func (.func 328) #[] l2) (.func (.func 329) #[] l3))
 (T1:TestG g w 327 l1 letP) (T2:TestG g w 328 l2 digP) (T3:TestG g w 329 l3 sgnP)
 (hnum:∀W t,Gr (· =g) w W→t.size≤65536→CU 334 #[.string t] W (.bool (numB t))):
 Calls Tryz.prog 317 #[.pointer (some ⟨g,0,none⟩)] w fun e w'=>e= .returned (.tuple #[.agg #[.int .u8 (nextR s k).1,.string (nextR s k).2.1,.int .i64 k],.int .i64 (nextR s k).2.2.1])∧
  ScB w' g s (nextR s k).2.2.2 .nilFunc (.func (.func 327) #[] l1) (.func (.func 328) #[] l2) (.func (.func 329) #[] l3)∧Gr (· =g) w w':=by
 unfold nextR
 cases h1:letP (bAt s k)with
 | true=>simpa using next_1 g k s l1 l2 l3 w hk hsz h T1 T2 T3 h1
 | false=>
  cases h2:digP (bAt s k)with
  | true=>simpa using next_2 g k s l1 l2 l3 w hk hsz h T1 T2 T3 hnum h1 h2
  | false=>
   cases h3:sgnP (bAt s k)with
   | true=>simpa using next_3 g k s l1 l2 l3 w hk hsz h T1 T2 T3 h1 h2 h3
   | false=>simpa using next_0 g k s l1 l2 l3 w hk hsz h T1 T2 T3 h1 h2 h3
end Go.Proofs.YtchfcgilpjkmhaaGreatDoor
