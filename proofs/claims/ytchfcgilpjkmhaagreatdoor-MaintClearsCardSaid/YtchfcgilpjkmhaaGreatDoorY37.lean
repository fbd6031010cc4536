import Derived.Test.YtchfcgilpjkmhaaGreatDoorY35
import Derived.Test.YtchfcgilpjkmhaaGreatDoorY36
import Derived.Test.YtchfcgilpjkmhaaGreatDoorY15
import Derived.Test.YtchfcgilpjkmhaaGreatDoorY0
set_option maxRecDepth 100000
set_option linter.unusedSimpArgs false
set_option linter.unusedVariables false
set_option linter.unusedSectionVars false
namespace Go.Proofs.YtchfcgilpjkmhaaGreatDoor
open Go.ChangeShapes Go.WideShapes Go.ChangeAt Go.RowKit
attribute [local go_sem] Oper.semAt_some
def ruleB(x:CfgV):Nat→Bool
 | 0=>validP x
 | 1=>limitsP x
 | 2=>namesP x
 | 3=>timesP x
 | 4=>codesP x
 | 5=>linksP x
 | 6=>portsP x
 | 7=>vlsP x
 | 8=>rowsP x
 | _=>causesB x
def chkV(x:CfgV):Int:=
 if ruleB x 0=false then 100 else if ruleB x 1=false then 101 else if ruleB x 2=false then 102 else if ruleB x 3=false then 103 else if ruleB x 4=false then 104
 else if ruleB x 5=false then 105 else if ruleB x 6=false then 106 else if ruleB x 7=false then 107 else if ruleB x 8=false then 108 else if ruleB x 9=false then 109 else 0
def UpTo(x:CfgV)(k:Nat):Prop:=∀j,j<k→ruleB x j=true
theorem UpTo.next{x:CfgV}{k:Nat}(h:UpTo x k)(hk:ruleB x k=true):UpTo x (k+1):=fun j hj=>by
 by_cases e:j=k
 ·subst e;exact hk
 ·exact h j (by omega)
theorem chkV_ok{x:CfgV}:chkV x=0↔UpTo x 10:=by
 unfold chkV;refine⟨fun h j hj=> ?_,fun h=> ?_⟩
 ·cases hq:ruleB x j with
  | true=>rfl
  | false=>
   have h10:j=0∨j=1∨j=2∨j=3∨j=4∨j=5∨j=6∨j=7∨j=8∨j=9:=by omega
   repeat' split at h
   all_goals first | (exact absurd h (by decide)) | (rcases h10 with rfl | rfl | rfl | rfl | rfl | rfl | rfl | rfl | rfl | rfl<;>contradiction)
 ·rw[if_neg (by rw[h 0 (by omega)];decide),if_neg (by rw[h 1 (by omega)];decide),if_neg (by rw[h 2 (by omega)];decide),if_neg (by rw[h 3 (by omega)];decide),if_neg (by rw[h 4 (by omega)];decide),if_neg (by rw[h 5 (by omega)];decide),if_neg (by rw[h 6 (by omega)];decide),if_neg (by rw[h 7 (by omega)];decide),if_neg (by rw[h 8 (by omega)];decide),if_neg (by rw[h 9 (by omega)];decide)]
theorem chkV_0{x:CfgV}(h:UpTo x 0)(hq:ruleB x 0=false):chkV x=100:=by
 unfold chkV;rw[if_pos hq]
theorem chkV_1{x:CfgV}(h:UpTo x 1)(hq:ruleB x 1=false):chkV x=101:=by
 unfold chkV;rw[if_neg (show¬ruleB x 0=false by rw[h 0 (by omega)];decide),if_pos hq]
theorem chkV_2{x:CfgV}(h:UpTo x 2)(hq:ruleB x 2=false):chkV x=102:=by
 unfold chkV;rw[if_neg (show¬ruleB x 0=false by rw[h 0 (by omega)];decide),if_neg (show¬ruleB x 1=false by rw[h 1 (by omega)];decide),if_pos hq]
theorem chkV_3{x:CfgV}(h:UpTo x 3)(hq:ruleB x 3=false):chkV x=103:=by
 unfold chkV;rw[if_neg (show¬ruleB x 0=false by rw[h 0 (by omega)];decide),if_neg (show¬ruleB x 1=false by rw[h 1 (by omega)];decide),if_neg (show¬ruleB x 2=false by rw[h 2 (by omega)];decide),if_pos hq]
theorem chkV_4{x:CfgV}(h:UpTo x 4)(hq:ruleB x 4=false):chkV x=104:=by
 unfold chkV;rw[if_neg (show¬ruleB x 0=false by rw[h 0 (by omega)];decide),if_neg (show¬ruleB x 1=false by rw[h 1 (by omega)];decide),if_neg (show¬ruleB x 2=false by rw[h 2 (by omega)];decide),if_neg (show¬ruleB x 3=false by rw[h 3 (by omega)];decide),if_pos hq]
theorem chkV_5{x:CfgV}(h:UpTo x 5)(hq:ruleB x 5=false):chkV x=105:=by
 unfold chkV;rw[if_neg (show¬ruleB x 0=false by rw[h 0 (by omega)];decide),if_neg (show¬ruleB x 1=false by rw[h 1 (by omega)];decide),if_neg (show¬ruleB x 2=false by rw[h 2 (by omega)];decide),if_neg (show¬ruleB x 3=false by rw[h 3 (by omega)];decide),if_neg (show¬ruleB x 4=false by rw[h 4 (by omega)];decide),if_pos hq]
theorem chkV_6{x:CfgV}(h:UpTo x 6)(hq:ruleB x 6=false):chkV x=106:=by
 unfold chkV;rw[if_neg (show¬ruleB x 0=false by rw[h 0 (by omega)];decide),if_neg (show¬ruleB x 1=false by rw[h 1 (by omega)];decide),if_neg (show¬ruleB x 2=false by rw[h 2 (by omega)];decide),if_neg (show¬ruleB x 3=false by rw[h 3 (by omega)];decide),if_neg (show¬ruleB x 4=false by rw[h 4 (by omega)];decide),if_neg (show¬ruleB x 5=false by rw[h 5 (by omega)];decide),if_pos hq]
theorem chkV_7{x:CfgV}(h:UpTo x 7)(hq:ruleB x 7=false):chkV x=107:=by
 unfold chkV;rw[if_neg (show¬ruleB x 0=false by rw[h 0 (by omega)];decide),if_neg (show¬ruleB x 1=false by rw[h 1 (by omega)];decide),if_neg (show¬ruleB x 2=false by rw[h 2 (by omega)];decide),if_neg (show¬ruleB x 3=false by rw[h 3 (by omega)];decide),if_neg (show¬ruleB x 4=false by rw[h 4 (by omega)];decide),if_neg (show¬ruleB x 5=false by rw[h 5 (by omega)];decide),if_neg (show¬ruleB x 6=false by rw[h 6 (by omega)];decide),if_pos hq]
theorem chkV_8{x:CfgV}(h:UpTo x 8)(hq:ruleB x 8=false):chkV x=108:=by
 unfold chkV;rw[if_neg (show¬ruleB x 0=false by rw[h 0 (by omega)];decide),if_neg (show¬ruleB x 1=false by rw[h 1 (by omega)];decide),if_neg (show¬ruleB x 2=false by rw[h 2 (by omega)];decide),if_neg (show¬ruleB x 3=false by rw[h 3 (by omega)];decide),if_neg (show¬ruleB x 4=false by rw[h 4 (by omega)];decide),if_neg (show¬ruleB x 5=false by rw[h 5 (by omega)];decide),if_neg (show¬ruleB x 6=false by rw[h 6 (by omega)];decide),if_neg (show¬ruleB x 7=false by rw[h 7 (by omega)];decide),if_pos hq]
theorem chkV_9{x:CfgV}(h:UpTo x 9)(hq:ruleB x 9=false):chkV x=109:=by
 unfold chkV;rw[if_neg (show¬ruleB x 0=false by rw[h 0 (by omega)];decide),if_neg (show¬ruleB x 1=false by rw[h 1 (by omega)];decide),if_neg (show¬ruleB x 2=false by rw[h 2 (by omega)];decide),if_neg (show¬ruleB x 3=false by rw[h 3 (by omega)];decide),if_neg (show¬ruleB x 4=false by rw[h 4 (by omega)];decide),if_neg (show¬ruleB x 5=false by rw[h 5 (by omega)];decide),if_neg (show¬ruleB x 6=false by rw[h 6 (by omega)];decide),if_neg (show¬ruleB x 7=false by rw[h 7 (by omega)];decide),if_neg (show¬ruleB x 8=false by rw[h 8 (by omega)];decide),if_pos hq]
theorem form_g(x:CfgV)(g:Nat)(w:World)(h:CkG w g x)(hr:x.rd w w.heap.size)(hL:LaidN w)(hx:∀r∈x.causes.l,r.x.n≤8796093021952):
 CU 23 #[.pointer (some ⟨g,0,none⟩)] w (.bool (validP x)):=by
 have hv:=valid_g x w hL hr hx;have k0:=h.cell 0;have k1:=h.cell 1;have k2:=h.cell 2;have k3:=h.cell 3;have k4:=h.cell 4;have k5:=h.cell 5;have k6:=h.cell 6;have k7:=h.cell 7;have Hv:=lz hv;obtain⟨q,hq⟩:∃q,q=validP x:=⟨_,rfl⟩;rw[←hq]at Hv;rw[←hq];clear hv h hr hx hL hq;go_enter Tryz.func23,Tryz.ntmps23;go_wp2_with fail;refine Hv.out.mono ?_;rintro e w1 ⟨rfl,hb1⟩;go_wp2_with fail;go_ret;exact⟨rfl,hb1⟩
structure CkIn(x:CfgV)(g:Nat)(w:World):Prop where
 ck:CkG w g x
 rd:x.rd w w.heap.size
 laid:LaidN w
theorem CkIn.below{x:CfgV}{g:Nat}{w w':World}(h:CkIn x g w)(hb:Below w.heap.size w w'):CkIn x g w':=⟨h.ck.below hb,h.rd.below hb,h.laid.below hb⟩
theorem rd_causes{x:CfgV}{w:World}{B:Nat}(h:x.rd w B):∀y∈x.causes.l,y.rd w B:=fun y hy=>by
 obtain⟨i,hi,rfl⟩:=List.getElem_of_mem hy;obtain⟨b,o,_,_,hc⟩:=h.causes (by omega);exact(hc i hi).2.2.2
def Rule(x:CfgV)(k f:Nat):Prop:=UpTo x k→∀(g:Nat) (w:World),CkIn x g w→CU f #[.pointer (some ⟨g,0,none⟩)] w (.bool (ruleB x k))
theorem rule0(x:CfgV)(hx:∀r∈x.causes.l,r.x.n≤8796093021952):Rule x 0 23:=fun h g w H=>form_g x g w H.ck H.rd H.laid hx
theorem rule1(x:CfgV):Rule x 1 24:=fun h g w H=>limits_g x g w H.ck H.rd
theorem UpTo.form{x:CfgV}{k:Nat}(h:UpTo x k)(hk:0<k):FormOk x:=formOk (h 0 hk)
theorem UpTo.lim{x:CfgV}{k:Nat}(h:UpTo x k)(hk:1<k):LimOk x:=limOk (h 1 hk)
theorem rule2(x:CfgV):Rule x 2 25:=fun h g w H=>names_g x g w H.ck H.rd (nmOk (h.form (by omega)) (h.lim (by omega)))
theorem rule3(x:CfgV):Rule x 3 26:=fun h g w H=>times_g x g w H.ck H.rd (pe_ok (h.lim (by omega)))
theorem rule4(x:CfgV):Rule x 4 27:=fun h g w H=>codes_g x g w H.ck H.rd H.laid (ins_ok (h.form (by omega)))
theorem rule5(x:CfgV):Rule x 5 28:=fun h g w H=>by
 have hl:=h.lim (by omega);exact links_g x g w H.ck H.rd (by have:=hl.ml;omega) (by have:=hl.sl;omega) (by have:=hl.ll;omega) (net_ok (h.form (by omega)))
theorem rule6(x:CfgV):Rule x 6 29:=fun h g w H=>ports_g x g w H.ck H.rd (rfOk (h.form (by omega)) (h.lim (by omega)))
theorem rule7(x:CfgV):Rule x 7 30:=fun h g w H=>vls_g x g w H.ck H.rd (fun y _=>sz_ok (h.lim (by omega)) y.src)
theorem rule8(x:CfgV):Rule x 8 31:=fun h g w H=>by
 have hl:=h.lim (by omega);exact rows_g x g w H.ck H.rd (by have:=hl.ml;omega) (dd_ok (h.form (by omega)))
theorem rule9(x:CfgV):Rule x 9 32:=fun h g w H=>by
 have hl:=h.lim (by omega);exact causes_bG (causesB x) g x.causes.a x.causes.l x.causes.c _ w H.ck.a H.rd.causes (by have:=hl.cl;omega) (fun y hy=>by have:=(excl_ok hl (rd_causes H.rd) y hy).1;omega) (rd_causes H.rd) (causesB_run x)
set_option maxHeartbeats 4000000 in
theorem check_g(x:CfgV)(w:World)(hr:x.rd w w.heap.size)(hL:LaidN w)(hx:∀r∈x.causes.l,r.x.n≤8796093021952):
 CU 7 #[x.val] w (.int .i64 (chkV x)):=by
 obtain⟨w1,hw1⟩:∃w1,w1=((w.alloc (.cells #[.slice x.mods.a x.mods.l.length x.mods.c,.slice x.chans.a x.chans.l.length x.chans.c,.slice x.sws.a x.sws.l.length x.sws.c,.slice x.links.a x.links.l.length x.links.c,.slice x.vls.a x.vls.l.length x.vls.c,.slice x.hea.a x.hea.l.length x.hea.c,.slice x.causes.a x.causes.l.length x.causes.c,.slice x.vers.a x.vers.l.length x.vers.c] 31)).alloc (.cells #[.slice x.mods.a x.mods.l.length x.mods.c,.slice x.chans.a x.chans.l.length x.chans.c,.slice x.sws.a x.sws.l.length x.sws.c,.slice x.links.a x.links.l.length x.links.c,.slice x.vls.a x.vls.l.length x.vls.c,.slice x.hea.a x.hea.l.length x.hea.c,.slice x.causes.a x.causes.l.length x.causes.c,.slice x.vers.a x.vers.l.length x.vers.c] 106)).alloc (.cells #[.func (.func 23) #[.pointer (some ⟨w.heap.size+1,0,none⟩)] #[],.int .i64 100,.func (.func 24) #[.pointer (some ⟨w.heap.size+1,0,none⟩)] #[],.int .i64 101,.func (.func 25) #[.pointer (some ⟨w.heap.size+1,0,none⟩)] #[],.int .i64 102,.func (.func 26) #[.pointer (some ⟨w.heap.size+1,0,none⟩)] #[],.int .i64 103,.func (.func 27) #[.pointer (some ⟨w.heap.size+1,0,none⟩)] #[],.int .i64 104,.func (.func 28) #[.pointer (some ⟨w.heap.size+1,0,none⟩)] #[],.int .i64 105,.func (.func 29) #[.pointer (some ⟨w.heap.size+1,0,none⟩)] #[],.int .i64 106,.func (.func 30) #[.pointer (some ⟨w.heap.size+1,0,none⟩)] #[],.int .i64 107,.func (.func 31) #[.pointer (some ⟨w.heap.size+1,0,none⟩)] #[],.int .i64 108,.func (.func 32) #[.pointer (some ⟨w.heap.size+1,0,none⟩)] #[],.int .i64 109] 108):=⟨_,rfl⟩;have hB1:Below w.heap.size w w1:=by rw[hw1];exact(((Below.refl _ w).alloc (Nat.le_refl _) _).alloc (by simp) _).alloc (by simp;omega) _
 have hck:CkG w1 (w.heap.size+1) x:=by
  rw[hw1];have:=Blk.new (w.alloc (.cells #[.slice x.mods.a x.mods.l.length x.mods.c,.slice x.chans.a x.chans.l.length x.chans.c,.slice x.sws.a x.sws.l.length x.sws.c,.slice x.links.a x.links.l.length x.links.c,.slice x.vls.a x.vls.l.length x.vls.c,.slice x.hea.a x.hea.l.length x.hea.c,.slice x.causes.a x.causes.l.length x.causes.c,.slice x.vers.a x.vers.l.length x.vers.c] 31)) 106 #[.slice x.mods.a x.mods.l.length x.mods.c,.slice x.chans.a x.chans.l.length x.chans.c,.slice x.sws.a x.sws.l.length x.sws.c,.slice x.links.a x.links.l.length x.links.c,.slice x.vls.a x.vls.l.length x.vls.c,.slice x.hea.a x.hea.l.length x.hea.c,.slice x.causes.a x.causes.l.length x.causes.c,.slice x.vers.a x.vers.l.length x.vers.c];rw[World.size_alloc]at this;exact this.alloc _
 have hrow:Blk w1 (w.heap.size+2) 108 #[.func (.func 23) #[.pointer (some ⟨w.heap.size+1,0,none⟩)] #[],.int .i64 100,.func (.func 24) #[.pointer (some ⟨w.heap.size+1,0,none⟩)] #[],.int .i64 101,.func (.func 25) #[.pointer (some ⟨w.heap.size+1,0,none⟩)] #[],.int .i64 102,.func (.func 26) #[.pointer (some ⟨w.heap.size+1,0,none⟩)] #[],.int .i64 103,.func (.func 27) #[.pointer (some ⟨w.heap.size+1,0,none⟩)] #[],.int .i64 104,.func (.func 28) #[.pointer (some ⟨w.heap.size+1,0,none⟩)] #[],.int .i64 105,.func (.func 29) #[.pointer (some ⟨w.heap.size+1,0,none⟩)] #[],.int .i64 106,.func (.func 30) #[.pointer (some ⟨w.heap.size+1,0,none⟩)] #[],.int .i64 107,.func (.func 31) #[.pointer (some ⟨w.heap.size+1,0,none⟩)] #[],.int .i64 108,.func (.func 32) #[.pointer (some ⟨w.heap.size+1,0,none⟩)] #[],.int .i64 109]:=by
  rw[hw1];have:=Blk.new ((w.alloc (.cells #[.slice x.mods.a x.mods.l.length x.mods.c,.slice x.chans.a x.chans.l.length x.chans.c,.slice x.sws.a x.sws.l.length x.sws.c,.slice x.links.a x.links.l.length x.links.c,.slice x.vls.a x.vls.l.length x.vls.c,.slice x.hea.a x.hea.l.length x.hea.c,.slice x.causes.a x.causes.l.length x.causes.c,.slice x.vers.a x.vers.l.length x.vers.c] 31)).alloc (.cells #[.slice x.mods.a x.mods.l.length x.mods.c,.slice x.chans.a x.chans.l.length x.chans.c,.slice x.sws.a x.sws.l.length x.sws.c,.slice x.links.a x.links.l.length x.links.c,.slice x.vls.a x.vls.l.length x.vls.c,.slice x.hea.a x.hea.l.length x.hea.c,.slice x.causes.a x.causes.l.length x.causes.c,.slice x.vers.a x.vers.l.length x.vers.c] 106)) 108 #[.func (.func 23) #[.pointer (some ⟨w.heap.size+1,0,none⟩)] #[],.int .i64 100,.func (.func 24) #[.pointer (some ⟨w.heap.size+1,0,none⟩)] #[],.int .i64 101,.func (.func 25) #[.pointer (some ⟨w.heap.size+1,0,none⟩)] #[],.int .i64 102,.func (.func 26) #[.pointer (some ⟨w.heap.size+1,0,none⟩)] #[],.int .i64 103,.func (.func 27) #[.pointer (some ⟨w.heap.size+1,0,none⟩)] #[],.int .i64 104,.func (.func 28) #[.pointer (some ⟨w.heap.size+1,0,none⟩)] #[],.int .i64 105,.func (.func 29) #[.pointer (some ⟨w.heap.size+1,0,none⟩)] #[],.int .i64 106,.func (.func 30) #[.pointer (some ⟨w.heap.size+1,0,none⟩)] #[],.int .i64 107,.func (.func 31) #[.pointer (some ⟨w.heap.size+1,0,none⟩)] #[],.int .i64 108,.func (.func 32) #[.pointer (some ⟨w.heap.size+1,0,none⟩)] #[],.int .i64 109];simpa only[World.size_alloc]using this
 have Hin:Hid (CkIn x (w.heap.size+1) w1):=lz (⟨hck,hr.below hB1,hL.below hB1⟩);have Hrow:=lz hrow;have HB1:=lz hB1;have Hx:=lz hx;have Hw1:=lz hw1;clear hck hrow hB1 hr hL hx hw1;have b0:=Blk.new w 31 #[.slice x.mods.a x.mods.l.length x.mods.c,.slice x.chans.a x.chans.l.length x.chans.c,.slice x.sws.a x.sws.l.length x.sws.c,.slice x.links.a x.links.l.length x.links.c,.slice x.vls.a x.vls.l.length x.vls.c,.slice x.hea.a x.hea.l.length x.hea.c,.slice x.causes.a x.causes.l.length x.causes.c,.slice x.vers.a x.vers.l.length x.vers.c];have c0:=b0.cell 0;have c1:=b0.cell 1;have c2:=b0.cell 2;have c3:=b0.cell 3;have c4:=b0.cell 4;have c5:=b0.cell 5;have c6:=b0.cell 6;have c7:=b0.cell 7;clear b0;go_enter Tryz.func7,Tryz.ntmps7;go_wp2_with fail;rw[←Hw1.out];go_loopw [41] (fun t wr=>∃k:Nat,k≤10∧t= .int .i64 k∧Below w1.heap.size w1 wr∧Hid (UpTo x k)) (fun t wr=>10-(intOf t).toNat)
 case atStart=>exact⟨0,by omega,rfl,Below.refl _ _,lz (fun j hj=>absurd hj (by omega))⟩
 case round=>
  obtain⟨k,hk,rfl,hB,hu⟩:=hrel;clear c0 c1 c2 c3 c4 c5 c6 c7;have hrow:=Hrow.out.below hB Hrow.out.lt;have Hinr:=lz (Hin.out.below hB);have hsz:w.heap.size+2<wr.heap.size:=hrow.lt;have HB:=lz hB;have Hrowr:=lz hrow;clear hB hrow;have h10:k=0∨k=1∨k=2∨k=3∨k=4∨k=5∨k=6∨k=7∨k=8∨k=9∨k=10:=by omega
  rcases h10 with rfl | rfl | rfl | rfl | rfl | rfl | rfl | rfl | rfl | rfl | rfl
  ·have d0:=Hrowr.out.cell 0
   have d1:=Hrowr.out.cell 1;have hc:=rule0 x Hx.out hu.out (w.heap.size+1) (wr.alloc (.cells #[.func (.func 23) #[.pointer (some ⟨w.heap.size+1,0,none⟩)] #[],.int .i64 100] 108)) (Hinr.out.below ((Below.refl wr.heap.size wr).alloc (Nat.le_refl _) (.cells #[.func (.func 23) #[.pointer (some ⟨w.heap.size+1,0,none⟩)] #[],.int .i64 100] 108)));have hno:ruleB x 0=false→chkV x=100:=chkV_0 hu.out;have hyes:ruleB x 0=true→UpTo x 1:=hu.out.next
   have Hno:=lz hno;have Hyes:=lz hyes;have Hcc:=lz hc;clear hc hu hno hyes;generalize ruleB x 0=q at *;go_wp2_with fail;refine Hcc.out.mono ?_;rintro e W2 ⟨rfl,hb2⟩;have HB2:=lz (HB.out.trans (((Below.refl wr.heap.size wr).alloc (Nat.le_refl _) (.cells #[.func (.func 23) #[.pointer (some ⟨w.heap.size+1,0,none⟩)] #[],.int .i64 100] 108)).trans (hb2.mono (by simp)) |>.mono HB.out.size));have k1:=((Blk.new wr 108 #[.func (.func 23) #[.pointer (some ⟨w.heap.size+1,0,none⟩)] #[],.int .i64 100]).below hb2 (by simp)).cell 1;clear hb2 Hcc d0 d1
   cases q with
   | true=>
    have HU:=lz (Hyes.out rfl);clear Hno Hyes;go_wp2_with fail;go_roundw
    case rel=>exact⟨1,by omega,by go_num,HB2.out,HU⟩
    case measure=>simp[intOf]
   | false=>
    have HV:=lz (Hno.out rfl);clear Hno Hyes;go_wp2_with fail;go_ret;exact⟨by rw[HV.out];rfl,HB1.out.trans (HB2.out.mono HB1.out.size)⟩
  ·have d0:=Hrowr.out.cell 2
   have d1:=Hrowr.out.cell 3;have hc:=rule1 x hu.out (w.heap.size+1) (wr.alloc (.cells #[.func (.func 24) #[.pointer (some ⟨w.heap.size+1,0,none⟩)] #[],.int .i64 101] 108)) (Hinr.out.below ((Below.refl wr.heap.size wr).alloc (Nat.le_refl _) (.cells #[.func (.func 24) #[.pointer (some ⟨w.heap.size+1,0,none⟩)] #[],.int .i64 101] 108)));have hno:ruleB x 1=false→chkV x=101:=chkV_1 hu.out;have hyes:ruleB x 1=true→UpTo x 2:=hu.out.next
   have Hno:=lz hno;have Hyes:=lz hyes;have Hcc:=lz hc;clear hc hu hno hyes;generalize ruleB x 1=q at *;go_wp2_with fail;refine Hcc.out.mono ?_;rintro e W2 ⟨rfl,hb2⟩;have HB2:=lz (HB.out.trans (((Below.refl wr.heap.size wr).alloc (Nat.le_refl _) (.cells #[.func (.func 24) #[.pointer (some ⟨w.heap.size+1,0,none⟩)] #[],.int .i64 101] 108)).trans (hb2.mono (by simp)) |>.mono HB.out.size));have k1:=((Blk.new wr 108 #[.func (.func 24) #[.pointer (some ⟨w.heap.size+1,0,none⟩)] #[],.int .i64 101]).below hb2 (by simp)).cell 1;clear hb2 Hcc d0 d1
   cases q with
   | true=>
    have HU:=lz (Hyes.out rfl);clear Hno Hyes;go_wp2_with fail;go_roundw
    case rel=>exact⟨2,by omega,by go_num,HB2.out,HU⟩
    case measure=>simp[intOf]
   | false=>
    have HV:=lz (Hno.out rfl);clear Hno Hyes;go_wp2_with fail;go_ret;exact⟨by rw[HV.out];rfl,HB1.out.trans (HB2.out.mono HB1.out.size)⟩
  ·have d0:=Hrowr.out.cell 4
   have d1:=Hrowr.out.cell 5;have hc:=rule2 x hu.out (w.heap.size+1) (wr.alloc (.cells #[.func (.func 25) #[.pointer (some ⟨w.heap.size+1,0,none⟩)] #[],.int .i64 102] 108)) (Hinr.out.below ((Below.refl wr.heap.size wr).alloc (Nat.le_refl _) (.cells #[.func (.func 25) #[.pointer (some ⟨w.heap.size+1,0,none⟩)] #[],.int .i64 102] 108)));have hno:ruleB x 2=false→chkV x=102:=chkV_2 hu.out;have hyes:ruleB x 2=true→UpTo x 3:=hu.out.next
   have Hno:=lz hno;have Hyes:=lz hyes;have Hcc:=lz hc;clear hc hu hno hyes;generalize ruleB x 2=q at *;go_wp2_with fail;refine Hcc.out.mono ?_;rintro e W2 ⟨rfl,hb2⟩;have HB2:=lz (HB.out.trans (((Below.refl wr.heap.size wr).alloc (Nat.le_refl _) (.cells #[.func (.func 25) #[.pointer (some ⟨w.heap.size+1,0,none⟩)] #[],.int .i64 102] 108)).trans (hb2.mono (by simp)) |>.mono HB.out.size));have k1:=((Blk.new wr 108 #[.func (.func 25) #[.pointer (some ⟨w.heap.size+1,0,none⟩)] #[],.int .i64 102]).below hb2 (by simp)).cell 1;clear hb2 Hcc d0 d1
   cases q with
   | true=>
    have HU:=lz (Hyes.out rfl);clear Hno Hyes;go_wp2_with fail;go_roundw
    case rel=>exact⟨3,by omega,by go_num,HB2.out,HU⟩
    case measure=>simp[intOf]
   | false=>
    have HV:=lz (Hno.out rfl);clear Hno Hyes;go_wp2_with fail;go_ret;exact⟨by rw[HV.out];rfl,HB1.out.trans (HB2.out.mono HB1.out.size)⟩
  ·have d0:=Hrowr.out.cell 6
   have d1:=Hrowr.out.cell 7;have hc:=rule3 x hu.out (w.heap.size+1) (wr.alloc (.cells #[.func (.func 26) #[.pointer (some ⟨w.heap.size+1,0,none⟩)] #[],.int .i64 103] 108)) (Hinr.out.below ((Below.refl wr.heap.size wr).alloc (Nat.le_refl _) (.cells #[.func (.func 26) #[.pointer (some ⟨w.heap.size+1,0,none⟩)] #[],.int .i64 103] 108)));have hno:ruleB x 3=false→chkV x=103:=chkV_3 hu.out;have hyes:ruleB x 3=true→UpTo x 4:=hu.out.next
   have Hno:=lz hno;have Hyes:=lz hyes;have Hcc:=lz hc;clear hc hu hno hyes;generalize ruleB x 3=q at *;go_wp2_with fail;refine Hcc.out.mono ?_;rintro e W2 ⟨rfl,hb2⟩;have HB2:=lz (HB.out.trans (((Below.refl wr.heap.size wr).alloc (Nat.le_refl _) (.cells #[.func (.func 26) #[.pointer (some ⟨w.heap.size+1,0,none⟩)] #[],.int .i64 103] 108)).trans (hb2.mono (by simp)) |>.mono HB.out.size));have k1:=((Blk.new wr 108 #[.func (.func 26) #[.pointer (some ⟨w.heap.size+1,0,none⟩)] #[],.int .i64 103]).below hb2 (by simp)).cell 1;clear hb2 Hcc d0 d1
   cases q with
   | true=>
    have HU:=lz (Hyes.out rfl);clear Hno Hyes;go_wp2_with fail;go_roundw
    case rel=>exact⟨4,by omega,by go_num,HB2.out,HU⟩
    case measure=>simp[intOf]
   | false=>
    have HV:=lz (Hno.out rfl);clear Hno Hyes;go_wp2_with fail;go_ret;exact⟨by rw[HV.out];rfl,HB1.out.trans (HB2.out.mono HB1.out.size)⟩
  ·have d0:=Hrowr.out.cell 8
   have d1:=Hrowr.out.cell 9;have hc:=rule4 x hu.out (w.heap.size+1) (wr.alloc (.cells #[.func (.func 27) #[.pointer (some ⟨w.heap.size+1,0,none⟩)] #[],.int .i64 104] 108)) (Hinr.out.below ((Below.refl wr.heap.size wr).alloc (Nat.le_refl _) (.cells #[.func (.func 27) #[.pointer (some ⟨w.heap.size+1,0,none⟩)] #[],.int .i64 104] 108)));have hno:ruleB x 4=false→chkV x=104:=chkV_4 hu.out;have hyes:ruleB x 4=true→UpTo x 5:=hu.out.next
   have Hno:=lz hno;have Hyes:=lz hyes;have Hcc:=lz hc;clear hc hu hno hyes;generalize ruleB x 4=q at *;go_wp2_with fail;refine Hcc.out.mono ?_;rintro e W2 ⟨rfl,hb2⟩;have HB2:=lz (HB.out.trans (((Below.refl wr.heap.size wr).alloc (Nat.le_refl _) (.cells #[.func (.func 27) #[.pointer (some ⟨w.heap.size+1,0,none⟩)] #[],.int .i64 104] 108)).trans (hb2.mono (by simp)) |>.mono HB.out.size));have k1:=((Blk.new wr 108 #[.func (.func 27) #[.pointer (some ⟨w.heap.size+1,0,none⟩)] #[],.int .i64 104]).below hb2 (by simp)).cell 1;clear hb2 Hcc d0 d1
   cases q with
   | true=>
    have HU:=lz (Hyes.out rfl);clear Hno Hyes;go_wp2_with fail;go_roundw
    case rel=>exact⟨5,by omega,by go_num,HB2.out,HU⟩
    case measure=>simp[intOf]
   | false=>
    have HV:=lz (Hno.out rfl);clear Hno Hyes;go_wp2_with fail;go_ret;exact⟨by rw[HV.out];rfl,HB1.out.trans (HB2.out.mono HB1.out.size)⟩
  ·have d0:=Hrowr.out.cell 10
   have d1:=Hrowr.out.cell 11;have hc:=rule5 x hu.out (w.heap.size+1) (wr.alloc (.cells #[.func (.func 28) #[.pointer (some ⟨w.heap.size+1,0,none⟩)] #[],.int .i64 105] 108)) (Hinr.out.below ((Below.refl wr.heap.size wr).alloc (Nat.le_refl _) (.cells #[.func (.func 28) #[.pointer (some ⟨w.heap.size+1,0,none⟩)] #[],.int .i64 105] 108)));have hno:ruleB x 5=false→chkV x=105:=chkV_5 hu.out;have hyes:ruleB x 5=true→UpTo x 6:=hu.out.next
   have Hno:=lz hno;have Hyes:=lz hyes;have Hcc:=lz hc;clear hc hu hno hyes;generalize ruleB x 5=q at *;go_wp2_with fail;refine Hcc.out.mono ?_;rintro e W2 ⟨rfl,hb2⟩;have HB2:=lz (HB.out.trans (((Below.refl wr.heap.size wr).alloc (Nat.le_refl _) (.cells #[.func (.func 28) #[.pointer (some ⟨w.heap.size+1,0,none⟩)] #[],.int .i64 105] 108)).trans (hb2.mono (by simp)) |>.mono HB.out.size));have k1:=((Blk.new wr 108 #[.func (.func 28) #[.pointer (some ⟨w.heap.size+1,0,none⟩)] #[],.int .i64 105]).below hb2 (by simp)).cell 1;clear hb2 Hcc d0 d1
   cases q with
   | true=>
    have HU:=lz (Hyes.out rfl);clear Hno Hyes;go_wp2_with fail;go_roundw
    case rel=>exact⟨6,by omega,by go_num,HB2.out,HU⟩
    case measure=>simp[intOf]
   | false=>
    have HV:=lz (Hno.out rfl);clear Hno Hyes;go_wp2_with fail;go_ret;exact⟨by rw[HV.out];rfl,HB1.out.trans (HB2.out.mono HB1.out.size)⟩
  ·have d0:=Hrowr.out.cell 12
   have d1:=Hrowr.out.cell 13;have hc:=rule6 x hu.out (w.heap.size+1) (wr.alloc (.cells #[.func (.func 29) #[.pointer (some ⟨w.heap.size+1,0,none⟩)] #[],.int .i64 106] 108)) (Hinr.out.below ((Below.refl wr.heap.size wr).alloc (Nat.le_refl _) (.cells #[.func (.func 29) #[.pointer (some ⟨w.heap.size+1,0,none⟩)] #[],.int .i64 106] 108)));have hno:ruleB x 6=false→chkV x=106:=chkV_6 hu.out;have hyes:ruleB x 6=true→UpTo x 7:=hu.out.next
   have Hno:=lz hno;have Hyes:=lz hyes;have Hcc:=lz hc;clear hc hu hno hyes;generalize ruleB x 6=q at *;go_wp2_with fail;refine Hcc.out.mono ?_;rintro e W2 ⟨rfl,hb2⟩;have HB2:=lz (HB.out.trans (((Below.refl wr.heap.size wr).alloc (Nat.le_refl _) (.cells #[.func (.func 29) #[.pointer (some ⟨w.heap.size+1,0,none⟩)] #[],.int .i64 106] 108)).trans (hb2.mono (by simp)) |>.mono HB.out.size));have k1:=((Blk.new wr 108 #[.func (.func 29) #[.pointer (some ⟨w.heap.size+1,0,none⟩)] #[],.int .i64 106]).below hb2 (by simp)).cell 1;clear hb2 Hcc d0 d1
   cases q with
   | true=>
    have HU:=lz (Hyes.out rfl);clear Hno Hyes;go_wp2_with fail;go_roundw
    case rel=>exact⟨7,by omega,by go_num,HB2.out,HU⟩
    case measure=>simp[intOf]
   | false=>
    have HV:=lz (Hno.out rfl);clear Hno Hyes;go_wp2_with fail;go_ret;exact⟨by rw[HV.out];rfl,HB1.out.trans (HB2.out.mono HB1.out.size)⟩
  ·have d0:=Hrowr.out.cell 14
   have d1:=Hrowr.out.cell 15;have hc:=rule7 x hu.out (w.heap.size+1) (wr.alloc (.cells #[.func (.func 30) #[.pointer (some ⟨w.heap.size+1,0,none⟩)] #[],.int .i64 107] 108)) (Hinr.out.below ((Below.refl wr.heap.size wr).alloc (Nat.le_refl _) (.cells #[.func (.func 30) #[.pointer (some ⟨w.heap.size+1,0,none⟩)] #[],.int .i64 107] 108)));have hno:ruleB x 7=false→chkV x=107:=chkV_7 hu.out;have hyes:ruleB x 7=true→UpTo x 8:=hu.out.next
   have Hno:=lz hno;have Hyes:=lz hyes;have Hcc:=lz hc;clear hc hu hno hyes;generalize ruleB x 7=q at *;go_wp2_with fail;refine Hcc.out.mono ?_;rintro e W2 ⟨rfl,hb2⟩;have HB2:=lz (HB.out.trans (((Below.refl wr.heap.size wr).alloc (Nat.le_refl _) (.cells #[.func (.func 30) #[.pointer (some ⟨w.heap.size+1,0,none⟩)] #[],.int .i64 107] 108)).trans (hb2.mono (by simp)) |>.mono HB.out.size));have k1:=((Blk.new wr 108 #[.func (.func 30) #[.pointer (some ⟨w.heap.size+1,0,none⟩)] #[],.int .i64 107]).below hb2 (by simp)).cell 1;clear hb2 Hcc d0 d1
   cases q with
   | true=>
    have HU:=lz (Hyes.out rfl);clear Hno Hyes;go_wp2_with fail;go_roundw
    case rel=>exact⟨8,by omega,by go_num,HB2.out,HU⟩
    case measure=>simp[intOf]
   | false=>
    have HV:=lz (Hno.out rfl);clear Hno Hyes;go_wp2_with fail;go_ret;exact⟨by rw[HV.out];rfl,HB1.out.trans (HB2.out.mono HB1.out.size)⟩
  ·have d0:=Hrowr.out.cell 16
   have d1:=Hrowr.out.cell 17;have hc:=rule8 x hu.out (w.heap.size+1) (wr.alloc (.cells #[.func (.func 31) #[.pointer (some ⟨w.heap.size+1,0,none⟩)] #[],.int .i64 108] 108)) (Hinr.out.below ((Below.refl wr.heap.size wr).alloc (Nat.le_refl _) (.cells #[.func (.func 31) #[.pointer (some ⟨w.heap.size+1,0,none⟩)] #[],.int .i64 108] 108)));have hno:ruleB x 8=false→chkV x=108:=chkV_8 hu.out;have hyes:ruleB x 8=true→UpTo x 9:=hu.out.next
   have Hno:=lz hno;have Hyes:=lz hyes;have Hcc:=lz hc;clear hc hu hno hyes;generalize ruleB x 8=q at *;go_wp2_with fail;refine Hcc.out.mono ?_;rintro e W2 ⟨rfl,hb2⟩;have HB2:=lz (HB.out.trans (((Below.refl wr.heap.size wr).alloc (Nat.le_refl _) (.cells #[.func (.func 31) #[.pointer (some ⟨w.heap.size+1,0,none⟩)] #[],.int .i64 108] 108)).trans (hb2.mono (by simp)) |>.mono HB.out.size));have k1:=((Blk.new wr 108 #[.func (.func 31) #[.pointer (some ⟨w.heap.size+1,0,none⟩)] #[],.int .i64 108]).below hb2 (by simp)).cell 1;clear hb2 Hcc d0 d1
   cases q with
   | true=>
    have HU:=lz (Hyes.out rfl);clear Hno Hyes;go_wp2_with fail;go_roundw
    case rel=>exact⟨9,by omega,by go_num,HB2.out,HU⟩
    case measure=>simp[intOf]
   | false=>
    have HV:=lz (Hno.out rfl);clear Hno Hyes;go_wp2_with fail;go_ret;exact⟨by rw[HV.out];rfl,HB1.out.trans (HB2.out.mono HB1.out.size)⟩
  ·have d0:=Hrowr.out.cell 18
   have d1:=Hrowr.out.cell 19;have hc:=rule9 x hu.out (w.heap.size+1) (wr.alloc (.cells #[.func (.func 32) #[.pointer (some ⟨w.heap.size+1,0,none⟩)] #[],.int .i64 109] 108)) (Hinr.out.below ((Below.refl wr.heap.size wr).alloc (Nat.le_refl _) (.cells #[.func (.func 32) #[.pointer (some ⟨w.heap.size+1,0,none⟩)] #[],.int .i64 109] 108)));have hno:ruleB x 9=false→chkV x=109:=chkV_9 hu.out;have hyes:ruleB x 9=true→UpTo x 10:=hu.out.next
   have Hno:=lz hno;have Hyes:=lz hyes;have Hcc:=lz hc;clear hc hu hno hyes;generalize ruleB x 9=q at *;go_wp2_with fail;refine Hcc.out.mono ?_;rintro e W2 ⟨rfl,hb2⟩;have HB2:=lz (HB.out.trans (((Below.refl wr.heap.size wr).alloc (Nat.le_refl _) (.cells #[.func (.func 32) #[.pointer (some ⟨w.heap.size+1,0,none⟩)] #[],.int .i64 109] 108)).trans (hb2.mono (by simp)) |>.mono HB.out.size));have k1:=((Blk.new wr 108 #[.func (.func 32) #[.pointer (some ⟨w.heap.size+1,0,none⟩)] #[],.int .i64 109]).below hb2 (by simp)).cell 1;clear hb2 Hcc d0 d1
   cases q with
   | true=>
    have HU:=lz (Hyes.out rfl);clear Hno Hyes;go_wp2_with fail;go_roundw
    case rel=>exact⟨10,by omega,by go_num,HB2.out,HU⟩
    case measure=>simp[intOf]
   | false=>
    have HV:=lz (Hno.out rfl);clear Hno Hyes;go_wp2_with fail;go_ret;exact⟨by rw[HV.out];rfl,HB1.out.trans (HB2.out.mono HB1.out.size)⟩
  ·have HV:=lz (chkV_ok.2 hu.out)
   clear hu;go_wp2_with fail;go_ret;exact⟨by rw[HV.out];rfl,HB1.out.trans (HB.out.mono HB1.out.size)⟩
end Go.Proofs.YtchfcgilpjkmhaaGreatDoor
namespace Go.Proofs.YtchfcgilpjkmhaaGreatDoor
open Go.ChangeShapes Go.WideShapes Go.ChangeAt Go.RowKit
def hasUC(R:List Cs)(u:ByteArray):Bool:=R.any fun x=>seqB x.unit u
def staysC(L R:List Cs)(x:Cs):Bool:=R.any fun y=>seqB y.unit x.unit&& !(y.excl.all fun u=>hasUC L u&& !hasUC R u)
def runCC(L:List Cs):Nat→Int→List Cs→Bool
 | 0,_,_=>false
 | f+1,n,R=>if n=R.length then decide (R.length=0)else runCC L f R.length (R.filter (staysC L R))
theorem hasU_cs(R:List CsV)(u:ByteArray):hasU R u=hasUC (csOf R) u:=by unfold hasU hasUC csOf;rw[List.any_map];rfl
theorem stays_cs(L R:List CsV)(x:CsV):staysV L R x=staysC (csOf L) (csOf R) x.c:=by
 unfold staysV staysC csOf;rw[List.any_map];congr 1;funext y;simp only[Function.comp,openV,fineV];congr 2;congr 1;funext u;rw[hasU_cs,hasU_cs]
theorem runC_cs(L:List CsV):∀(f:Nat) (n:Int) (R:List CsV),runC L f n R=runCC (csOf L) f n (csOf R)
 | 0,_,_=>rfl
 | f+1,n,R=>by
  have hlen:(csOf R).length=R.length:=by simp[csOf]
  have hf:csOf (R.filter (staysV L R))=(csOf R).filter (staysC (csOf L) (csOf R)):=by
   unfold csOf;rw[List.filter_map];congr 1;apply List.filter_congr;intro x _;exact stays_cs L R x
  rw[runC,runCC,hlen,runC_cs L f,hf]
theorem exL_run:runCC exL 5 (-1) exL=true:=by kernel_rfl
theorem exL_len:∀c∈exL,c.needs.length≤8∧c.excl.length≤8:=by
 intro c hc;simp only[exL,List.mem_cons,List.not_mem_nil,or_false]at hc;rcases hc with rfl | rfl | rfl<;>decide
def causeCB(c:Cs):Bool:=((c.unit :: c.excl).all wordP)&&(decide (0<c.needs.length)&&c.needs.all repP)
theorem exL_form:exL.all causeCB=true:=by kernel_rfl
theorem exL_lim:exL.all (fun c=>c.needs.all repLimP)=true:=by kernel_rfl
def exX(A:Option Addr)(c:Nat)(L:List CsV):CfgV:=⟨⟨none,0,[]⟩,⟨none,0,[]⟩,⟨none,0,[]⟩,⟨none,0,[]⟩,⟨none,0,[]⟩,⟨none,0,[]⟩,⟨A,c,L⟩,⟨none,0,[]⟩⟩
theorem checkEx(A:Option Addr)(L:List CsV)(c:Nat)(w:World)(hL:csOf L=exL)(hr:RdCs w w.heap.size A L)(h3:3≤c∧c≤maxLen)(hN:LaidN w):
 CU 7 #[.agg #[.slice none 0 0,.slice none 0 0,.slice none 0 0,.slice none 0 0,.slice none 0 0,.slice none 0 0,.slice A L.length c,.slice none 0 0]] w (.int .i64 0):=by
 have hlen:L.length=3:=by have:=congrArg List.length hL;simpa [csOf,exL]using this
 have hmem:∀y∈L,y.c∈exL:=fun y hy=>hL▸List.mem_map_of_mem hy
 have hrd:∀y∈L,y.rd w w.heap.size:=fun y hy=>by
  obtain⟨i,hi,rfl⟩:=List.getElem_of_mem hy;obtain⟨b,o,_,_,hc⟩:=hr (by omega);exact(hc i hi).2.2.2
 have hrx:(exX A c L).rd w w.heap.size:=⟨Nat.le_refl _,Nat.zero_le _,fun h=>absurd h (Nat.lt_irrefl 0),Nat.le_refl _,Nat.zero_le _,fun h=>absurd h (Nat.lt_irrefl 0),Nat.le_refl _,Nat.zero_le _,fun h=>absurd h (Nat.lt_irrefl 0),Nat.le_refl _,Nat.zero_le _,fun h=>absurd h (Nat.lt_irrefl 0),Nat.le_refl _,Nat.zero_le _,fun h=>absurd h (Nat.lt_irrefl 0),Nat.le_refl _,Nat.zero_le _,fun h=>absurd h (Nat.lt_irrefl 0),by show L.length≤c;omega,h3.2,hr,Nat.le_refl _,Nat.zero_le _,fun h=>absurd h (Nat.lt_irrefl 0)⟩;have hv:chkV (exX A c L)=0:=by
  refine chkV_ok.2 fun j hj=> ?_
  have h10:j=0∨j=1∨j=2∨j=3∨j=4∨j=5∨j=6∨j=7∨j=8∨j=9:=by omega
  rcases h10 with rfl | rfl | rfl | rfl | rfl | rfl | rfl | rfl | rfl | rfl
  ·show(true&&true&&true&&true&&true&&true&&L.all causeP&&true)=true
   rw[show L.all causeP=true from List.all_eq_true.2 fun y hy=>List.all_eq_true.1 exL_form _ (hmem y hy)];rfl
  ·have hc:countsP (exX A c L)=true:=by
    show(true&&true&&true&&true&&true&& [(0:Int),(L.length:Int),(0:Int)].all (witP 0 32))=true;rw[hlen];rfl
   have hl:L.all causeLimP=true:=List.all_eq_true.2 fun y hy=>by
    have h1:=(hrd y hy).nl;have h2:=(hrd y hy).xl;obtain⟨h4,h5⟩:=exL_len _ (hmem y hy);have h6:y.c.needs.all repLimP=true:=List.all_eq_true.1 exL_lim _ (hmem y hy);unfold causeLimP witP;rw[h6];simp;omega
   show(true&&(countsP (exX A c L)&&true&&true&&true&&L.all causeLimP))=true;rw[hc,hl];rfl
  ·rfl
  ·rfl
  ·rfl
  ·rfl
  ·rfl
  ·rfl
  ·rfl
  ·show(runO L (L.length+2) (-1) L).getD false=true
   rw[hlen,runO_of 5 (-1) L (by rw[runC_cs,hL];exact exL_run)];rfl
 have:=check_g (exX A c L) w hrx hN (fun y hy=>by
  have h1:=(hrd y hy).xl;have h2:=(exL_len _ (hmem y hy)).2;omega)
 rw[hv]at this;exact this
end Go.Proofs.YtchfcgilpjkmhaaGreatDoor
