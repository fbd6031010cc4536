import Derived.Test.YtchfcgilpjkmhaaGreatDoorY8
import Derived.Test.YtchfcgilpjkmhaaGreatDoorY0
import Derived.Test.YtchfcgilpjkmhaaGreatDoorY1
set_option maxRecDepth 100000
set_option linter.unusedSimpArgs false
set_option linter.unusedVariables false
set_option linter.unusedSectionVars false
namespace Go.Proofs.YtchfcgilpjkmhaaGreatDoor
open Go.ChangeShapes Go.WideShapes Go.ChangeAt Go.RowKit
attribute [local go_sem] Oper.semAt_some
def needB(r:Rep)(c:Cs):Bool:=c.needs.any fun x=>decide (r=x)
theorem needs_c(r:Rep)(Bx:Nat)(x:CsV)(w:World)(hb:Blk w Bx 41 #[.string r.unit,.int .i64 r.code])(hx:x.rd w w.heap.size)(hn:x.c.needs.length≤1000):
 CU 35 #[x.val,.pointer (some ⟨Bx,0,none⟩)] w (.bool (needB r x.c)):=by
 have hcon:=contains39 x.c.needs r x.n.a x.n.c (w.alloc (.cells #[.string x.c.unit,.slice x.n.a x.n.n x.n.c,.slice x.x.a x.x.n x.x.c] 48)) ((hx.below ((Below.refl _ _).alloc (Nat.le_refl _) _)).n) (by omega);rw[←hx.nl]at hcon;have b0:=hb.cell 0;have b1:=hb.cell 1;have hlt:=hb.lt;have Hcon:=lz hcon;unfold needB;generalize (x.c.needs.any fun x=>decide (r=x))=q at *;clear hcon hb hx;go_enter Tryz.func35,Tryz.ntmps35;go_wp2_with fail;refine Hcon.out.mono ?_;rintro e w1 ⟨rfl,hb1⟩;have HB:=lz (((Below.refl _ w).alloc (Nat.le_refl _) (.cells #[.string x.c.unit,.slice x.n.a x.n.n x.n.c,.slice x.x.a x.x.n x.x.c] 48)).trans (hb1.mono (by simp)));clear Hcon hb1;go_wp2;go_ret;exact⟨rfl,HB.out⟩
set_option maxHeartbeats 1000000 in
theorem report_c(L:List CsV)(reps:List Rep)(r:Rep)(g mb:Nat)(A:Option Addr)(c:Nat)(w:World)(hg:Blk w g 103 #[.slice A L.length c,.map (some mb)])(h:RdCs w w.heap.size A L)(hl:L.length≤100000)(hn:∀x∈L,x.c.needs.length≤1000)(hm:CntMap KR w mb reps)(hr:r.ok)(hlr:reps.length<maxLen)
 (hk:(L.any fun x=>needB r x.c)=true):
 Calls Tryz.prog 8 #[.pointer (some ⟨g,0,none⟩),r.val] w fun e w'=>e= .returned (.int .i64 0)∧CntMap KR w' mb (reps++ [r])∧w.grownBy w' (some mb):=by
 obtain⟨w1,hw1⟩:∃w1,w1=w.alloc (.cells #[.string r.unit,.int .i64 r.code] 41):=⟨_,rfl⟩;have hB1:Below w.heap.size w w1:=by rw[hw1];exact(Below.refl _ _).alloc (Nat.le_refl _) _
 have hbx:Blk w1 w.heap.size 41 #[.string r.unit,.int .i64 r.code]:=by rw[hw1];exact Blk.new w _ _
 have hg1:Blk w1 g 103 #[.slice A L.length c,.map (some mb)]:=hg.below hB1 hg.lt;have hmade:=made_c g A L.length c (some mb) w1 hg1;have hcon:=containsCs37 35 #[.pointer (some ⟨w.heap.size,0,none⟩)] (fun x=>needB r x.c) (enters_of Tryz.func35 kz rfl) L A c w1
  (fun W x hx hW hrd=>needs_c r w.heap.size x W (hbx.below hW hbx.lt) hrd (hn x hx)) (h.below hB1) (by omega)
 rw[hk]at hcon;have c0:=hg1.cell 0;have hmne:w.heap.size≠mb:=by have:=hm.lt;omega
 have hgne:g≠mb:=fun e=>by
  obtain⟨es,clock,ho⟩:=hm.obj;rw[←e,show w.heap[g]?=_ from hg]at ho
  cases ho
 have Hcon:=lz hcon;have Hmade:=lz hmade;have HB1:=lz hB1;have Hbx:=lz hbx;have Hg1:=lz hg1;have Hm1:=lz (hm.below hB1 hm.lt);have HW1:=lz hw1;have hltm:=hm.lt;clear hw1 hB1 hbx hg1 hmade hcon hg h hn hm hk;go_enter Tryz.func8,Tryz.ntmps8;go_wp2_with fail;rw[←HW1.out];refine Hmade.out.mono ?_;rintro e w' ⟨rfl,rfl⟩;go_wp2_with fail;refine Hcon.out.mono ?_;rintro e w2 ⟨rfl,hb2⟩;have hs1:=HB1.out.size;have hs2:=hb2.size;have hw0:=(Hm1.out.next hb2).drew;have hbx2:=Hbx.out.below hb2 Hbx.out.lt;have hg2:=Hg1.out.below hb2 Hg1.out.lt;have hlk:=hw0.run_look (M:=KR) (y:=r) hr;obtain⟨v0,st,W1,W3,hE,hL,hS,hC2,hgr,hcell⟩:=hw0.entryR hlr hr;have d0:=hbx2.cell 0;have d1:=hbx2.cell 1;have d2:=hg2.cell 1;have f0:=(hcell ⟨w.heap.size,0,none⟩ hmne).trans d0;have f1:=(hcell ⟨w.heap.size,1,none⟩ hmne).trans d1;have f2:=(hcell ⟨g,1,none⟩ hgne).trans d2;have hlk:(Instr.lookup 101 (.map (some mb)) (.agg #[.string r.unit,.int .i64 r.code]) false).run Tryz.prog w2.drew= .ok (.int .i64 (cntB r reps)) w2.drew:=hlk;have hcl':=cnt_le r reps;have hcb:(cntB r reps:Int)≤9223372036854775806:=by unfold maxLen at hlr;omega
 have hc0:(0:Int)≤(cntB r reps:Int):=by omega
 have hwr:IntKind.i64.wrap ((cntB r reps:Int)+1)=(cntB r reps:Int)+1:=IntWalk.i64_in _ (by omega);have hfin:w.grownBy W3 (some mb):=only_grow (only_of_below HB1.out (some mb) |> fun h=>only_grow h (below_grown (row:=none) hb2) (fun r e=>by cases e)) (row:=some mb) ⟨hgr.os,hgr.tape,hgr.output,hgr.size,hgr.block⟩ (fun r e=>by cases e;exact .inl rfl);have HR:=lz (And.intro hC2 hfin);clear hb2 hw0 hbx2 hg2 hC2 hgr hcell hfin hcl' Hcon Hmade HB1 Hbx Hg1 Hm1;dsimp only[Rep.val]at hE hL;go_wp2_with fail;go_region;go_wp2_with fail;go_ret;exact⟨rfl,HR.out⟩
structure InB(w:World)(g:Nat)(A:Option Addr)(c:Nat)(ts:List Tok)(now:Nat)(sz:Int):Prop where
 blk:Blk w g 203 #[.slice A ts.length c,.int .i64 now,.int .i64 sz,.int .i64 0,.int .i64 0]
 toks:RdTok w g A ts
section
variable {w w':World} {g:Nat} {A:Option Addr} {c:Nat} {ts:List Tok} {now:Nat} {sz:Int}
theorem InB.lt(h:InB w g A c ts now sz):g<w.heap.size:=h.blk.lt
theorem InB.below(h:InB w g A c ts now sz)(hb:Below w.heap.size w w'):InB w' g A c ts now sz:=
 ⟨h.blk.below hb h.lt,h.toks.to_ (Nat.le_refl _) fun b o hlt=>hb.cell (p:=⟨b,o,none⟩) (Nat.lt_trans hlt h.lt)⟩
theorem InB.kept(h:InB w g A c ts now sz){X:Nat→Prop}(hg:Gr X w w')(hX:∀k,k≤g→¬X k):InB w' g A c ts now sz:=
 ⟨hg.blk h.blk (hX _ (Nat.le_refl _)),h.toks.to_ (Nat.le_refl _) fun b o hlt=>World.cell?_of_block (hg.block b (Nat.lt_trans hlt h.lt) (hX _ (by omega)))⟩
theorem InB.step(h:InB w g A c ts now sz):InB (w.setCell ⟨g,1,none⟩ (.int .i64 ((now+1:Nat):Int))) g A c ts (now+1) sz:=
 ⟨by simpa using h.blk.set_ 1 (.int .i64 ((now+1:Nat):Int)),h.toks.to_ (Nat.le_refl _) fun b o hlt=>World.cell?_of_block (Below.heap_setCell w ⟨g,1,none⟩ _ b (by simp;omega))⟩
set_option maxHeartbeats 1000000 in
theorem here_c(w:World)(h:InB w g A c ts now sz)(hn:now<ts.length)(hl:ts.length≤100000):
 CU 251 #[.pointer (some ⟨g,0,none⟩)] w (ts[now]'hn).val:=by
 obtain⟨w1,hw1⟩:∃w1,w1=w.alloc (.cells #[.int .i64 0,.string ⟨#[]⟩,.int .i64 0] 264):=⟨_,rfl⟩;have hB1:Below w.heap.size w w1:=by rw[hw1];exact(Below.refl _ _).alloc (Nat.le_refl _) _
 have hbx:Blk w1 w.heap.size 264 #[.int .i64 0,.string ⟨#[]⟩,.int .i64 0]:=by rw[hw1];exact Blk.new w _ _
 obtain⟨b,o,rfl,hb,hc⟩:=h.toks (by omega);obtain⟨d0,d1,d2⟩:=hc now hn;have hI:=h.below hB1;have hgl:=h.lt;have k0:=hI.blk.cell 0;have k1:=hI.blk.cell 1;have k4:=hI.blk.cell 4;have l0:=hI.blk.cell 0;have l1:=hI.blk.cell 1;have j0:w1.cell? ⟨b,o+now*3,none⟩=some (.int .i64 (ts[now]'hn).kind):=(hB1.cell (p:=⟨b,o+now*3,none⟩) (Nat.lt_trans hb hgl)).trans d0;have j1:w1.cell? ⟨b,o+now*3+1,none⟩=some (.string (ts[now]'hn).text):=(hB1.cell (p:=⟨b,o+now*3+1,none⟩) (Nat.lt_trans hb hgl)).trans d1;have j2:w1.cell? ⟨b,o+now*3+2,none⟩=some (.int .i64 (ts[now]'hn).at_):=(hB1.cell (p:=⟨b,o+now*3+2,none⟩) (Nat.lt_trans hb hgl)).trans d2;have f0:=hbx.frozen 0;have f1:=hbx.frozen 1;have f2:=hbx.frozen 2;have x0:=hbx.cell 0;have x1:=hbx.cell 1;have x2:=hbx.cell 2;have hge:decide ((now:Int)≥ts.length)=false:=by simp;omega
 have HB1:=lz hB1;have HW1:=lz hw1;have Hbx:=lz hbx;have hlt1:w.heap.size<w1.heap.size:=by rw[hw1];simp
 clear d0 d1 d2 hc h hI hB1 hw1 hbx;generalize ts[now]=t at *;go_enter Tryz.func251,Tryz.ntmps251;go_wp2_with fail;rw[←HW1.out];go_quiet (fail);go_wp2_with fail;go_region;go_wp2_with fail;have hW5:Below w.heap.size w ((((w1.drewN (nq+1)).setCell ⟨w.heap.size,0,none⟩ (.int .i64 t.kind)).setCell ⟨w.heap.size,1,none⟩ (.string t.text)).setCell ⟨w.heap.size,2,none⟩ (.int .i64 t.at_)):=
  (((only_below HB1.out).setCell (Nat.le_refl _) _).setCell (Nat.le_refl _) _).setCell (Nat.le_refl _) _
 have hz:=(((Hbx.out.drewN (nq+1)).set_ 0 (.int .i64 t.kind)).set_ 1 (.string t.text)).set_ 2 (.int .i64 t.at_);generalize ((((w1.drewN (nq+1)).setCell ⟨w.heap.size,0,none⟩ (.int .i64 t.kind)).setCell ⟨w.heap.size,1,none⟩ (.string t.text)).setCell ⟨w.heap.size,2,none⟩ (.int .i64 t.at_))=W5 at *;have z0:=hz.cell 0;have z1:=hz.cell 1;have z2:=hz.cell 2;exact bodyPost_ret (v:=t.val) (by simp[results,Tryz.results251,go_sem,z0,z1,z2]) rfl ⟨rfl,hW5⟩
end
def seesB(t:Tok)(s:ByteArray):Bool:=((t.kind==1)||(t.kind==3))&&(t.text.toList==s.toList)
section
variable {g:Nat} {A:Option Addr} {c:Nat} {ts:List Tok} {now:Nat} {sz:Int}
theorem sees_c(s:ByteArray)(w:World)(h:InB w g A c ts now sz)(hn:now<ts.length)(hl:ts.length≤100000):
 CU 249 #[.pointer (some ⟨g,0,none⟩),.string s] w (.bool (seesB (ts[now]'hn) s)):=by
 have hh:=here_c w h hn hl;obtain⟨q,hq⟩:∃q,seesB (ts[now]'hn) s=q:=⟨_,rfl⟩;rw[hq];unfold seesB at hq;generalize ts[now]=t at *;dsimp only[Tok.val]at hh;have Hh:=lz hh;have Hq:=lz hq;clear hh hq h
 cases h1:(t.kind==1)<;>cases h3:(t.kind==3)<;>cases h2:(t.text.toList==s.toList)
 all_goals
  rw[h1,h3,h2]at Hq;go_enter Tryz.func249,Tryz.ntmps249;go_wp2_with (go_at_call 251;refine Hh.out.mono ?_;rintro e w1 ⟨rfl,hb1⟩);go_ret;exact⟨ret_bool Hq.out,hb1.alloc hb1.size _⟩
theorem is_no(s:ByteArray)(w:World)(h:InB w g A c ts now sz)(hn:now<ts.length)(hl:ts.length≤100000)(hs:seesB (ts[now]'hn) s=false):
 CU 190 #[.pointer (some ⟨g,0,none⟩),.string s] w (.bool false):=by
 have hh:=sees_c s w h hn hl;rw[hs]at hh;have Hh:=lz hh;clear hh h hs;go_enter Tryz.func190,Tryz.ntmps190;go_wp2_with (go_at_call 249;refine Hh.out.mono ?_;rintro e w1 ⟨rfl,hb1⟩);go_ret;exact⟨rfl,hb1⟩
theorem gr_step{w w1:World}(hb:Below w.heap.size w w1)(u:Value):Gr (· =g) w (w1.setCell ⟨g,1,none⟩ u):=(Gr.of_below hb).trans (Gr.setCell _ _ _ rfl)
theorem is_yes(s:ByteArray)(w:World)(h:InB w g A c ts now sz)(hn:now<ts.length)(hl:ts.length≤100000)(hs:seesB (ts[now]'hn) s=true):
 Calls Tryz.prog 190 #[.pointer (some ⟨g,0,none⟩),.string s] w fun e w'=>e= .returned (.bool true)∧InB w' g A c ts (now+1) sz∧Gr (· =g) w w':=by
 have hh:=sees_c s w h hn hl;rw[hs]at hh;have Hh:=lz hh;have H:=lz h;clear hh h hs;go_enter Tryz.func190,Tryz.ntmps190;go_wp2_with fail;refine Hh.out.mono ?_;rintro e w1 ⟨rfl,hb1⟩;have hI:=H.out.below hb1;have k1:=hI.blk.cell 1;have f1:=hI.blk.frozen 1;have HR:=lz (And.intro hI.step (gr_step (g:=g) hb1 (.int .i64 ((now+1:Nat):Int))));clear Hh hb1 hI;go_wp2_with fail;go_ret;exact⟨rfl,HR.out⟩
theorem must_c(s:ByteArray)(w:World)(h:InB w g A c ts now sz)(hn:now<ts.length)(hl:ts.length≤100000)(hs:seesB (ts[now]'hn) s=true):
 Calls Tryz.prog 193 #[.pointer (some ⟨g,0,none⟩),.string s] w fun e w'=>(∃v,e= .returned v)∧InB w' g A c ts (now+1) sz∧Gr (· =g) w w':=by
 have Hh:=lz (is_yes s w h hn hl hs);clear h hs;go_enter Tryz.func193,Tryz.ntmps193;go_wp2_with (go_at_call 190;refine Hh.out.mono ?_;rintro e w1 ⟨rfl,hb1⟩);go_end0;exact⟨⟨_,rfl⟩,hb1⟩
theorem name_c(w:World)(h:InB w g A c ts now sz)(hn:now<ts.length)(hl:ts.length≤100000)(hk:(ts[now]'hn).kind=1):
 Calls Tryz.prog 195 #[.pointer (some ⟨g,0,none⟩)] w fun e w'=>e= .returned (.string (ts[now]'hn).text)∧InB w' g A c ts (now+1) sz∧Gr (· =g) w w':=by
 have hh:=here_c w h hn hl;generalize ts[now]=t at *;obtain⟨k,x,y⟩:=t;obtain rfl:k=1:=hk;dsimp only[Tok.val]at hh;have Hh:=lz hh;have H:=lz h;clear hh h;go_enter Tryz.func195,Tryz.ntmps195;go_wp2_with fail;refine Hh.out.mono ?_;rintro e w1 ⟨rfl,hb1⟩;have hI:=H.out.below hb1;have k1:=hI.blk.cell 1;have f1:=hI.blk.frozen 1;have hb2:Below (w1.setCell ⟨g,1,none⟩ (.int .i64 ((now+1:Nat):Int))).heap.size (w1.setCell ⟨g,1,none⟩ (.int .i64 ((now+1:Nat):Int))) ((w1.setCell ⟨g,1,none⟩ (.int .i64 ((now+1:Nat):Int))).alloc (.cells #[.int .i64 1,.string x,.int .i64 y] 264)):=(Below.refl _ _).alloc (Nat.le_refl _) _;have hlt:g<w1.heap.size:=Nat.lt_of_lt_of_le H.out.lt hb1.size;have HR:=lz (And.intro (hI.step.below hb2) ((gr_step (g:=g) hb1 (.int .i64 ((now+1:Nat):Int))).trans (Gr.of_below hb2)));clear Hh hb1 hI hb2;go_wp2_with fail;go_ret;exact⟨rfl,HR.out⟩
theorem num_c(n:Int)(w:World)(h:InB w g A c ts now sz)(hn:now<ts.length)(hl:ts.length≤100000)(hk:(ts[now]'hn).kind=2)(hf:figB (ts[now]'hn).text n=true):
 Calls Tryz.prog 200 #[.pointer (some ⟨g,0,none⟩)] w fun e w'=>e= .returned (.int .i64 n)∧InB w' g A c ts (now+1) sz∧Gr (· =g) w w':=by
 have hh:=here_c w h hn hl;generalize ts[now]=t at *;obtain⟨k,x,y⟩:=t;obtain rfl:k=2:=hk;dsimp only[Tok.val]at hh hf;have hN:=fun W=>num_ok (s:=x) W hf
 have HN:=lz hN;have Hh:=lz hh;have H:=lz h;clear hh h hN hf;go_enter Tryz.func200,Tryz.ntmps200;go_wp2_with fail;refine Hh.out.mono ?_;rintro e w1 ⟨rfl,hb1⟩;have hI:=H.out.below hb1;have k1:=hI.blk.cell 1;have f1:=hI.blk.frozen 1;have hb2:Below (w1.setCell ⟨g,1,none⟩ (.int .i64 ((now+1:Nat):Int))).heap.size (w1.setCell ⟨g,1,none⟩ (.int .i64 ((now+1:Nat):Int))) ((w1.setCell ⟨g,1,none⟩ (.int .i64 ((now+1:Nat):Int))).alloc (.cells #[.int .i64 2,.string x,.int .i64 y] 264)):=(Below.refl _ _).alloc (Nat.le_refl _) _;have hlt:g<w1.heap.size:=Nat.lt_of_lt_of_le H.out.lt hb1.size;have HR:=lz (And.intro (hI.step.below hb2) ((gr_step (g:=g) hb1 (.int .i64 ((now+1:Nat):Int))).trans (Gr.of_below hb2)));clear Hh hb1 hI hb2;go_wp2_with (go_at_call 248;refine(HN.out _).mono ?_;rintro e w' ⟨rfl,rfl⟩);go_ret;exact⟨rfl,HR.out⟩
end
open Go.Act renaming put → zP
open List renaming setIfInBounds_toArray → zA, set_cons_zero → zB, set_cons_succ → zC
set_option maxHeartbeats 4000000 in
theorem replace_none(L:List CsV)(reps:List Rep)(u:ByteArray)(g mb:Nat)(A:Option Addr)(c:Nat)(w:World)(hg:Blk w g 103 #[.slice A L.length c,.map (some mb)])(h:RdCs w w.heap.size A L)(ok:∀x∈L,OkC x.c)(hl:L.length≤100000)(hm:CntMap KR w mb reps)(hk:okV (csOf L)=true)
 (hu:u.size≤maxLen) (hun:memB u (accV (csOf L) reps)=false):
 CU 11 #[.pointer (some ⟨g,0,none⟩),.string u] w (.tuple #[.int .i64 0,.int .i64 6]):=by
 have hmade:=made_c g A L.length c (some mb) w hg;have hac:=accused_c L reps mb A c w.drew (h.to_ (Nat.le_refl _) fun _ _ _=>rfl) ok hl hm.drew;have hHeld:w.drew.cell? ⟨g,0,none⟩=some (.slice A L.length c)∧w.drew.cell? ⟨g,1,none⟩=some (.map (some mb)):=⟨hg.cell 0,hg.cell 1⟩;have hz:=cnt_eq0 u (accV (csOf L) reps);rw[hun,Bool.not_false]at hz;have Hmade:=lz hmade;have Hac:=lz hac;have Hk:=lz hk;clear hg h ok hm hmade hac hk hun;go_enter Tryz.func11,Tryz.ntmps11;go_wp2_with (go_at_call 33;refine Hmade.out.mono ?_;rintro e w' ⟨rfl,rfl⟩);refine wp_region_S (fun W'=>W'.cell? ⟨g,0,none⟩=some (.slice A L.length c)∧W'.cell? ⟨g,1,none⟩=some (.map (some mb))) 15 kz hHeld (fun hHeld=> ?_);refine wpAnyS_take (i:=0) (v:= ?_) rfl kz kz kz kz (fun c a w h=>h) (Or.inl ⟨by rfl,?_⟩) hHeld ?_;rotate_left
 ·intro w hSw
  (try obtain⟨hSw1,hSw2⟩:=hSw)
  exact gz
 simp only[zP,zA,zB,zC];refine wpAnyS_take (i:=1) (v:= ?_) rfl kz kz kz kz (fun c a w h=>h) (Or.inl ⟨by rfl,?_⟩) hHeld ?_;rotate_left
 ·intro w hSw
  (try obtain⟨hSw1,hSw2⟩:=hSw)
  exact gz
 simp only[zP,zA,zB,zC];refine wpAnyS_take (i:=2) (v:= ?_) rfl kz kz kz kz (fun c a w h=>h) (Or.inl ⟨by rfl,?_⟩) hHeld ?_;rotate_left
 ·intro w hSw
  (try obtain⟨hSw1,hSw2⟩:=hSw)
  exact gz
 simp only[zP,zA,zB,zC];refine wpAnyS_take (i:=3) (v:= ?_) rfl kz kz kz kz (fun c a w h=>h) (Or.inl ⟨by rfl,?_⟩) hHeld ?_;rotate_left
 ·intro w hSw
  (try obtain⟨hSw1,hSw2⟩:=hSw)
  exact gz
 simp only[zP,zA,zB,zC];refine wpAnyS_take (i:=4) (v:= ?_) rfl kz kz kz kz (fun c a w h=>h) (Or.inl ⟨by rfl,?_⟩) hHeld ?_;rotate_left
 ·intro w hSw
  (try obtain⟨hSw1,hSw2⟩:=hSw)
  exact gz
 simp only[zP,zA,zB,zC];refine wpAnyS_take (i:=5) (v:= ?_) rfl kz kz kz kz (fun c a w h=>h) (Or.inl ⟨by rfl,?_⟩) hHeld ?_;rotate_left
 ·intro w hSw
  (try obtain⟨hSw1,hSw2⟩:=hSw)
  exact gz
 simp only[zP,zA,zB,zC];refine wpAnyS_take (i:=6) (v:= ?_) rfl kz kz kz kz (fun c a w h=>h) (Or.inl ⟨by rfl,?_⟩) hHeld ?_;rotate_left
 ·intro w hSw
  (try obtain⟨hSw1,hSw2⟩:=hSw)
  exact gz
 simp only[zP,zA,zB,zC];refine wpAnyS_take (i:=7) (v:= ?_) rfl kz kz kz kz (fun c a w h=>h) (Or.inl ⟨by rfl,?_⟩) hHeld ?_;rotate_left
 ·intro w hSw
  (try obtain⟨hSw1,hSw2⟩:=hSw)
  exact gz
 simp only[zP,zA,zB,zC];refine RQ 8 rfl fun K hK=> ?_;go_simp;refine Hac.out.mono ?_;rintro e w5 ⟨hb5,he⟩;rw[Hk.out]at he;simp only[if_true]at he;obtain⟨A',c',b',rfl,hrd,hm'⟩:=he;have hc5:=fun(p:Addr) (x:Value) (hp:w.drew.cell? p=some x)=>(hb5.cell (p:=p) (World.block_lt_of_cell? _ _ hp)).trans hp
 have hHeld5:=And.intro (hc5 _ _ hHeld.1) (hc5 _ _ hHeld.2);have hbb:Below w.heap.size w w5:=⟨hb5.os,hb5.tape,hb5.output,hb5.size,hb5.block⟩;have HB:=lz hbb;have HM':=lz hm';refine hK.out _ _ (fun _=>hHeld5) ?_;clear hK hc5 hbb hrd hm' hb5 Hac hHeld;refine wpAnyS_takeT (i:=9) (v:= ?_) rfl kz kz kz (by decide) (fun c a w h=>h) (Or.inl ⟨by rfl,?_⟩) hHeld5 ?_;rotate_left
 ·intro w hSw
  exact gz
 simp only[zP,zA,zB,zC];refine wpAnyS_takeT (i:=10) (v:= ?_) rfl kz kz kz (by decide) (fun c a w h=>h) (Or.inl ⟨by rfl,?_⟩) hHeld5 ?_;rotate_left
 ·intro w hSw
  exact gz
 simp only[zP,zA,zB,zC];refine wpAnyS_takeT (i:=11) (v:= ?_) rfl kz kz kz (by decide) (fun c a w h=>h) (Or.inl ⟨by rfl,?_⟩) hHeld5 ?_;rotate_left
 ·intro w hSw
  exact gz
 simp only[zP,zA,zB,zC];refine wpAnyS_takeT (i:=12) (v:= ?_) rfl kz kz kz (by decide) (fun c a w h=>h) (Or.inl ⟨by rfl,?_⟩) hHeld5 ?_;rotate_left
 ·intro w hSw
  exact gz
 simp only[zP,zA,zB,zC];refine RQ 13 rfl fun K hK=> ?_;go_simp;refine hK.out _ _ (fun _=>hHeld5) ?_;clear hK;refine RQ 14 rfl fun K hK=> ?_;go_simp;refine hK.out _ _ (fun _=>hHeld5) ?_;clear hK;refine RQ 15 rfl fun K hK=> ?_;go_simp;refine hK.out _ _ (fun h=>absurd h (by decide)) ?_;clear hK;refine wpAnyS_done kz ?_ _;go_wp2_with (at_lookup;refine wpList_cnt (M:=KS) rfl (.tmp 27) (.tmp 28) rfl rfl HM'.out u hu rfl ?_);refine bodyPost_ret (results_tmp2 rfl _ _ _) rfl ?_;exact⟨rfl,HB.out⟩
theorem KeyD.perm{ks ks':List Rep}{f f':Rep→Int}{D:DataW Unit}(h:KeyD KR ks f D)(hn:ks'.Nodup)(hm:∀x,x∈ks'↔x∈ks)(hf:∀x,KR.good x→f x=f' x):KeyD KR ks' f' D where
 nodup:=hn
 good:=fun x hx=>h.good x ((hm x).1 hx)
 size:=by rw[h.size];exact Nat.le_antisymm (len_le _ _ h.nodup fun x hx=>(hm x).2 hx) (len_le _ _ hn fun x hx=>(hm x).1 hx)
 has:=fun x hx=>by
  rw[h.has x hx,decide_eq_decide];exact(hm x).symm
 at_:=fun x hx=>by rw[h.at_ x hx,hf x hx]
 map:=h.map
 tidy:=h.tidy
theorem OnMap.tight{w:World}{b n:Nat}{ks:List Rep}{f:Rep→Int}(h:OnMap KR w b n ks f):OnMap KR w b ks.length ks f:=by
 obtain⟨D,⟨es,clock,hb,F,hsz,rfl⟩,hK⟩:=h;refine⟨_,⟨es,clock,hb,F,?_,rfl⟩,hK⟩;rw[←hK.size];simp[Maps.size,DataW.length_sorted]
theorem Rng.onMap{w:World}{b r cnt:Nat}{ks got:List Rep}{f:Rep→Int}(h:Rng KR w b r ks f got cnt):∃n,OnMap KR w b n ks f:=let ⟨n,D,_,h1,h2,_⟩:=h;⟨n,D,h1.owns,h2⟩
theorem restR_ext{ex got:List Rep}(h:∀x,x∈got↔x∈ex)(x:Rep):memB x got=memB x ex:=by rw[Bool.eq_iff_iff,memB_iff,memB_iff,h x]
def restR(reps ex:List Rep):List Rep:=reps.filter fun x=> !memB x ex
theorem mem_restR{reps ex:List Rep}{x:Rep}:x∈restR reps ex↔x∈reps∧x∉ex:=by
 unfold restR;rw[List.mem_filter];constructor
 ·rintro⟨h1,h2⟩
  exact⟨h1,fun hc=>by rw[memB_iff.2 hc]at h2;cases h2⟩
 ·rintro⟨h1,h2⟩
  exact⟨h1,by rw[memB_false h2];rfl⟩
theorem cnt_restR(reps ex:List Rep)(x:Rep):cntB x (restR reps ex)=if memB x ex then 0 else cntB x reps:=by
 unfold cntB
 cases h:memB x ex with
 | true=>
  rw[if_pos rfl,List.count_eq_zero];exact fun hc=>(mem_restR.1 hc).2 (memB_iff.1 h)
 | false=>
  rw[if_neg (by simp)];unfold restR;exact List.count_filter (by rw[h];rfl)
theorem CntMap.rest{w:World}{b n:Nat}{ks:List Rep}{f:Rep→Int}{reps ex:List Rep}(h:OnMap KR w b n ks f)(hk:∀x,x∈ks↔x∈reps∧x∉ex)(hf:∀x,f x=if memB x ex then 0 else(cntB x reps:Int)):CntMap KR w b (restR reps ex):=by
 have h2:=h.tight;refine⟨ks.length,len_le _ _ h.nodup fun x hx=>mem_restR.2 ((hk x).1 hx),?_⟩;obtain⟨D,h3,h4⟩:=h2;refine⟨D,h3,h4.perm (nodup_fold _ _ List.nodup_nil) (fun x=>by rw[fold_mem,mem_restR,hk x]) fun x _=> ?_⟩;rw[hf x,cnt_restR];split<;>rfl
set_option maxHeartbeats 4000000 in
theorem replace_yes(L:List CsV)(reps:List Rep)(u:ByteArray)(g mb:Nat)(A:Option Addr)(c:Nat)(w:World)(hg:Blk w g 103 #[.slice A L.length c,.map (some mb)])(h:RdCs w w.heap.size A L)(ok:∀x∈L,OkC x.c)(hl:L.length≤100000)(hn:∀x∈L,x.c.needs.length≤1000)(hm:CntMap KR w mb reps)(hk:okV (csOf L)=true)
 (hu:u.size≤maxLen) (hun:memB u (accV (csOf L) reps)=true):
 Calls Tryz.prog 11 #[.pointer (some ⟨g,0,none⟩),.string u] w fun e w'=>e= .returned (.tuple #[.int .i64 ((explV L reps (accV (csOf L) reps) u).foldl addU []).length,.int .i64 0])∧CntMap KR w' mb (restR reps (explV L reps (accV (csOf L) reps) u))∧w.grownBy w' (some mb):=by
 have hmade:=made_c g A L.length c (some mb) w hg;have hac:=accused_c L reps mb A c w.drew (h.to_ (Nat.le_refl _) fun _ _ _=>rfl) ok hl hm.drew;have hHeld:w.drew.cell? ⟨g,0,none⟩=some (.slice A L.length c)∧w.drew.cell? ⟨g,1,none⟩=some (.map (some mb)):=⟨hg.cell 0,hg.cell 1⟩;have hz:=cnt_eq0 u (accV (csOf L) reps);rw[hun,Bool.not_true]at hz;have hgne:g≠mb:=fun e=>by
  obtain⟨es,clock,ho⟩:=hm.obj;rw[←e,show w.heap[g]?=_ from hg]at ho
  cases ho
 have hexp:=fun W b2 (hh:RdCs W W.heap.size A L) (hm1:CntMap KR W mb reps) (hm2:CntMap KS W b2 (accV (csOf L) reps))=>explained_c L reps (accV (csOf L) reps) mb b2 u A c W hh ok hl hn hm1 hm2 hu
 have Hmade:=lz hmade;have Hac:=lz hac;have Hk:=lz hk;have H:=lz h;have Hm:=lz hm;have Hg:=lz hg;have Hexp:=lz hexp;have hltm:=hm.lt;have hltg:=hg.lt;clear hg h ok hn hm hmade hac hk hun hexp;generalize accV (csOf L) reps=acc at *;go_enter Tryz.func11,Tryz.ntmps11;go_wp2_with (go_at_call 33;refine Hmade.out.mono ?_;rintro e w' ⟨rfl,rfl⟩);refine wp_region_S (fun W'=>W'.cell? ⟨g,0,none⟩=some (.slice A L.length c)∧W'.cell? ⟨g,1,none⟩=some (.map (some mb))) 15 kz hHeld (fun hHeld=> ?_);refine wpAnyS_take (i:=0) (v:= ?_) rfl kz kz kz kz (fun c a w h=>h) (Or.inl ⟨by rfl,?_⟩) hHeld ?_;rotate_left
 ·intro w hSw
  (try obtain⟨hSw1,hSw2⟩:=hSw)
  exact gz
 simp only[zP,zA,zB,zC];refine wpAnyS_take (i:=1) (v:= ?_) rfl kz kz kz kz (fun c a w h=>h) (Or.inl ⟨by rfl,?_⟩) hHeld ?_;rotate_left
 ·intro w hSw
  (try obtain⟨hSw1,hSw2⟩:=hSw)
  exact gz
 simp only[zP,zA,zB,zC];refine wpAnyS_take (i:=2) (v:= ?_) rfl kz kz kz kz (fun c a w h=>h) (Or.inl ⟨by rfl,?_⟩) hHeld ?_;rotate_left
 ·intro w hSw
  (try obtain⟨hSw1,hSw2⟩:=hSw)
  exact gz
 simp only[zP,zA,zB,zC];refine wpAnyS_take (i:=3) (v:= ?_) rfl kz kz kz kz (fun c a w h=>h) (Or.inl ⟨by rfl,?_⟩) hHeld ?_;rotate_left
 ·intro w hSw
  (try obtain⟨hSw1,hSw2⟩:=hSw)
  exact gz
 simp only[zP,zA,zB,zC];refine wpAnyS_take (i:=4) (v:= ?_) rfl kz kz kz kz (fun c a w h=>h) (Or.inl ⟨by rfl,?_⟩) hHeld ?_;rotate_left
 ·intro w hSw
  (try obtain⟨hSw1,hSw2⟩:=hSw)
  exact gz
 simp only[zP,zA,zB,zC];refine wpAnyS_take (i:=5) (v:= ?_) rfl kz kz kz kz (fun c a w h=>h) (Or.inl ⟨by rfl,?_⟩) hHeld ?_;rotate_left
 ·intro w hSw
  (try obtain⟨hSw1,hSw2⟩:=hSw)
  exact gz
 simp only[zP,zA,zB,zC];refine wpAnyS_take (i:=6) (v:= ?_) rfl kz kz kz kz (fun c a w h=>h) (Or.inl ⟨by rfl,?_⟩) hHeld ?_;rotate_left
 ·intro w hSw
  (try obtain⟨hSw1,hSw2⟩:=hSw)
  exact gz
 simp only[zP,zA,zB,zC];refine wpAnyS_take (i:=7) (v:= ?_) rfl kz kz kz kz (fun c a w h=>h) (Or.inl ⟨by rfl,?_⟩) hHeld ?_;rotate_left
 ·intro w hSw
  (try obtain⟨hSw1,hSw2⟩:=hSw)
  exact gz
 simp only[zP,zA,zB,zC];refine RQ 8 rfl fun K hK=> ?_;go_simp;refine Hac.out.mono ?_;rintro e w5 ⟨hb5,he⟩;rw[Hk.out]at he;simp only[if_true]at he;obtain⟨A',c',b',rfl,hrd,hm'⟩:=he;have hc5:=fun(p:Addr) (x:Value) (hp:w.drew.cell? p=some x)=>(hb5.cell (p:=p) (World.block_lt_of_cell? _ _ hp)).trans hp
 have hHeld5:=And.intro (hc5 _ _ hHeld.1) (hc5 _ _ hHeld.2);have hbb:Below w.heap.size w w5:=⟨hb5.os,hb5.tape,hb5.output,hb5.size,hb5.block⟩;have HB:=lz hbb;have HM':=lz hm';refine hK.out _ _ (fun _=>hHeld5) ?_;clear hK hc5 hbb hrd hm' hb5 Hac hHeld;refine wpAnyS_takeT (i:=9) (v:= ?_) rfl kz kz kz (by decide) (fun c a w h=>h) (Or.inl ⟨by rfl,?_⟩) hHeld5 ?_;rotate_left
 ·intro w hSw
  exact gz
 simp only[zP,zA,zB,zC];refine wpAnyS_takeT (i:=10) (v:= ?_) rfl kz kz kz (by decide) (fun c a w h=>h) (Or.inl ⟨by rfl,?_⟩) hHeld5 ?_;rotate_left
 ·intro w hSw
  exact gz
 simp only[zP,zA,zB,zC];refine wpAnyS_takeT (i:=11) (v:= ?_) rfl kz kz kz (by decide) (fun c a w h=>h) (Or.inl ⟨by rfl,?_⟩) hHeld5 ?_;rotate_left
 ·intro w hSw
  exact gz
 simp only[zP,zA,zB,zC];refine wpAnyS_takeT (i:=12) (v:= ?_) rfl kz kz kz (by decide) (fun c a w h=>h) (Or.inl ⟨by rfl,?_⟩) hHeld5 ?_;rotate_left
 ·intro w hSw
  exact gz
 simp only[zP,zA,zB,zC];refine RQ 13 rfl fun K hK=> ?_;go_simp;refine hK.out _ _ (fun _=>hHeld5) ?_;clear hK;refine RQ 14 rfl fun K hK=> ?_;go_simp;refine hK.out _ _ (fun _=>hHeld5) ?_;clear hK;refine RQ 15 rfl fun K hK=> ?_;go_simp;refine hK.out _ _ (fun h=>absurd h (by decide)) ?_;clear hK;refine wpAnyS_done kz ?_ _;go_wp2_with (at_lookup;refine wpList_cnt (M:=KS) rfl (.tmp 27) (.tmp 28) rfl rfl HM'.out u hu rfl ?_);have hB6:Below w.heap.size w w5.drew:=HB.out.drew;have hs5:=HB.out.size;have Hex:=lz (Hexp.out w5.drew b' ((H.out.keep hB6).more hs5) (Hm.out.below hB6 hltm) HM'.out.drew);have hHeld6:w5.drew.cell? ⟨g,0,none⟩=some (.slice A L.length c)∧w5.drew.cell? ⟨g,1,none⟩=some (.map (some mb)):=hHeld5;clear Hexp HM' hHeld5;refine wp_region_S (fun W'=>W'.cell? ⟨g,0,none⟩=some (.slice A L.length c)∧W'.cell? ⟨g,1,none⟩=some (.map (some mb))) 11 kz hHeld6 (fun hHeld6=> ?_);refine wpAnyS_take (i:=0) (v:= ?_) rfl kz kz kz kz (fun c a w h=>h) (Or.inl ⟨by rfl,?_⟩) hHeld6 ?_;rotate_left
 ·intro w hSw
  (try obtain⟨hSw1,hSw2⟩:=hSw)
  exact gz
 simp only[zP,zA,zB,zC];refine wpAnyS_take (i:=1) (v:= ?_) rfl kz kz kz kz (fun c a w h=>h) (Or.inl ⟨by rfl,?_⟩) hHeld6 ?_;rotate_left
 ·intro w hSw
  (try obtain⟨hSw1,hSw2⟩:=hSw)
  exact gz
 simp only[zP,zA,zB,zC];refine wpAnyS_take (i:=2) (v:= ?_) rfl kz kz kz kz (fun c a w h=>h) (Or.inl ⟨by rfl,?_⟩) hHeld6 ?_;rotate_left
 ·intro w hSw
  (try obtain⟨hSw1,hSw2⟩:=hSw)
  exact gz
 simp only[zP,zA,zB,zC];refine wpAnyS_take (i:=3) (v:= ?_) rfl kz kz kz kz (fun c a w h=>h) (Or.inl ⟨by rfl,?_⟩) hHeld6 ?_;rotate_left
 ·intro w hSw
  (try obtain⟨hSw1,hSw2⟩:=hSw)
  exact gz
 simp only[zP,zA,zB,zC];refine wpAnyS_take (i:=4) (v:= ?_) rfl kz kz kz kz (fun c a w h=>h) (Or.inl ⟨by rfl,?_⟩) hHeld6 ?_;rotate_left
 ·intro w hSw
  (try obtain⟨hSw1,hSw2⟩:=hSw)
  exact gz
 simp only[zP,zA,zB,zC];refine wpAnyS_take (i:=5) (v:= ?_) rfl kz kz kz kz (fun c a w h=>h) (Or.inl ⟨by rfl,?_⟩) hHeld6 ?_;rotate_left
 ·intro w hSw
  (try obtain⟨hSw1,hSw2⟩:=hSw)
  exact gz
 simp only[zP,zA,zB,zC];refine wpAnyS_take (i:=6) (v:= ?_) rfl kz kz kz kz (fun c a w h=>h) (Or.inl ⟨by rfl,?_⟩) hHeld6 ?_;rotate_left
 ·intro w hSw
  (try obtain⟨hSw1,hSw2⟩:=hSw)
  exact gz
 simp only[zP,zA,zB,zC];refine wpAnyS_take (i:=7) (v:= ?_) rfl kz kz kz kz (fun c a w h=>h) (Or.inl ⟨by rfl,?_⟩) hHeld6 ?_;rotate_left
 ·intro w hSw
  (try obtain⟨hSw1,hSw2⟩:=hSw)
  exact gz
 simp only[zP,zA,zB,zC];refine wpAnyS_take (i:=8) (v:= ?_) rfl kz kz kz kz (fun c a w h=>h) (Or.inl ⟨by rfl,?_⟩) hHeld6 ?_;rotate_left
 ·intro w hSw
  (try obtain⟨hSw1,hSw2⟩:=hSw)
  exact gz
 simp only[zP,zA,zB,zC];refine wpAnyS_take (i:=9) (v:= ?_) rfl kz kz kz kz (fun c a w h=>h) (Or.inl ⟨by rfl,?_⟩) hHeld6 ?_;rotate_left
 ·intro w hSw
  (try obtain⟨hSw1,hSw2⟩:=hSw)
  exact gz
 simp only[zP,zA,zB,zC];refine RQ 10 rfl fun K hK=> ?_;go_simp;refine Hex.out.mono ?_;rintro e w7 ⟨rfl,hm7,hb7⟩;have hc7:=fun(p:Addr) (x:Value) (hp:w5.drew.cell? p=some x)=>(hb7.cell (p:=p) (World.block_lt_of_cell? _ _ hp)).trans hp
 have hHeld7:=And.intro (hc7 _ _ hHeld6.1) (hc7 _ _ hHeld6.2);have hbb:Below w.heap.size w w7:=hB6.trans (hb7.mono hs5);have HB7:=lz hbb;have HM7:=lz hm7;refine hK.out _ _ (fun _=>hHeld7) ?_;clear hK hc7 hbb hm7 hb7 Hex hHeld6;refine RQ 11 rfl fun K hK=> ?_;go_simp;refine hK.out _ _ (fun h=>absurd h (by decide)) ?_;clear hK;refine wpAnyS_done kz ?_ _;obtain⟨n4,_,hOe⟩:=HM7.out;obtain⟨w8,cnt,hrun,hrg,hg8,hs8⟩:=hOe.range;obtain⟨n5,_,hOm⟩:=Hm.out;have hOm8:OnMap KR w8 mb n5 (reps.foldl addU []) (fun x=>(cntB x reps:Int)):=(hOm.below HB7.out hltm).kept hg8 (by simp);have hgb8:w.grownBy w8 (some mb):=only_grow (only_of_below HB7.out (some mb)) hg8 (fun r e=>by cases e);have hbe:w5.drew.heap.size+2=w5.heap.size+2:=rfl;have hs7:=HB7.out.size;have hlr:=hrg.lt;obtain⟨be,hbee⟩:∃be,be=w5.heap.size+2:=⟨_,rfl⟩;rw[hbe,←hbee]at hrg hrun;have hrun:(Instr.range 101 (.map (some be))).run Tryz.prog w7= .ok (.pointer (some ⟨w7.heap.size,0,none⟩)) w8:=hrun;have hbw:w.heap.size+2≤be:=by omega
 have hke:∀x,x∈(explV L reps acc u).foldl addU []↔x∈explV L reps acc u:=fun x=>fold_mem
 have HI:=lz (And.intro hrg (And.intro hOm8 hgb8));have Hke:=lz hke;rw[←hbee];clear hOe hrg hg8 hOm hOm8 hgb8 hke hHeld7 HM7 hbe hbee;go_wp2_with fail;go_loopw [10] (fun _ wx=>∃(got:List Rep) (cnt:Nat) (kt:List Rep) (ft:Rep→Int),Rng KR wx be w7.heap.size ((explV L reps acc u).foldl addU []) (fun x=>(cntB x (explV L reps acc u):Int)) got cnt∧OnMap KR wx mb n5 kt ft∧(∀x,x∈kt↔x∈reps∧x∉got)∧(∀x,ft x=if memB x got then 0 else(cntB x reps:Int))∧w.grownBy wx (some mb)) (fun _ wx=>wx.rangeLeft be w7.heap.size)
 case atStart=>exact⟨[],cnt,_,_,HI.out.1,HI.out.2.1,fun x=>by rw[fold_mem];simp,fun x=>rfl,HI.out.2.2⟩
 case round=>
  clear hrun HI;obtain⟨got,cnt,kt,ft,hrg,hOt,hkt,hft,hGt⟩:=hrel;have hle:=hrg.left_eq;rcases hrg.next 0 with⟨hall,hrun⟩ | ⟨x,c,w6,cnt2,hx,hxk,hxg,hrun0,hrg2,hlt2,hg2,hs2,hen0⟩
  ·have hge:∀x,x∈got↔x∈explV L reps acc u:=fun x=>⟨fun h=>(Hke.out x).1 (hrg.sub x h),fun h=>hall x ((Hke.out x).2 h)⟩
   have hcr:CntMap KR wr mb (restR reps (explV L reps acc u)):=CntMap.rest hOt (fun x=>by rw[hkt x,hge x]) (fun x=>by rw[hft x,restR_ext hge x]);obtain⟨n6,hOb⟩:=hrg.onMap;have hlen:∀ty,(Builtin.len_ #[101] ty #[.map (some be)]).run Tryz.prog wr= .ok (.int .i64 ((explV L reps acc u).foldl addU []).length) wr:=fun ty=>hOb.run_len ty
   have HR:=lz (And.intro hcr hGt);clear hrg hOt hkt hft hGt hle hge hcr hOb;go_wp2_with fail;refine bodyPost_ret (results_tmp2 rfl _ _ _) rfl ?_;exact⟨rfl,HR.out⟩
  ·have hlr2:=hrg.lt
   have hO6:=hOt.kept hg2 (by simp;omega);have hG6:w.grownBy w6 (some mb):=only_grow hGt hg2 (fun r e=>by cases e;right;omega);have hO7:=(hO6.alloc (.cells #[.string x.unit,.int .i64 x.code] 41)).drew;have hrg7:Rng KR (w6.alloc (.cells #[.string x.unit,.int .i64 x.code] 41)).drew be w7.heap.size _ _ _ _:=(hrg2.alloc (.cells #[.string x.unit,.int .i64 x.code] 41)).same rfl rfl;obtain⟨w9,hdel,hO8,htu⟩:=hO7.run_del hx 0;have hg9:=htu.grown;have hdel:(Builtin.delete_ #[101,41] 0 #[.map (some mb),.agg #[.string x.unit,.int .i64 x.code]]).run Tryz.prog (w6.alloc (.cells #[.string x.unit,.int .i64 x.code] 41)).drew= .ok (.tuple #[]) w9:=hdel;have hen:(Instr.entry (.pointer (some ⟨w7.heap.size,0,none⟩))).run Tryz.prog w6= .ok (.tuple #[.agg #[.string x.unit,.int .i64 x.code],.int .i64 c]) w6:=hen0;have hrun:(Instr.next (.pointer (some ⟨w7.heap.size,0,none⟩)) false 0).run Tryz.prog wr= .ok (.tuple #[.bool true,.agg #[.string x.unit,.int .i64 x.code],.int .i64 c]) w6:=hrun0;have hnew:∀z,z∈kt.erase x↔z∈reps∧z∉got++ [x]:=fun z=>by
    rw[List.Nodup.mem_erase_iff hO7.nodup,hkt z];simp only[List.mem_append,List.mem_singleton,not_or];exact⟨fun⟨a,b,c⟩=>⟨b,c,a⟩,fun⟨b,c,a⟩=>⟨a,b,c⟩⟩
   have hnf:∀z,setF ft x 0 z=if memB z (got++ [x])then 0 else(cntB z reps:Int):=fun z=>by
    unfold setF;by_cases e:z=x
    ·subst e
     rw[if_pos rfl,if_pos (memB_iff.2 (by simp))]
    ·rw[if_neg e,hft z]
     have:memB z (got++ [x])=memB z got:=by rw[Bool.eq_iff_iff,memB_iff,memB_iff];simp[e]
     rw[this]
   have hrg8:=hrg7.kept hg9 (by simp;omega) (by simp;omega);have hG9:w.grownBy w9 (some mb):=only_grow (only_alloc hG6 (.cells #[.string x.unit,.int .i64 x.code] 41)) (row:=some mb) ⟨hg9.os,hg9.tape,hg9.output,hg9.size,hg9.block⟩ (fun r e=>by cases e;exact .inl rfl);have b0:=(Blk.new w6 41 #[.string x.unit,.int .i64 x.code]).cell 0;have b1:=(Blk.new w6 41 #[.string x.unit,.int .i64 x.code]).cell 1;have hg6':=(Hg.out.grown hG6 (by simp;exact hgne)).alloc (.cells #[.string x.unit,.int .i64 x.code] 41);have b2:=hg6'.cell 1;have Hle8:=lz hrg8.left_eq;have HR:=lz (And.intro hrg8 (And.intro hO8 (And.intro hnew (And.intro hnf hG9))));have Hle:=lz hle;clear hrg hOt hkt hft hGt hrun0 hen0 hrg2 hO6 hG6 hO7 hrg7 hO8 htu hg9 hnew hnf hrg8 hG9 hle hg2 hg6';go_wp2_with fail;go_region;go_wp2_with fail;go_roundw
   case rel=>exact⟨_,_,_,_,HR.out⟩
   case measure=>rw[Hle8.out,Hle.out];exact hlt2
theorem info33:(Tryz.prog.info? 48).map (fun i=>(i.zero,i.size,i.bytes))=some (some (.agg #[.string ⟨#[]⟩,.slice none 0 0,.slice none 0 0]),3,64):=by kernel_rfl
def CsV.cells(x:CsV):List Value:= [.string x.c.unit,.slice x.n.a x.n.n x.n.c,.slice x.x.a x.x.n x.x.c]
theorem cellsC_get:∀(l:List CsV) (i:Nat) (h:i<l.length),(l.flatMap CsV.cells)[i*3]?=some (.string l[i].c.unit)∧(l.flatMap CsV.cells)[i*3+1]?=some l[i].n.val∧(l.flatMap CsV.cells)[i*3+2]?=some l[i].x.val
 | r :: l,0,_=>⟨rfl,rfl,rfl⟩
 | r :: l,i+1,h=>by
  have ih:=cellsC_get l i (by simpa using h);have e:∀j,(List.flatMap CsV.cells (r :: l))[j+3]?=(List.flatMap CsV.cells l)[j]?:=fun j=>by simp[CsV.cells]
  rw[show(i+1)*3=i*3+3 from by omega,show i*3+3+1=i*3+1+3 from by omega,show i*3+3+2=i*3+2+3 from by omega,e,e,e];simpa using ih
structure OwnCs(W:World)(B:Nat)(x:CsV):Prop where
 nl:x.n.n=x.c.needs.length
 nc:x.n.n≤x.n.c
 nm:x.n.c≤maxLen
 n:W.ownsRow B 41 2 (.slice x.n.a x.n.n x.n.c) x.c.needs.length (x.c.needs.flatMap Rep.cells)
 xl:x.x.n=x.c.excl.length
 xc:x.x.n≤x.x.c
 xm:x.x.c≤maxLen
 x:W.ownsRow B 9 1 (.slice x.x.a x.x.n x.x.c) x.c.excl.length (x.c.excl.map Value.string)
theorem OwnCs.rd{W:World}{B:Nat}{x:CsV}(h:OwnCs W B x):x.rd W W.heap.size:=by
 obtain⟨h1,h2,h3,h4,h5,h6,h7,h8⟩:=h;rw[h1]at h4;rw[h5]at h8;exact⟨h1,h2,h3,rdRep_of_own h4,h5,h6,h7,rdStr_of_own h8⟩
structure NewSt(w:World)(B:Nat)(L:List CsV)(v:Value)(W:World):Prop where
 below:Below B w W
 size:B≤W.heap.size
 own:W.ownsRow B 48 3 v L.length (L.flatMap CsV.cells)
 subs:∀x∈L,OwnCs W B x
theorem OwnCs.kept{W W':World}{B:Nat}{x:CsV}{row:Option Nat}(h:OwnCs W B x)(hg:W.grownBy W' row)(hr:∀r,row=some r→∃cur t,W.heap[r]?=some (.cells cur t (0,0))∧t≠41∧t≠9):OwnCs W' B x:=by
 have key:∀{e s n:Nat} {v:Value} {xs:List Value},W.ownsRow B e s v n xs→(e=41∨e=9)→W'.ownsRow B e s v n xs:=fun{e s n v xs} ho he=>ho.kept hg (by
  cases row with
  | none=>
   rcases ho.2 with⟨rfl,_⟩ | ⟨g,cap,cur,rfl,_⟩
   ·exact .inl rfl
   ·exact .inr (fun e=>by simp[Value.ownBlock]at e)
  | some r=>
   obtain⟨cur,t,hh,h46,h9⟩:=hr r rfl;exact .inr (own_blk_ne ho (show Blk W r t cur from hh) (by rcases he with rfl | rfl<;>(first | exact Ne.symm h46 | exact Ne.symm h9))))
 exact⟨h.nl,h.nc,h.nm,key h.n (.inl rfl),h.xl,h.xc,h.xm,key h.x (.inr rfl)⟩
theorem NewSt.next{w W W':World}{B:Nat}{L:List CsV}{v:Value}(h:NewSt w B L v W)(hb:Below W.heap.size W W'):NewSt w B L v W':=
 ⟨h.below.trans (hb.mono h.size),Nat.le_trans h.size hb.size,own_keep h.own (below_grown (row:=none) hb) (fun r e=>by cases e),fun x hx=>(h.subs x hx).kept (below_grown (row:=none) hb) (fun r e=>by cases e)⟩
theorem NewSt.rd{w W:World}{B:Nat}{L:List CsV}{A:Option Addr}{c:Nat}(h:NewSt w B L (.slice A L.length c) W):RdCs W W.heap.size A L:=fun hn=>by
 obtain⟨g,cap,hv,_,hlt⟩:=h.own.form hn;have hA:A=some ⟨g,0,none⟩:=by injection hv
 subst hA;refine⟨g,0,rfl,hlt,fun i hi=> ?_⟩;obtain⟨q0,q1,q2⟩:=cellsC_get L i hi;have c0:=h.own.cells (g:=g) rfl _ _ q0;have c1:=h.own.cells (g:=g) rfl _ _ q1;have c2:=h.own.cells (g:=g) rfl _ _ q2;rw[add_none]at c0 c1 c2;exact⟨by simpa using c0,by simpa using c1,by simpa using c2,(h.subs _ (List.getElem_mem hi)).rd⟩
theorem NewSt.step{w Wc wo:World}{B:Nat}{L:List CsV}{v v':Value}{x:CsV}{o:Obj}(h:NewSt w B L v Wc)(hx:OwnCs Wc B x)(hown:wo.ownsRow B 48 3 v' (L.length+1) (L.flatMap CsV.cells++x.cells))(hg2:(Wc.alloc o).grownBy wo v.ownBlock):NewSt w B (L++ [x]) v' wo:=by
 have h1:=h.next (W':=Wc.alloc o) ((Below.refl _ _).alloc (Nat.le_refl _) _)
 have hx1:=hx.kept (World.grownBy_alloc Wc o none) (fun r e=>by cases e);have hr:∀r,v.ownBlock=some r→∃cur t,(Wc.alloc o).heap[r]?=some (.cells cur t (0,0))∧t≠41∧t≠9:=fun r e=>by
  rcases h1.own.2 with⟨rfl,_⟩ | ⟨g,cap,cur,rfl,_,hh,_⟩
  ·cases e
  ·simp[Value.ownBlock]at e
   subst e;exact⟨cur,48,hh,by decide,by decide⟩
 refine⟨h1.below.grown hg2 h1.size (fun g hg=>(h1.own.lt g hg).1),Nat.le_trans h1.size hg2.size,by simpa using hown,fun y hy=> ?_⟩;rcases List.mem_append.1 hy with hy | hy
 ·exact(h1.subs y hy).kept hg2 hr
 ·simp at hy;subst hy;exact hx1.kept hg2 hr
end Go.Proofs.YtchfcgilpjkmhaaGreatDoor
