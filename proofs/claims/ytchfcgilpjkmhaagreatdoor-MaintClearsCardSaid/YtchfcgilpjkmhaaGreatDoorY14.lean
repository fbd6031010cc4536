import Derived.Test.YtchfcgilpjkmhaaGreatDoorY9
import Derived.Test.YtchfcgilpjkmhaaGreatDoorY13
import Derived.Test.YtchfcgilpjkmhaaGreatDoorY10
import Derived.Test.YtchfcgilpjkmhaaGreatDoorY0
import Derived.Test.YtchfcgilpjkmhaaGreatDoorY1
set_option maxRecDepth 100000
set_option linter.unusedSimpArgs false
set_option linter.unusedVariables false
set_option linter.unusedSectionVars false
namespace Go.Proofs.YtchfcgilpjkmhaaGreatDoor
open Go.ChangeShapes Go.WideShapes Go.ChangeAt Go.RowKit
attribute [local go_sem] Oper.semAt_some
open Go.Act renaming put → zP
open List renaming setIfInBounds_toArray → zA, set_cons_zero → zB, set_cons_succ → zC
abbrev cfgV(v0 v1 v2 v3 v4 v5:Value)(A:Option Addr)(n c:Nat)(v7:Value):Value:= .agg #[v0,v1,v2,v3,v4,v5,.slice A n c,v7]
set_option maxHeartbeats 4000000 in
theorem New_c3(L:List CsV)(v0 v1 v2 v3 v4 v5 v7:Value)(A:Option Addr)(c:Nat)(w:World)(h:RdCs w w.heap.size A L)(hl:L.length≤1000)(hn:∀x∈L,x.c.needs.length≤1000)(hxl:∀x∈L,x.c.excl.length≤1000)
 (hchk:∀W,Below w.heap.size w W→CU 7 #[cfgV v0 v1 v2 v3 v4 v5 A L.length c v7] W (.int .i64 0)):
 Calls Tryz.prog 6 #[cfgV v0 v1 v2 v3 v4 v5 A L.length c v7] w fun e w'=>∃g mb A' c' L',e= .returned (.tuple #[.pointer (some ⟨g,0,none⟩),.int .i64 0])∧Blk w' g 103 #[.slice A' L'.length c',.map (some mb)]∧RdCs w' w'.heap.size A' L'∧csOf L'=csOf L∧CntMap KR w' mb []∧w.heap.size≤mb∧w.heap.size≤g∧Below w.heap.size w w'∧NewSt w w.heap.size L' (.slice A' L'.length c') w':=by
 have hz:(w.alloc (.cells #[v0,v1,v2,v3,v4,v5,.slice A L.length c,v7] 31)).heap.size=w.heap.size+1:=by simp
 have Hc1:=lz (hchk (w.alloc (.cells #[v0,v1,v2,v3,v4,v5,.slice A L.length c,v7] 31)) ((Below.refl _ _).alloc (Nat.le_refl _) _));have hbk:=Blk.new w 31 #[v0,v1,v2,v3,v4,v5,.slice A L.length c,v7];have Hbk:=lz hbk;have H:=lz h;have Hn:=lz hn;have Hxl:=lz hxl;have hmk:= @run_makeMap Tryz.prog;have k0:=hbk.cell 0;have k1:=hbk.cell 1;have k2:=hbk.cell 2;have k3:=hbk.cell 3;have k4:=hbk.cell 4;have k5:=hbk.cell 5;have k6:=hbk.cell 6;have k7:=hbk.cell 7;clear hbk h hn hxl hchk hz;go_enter Tryz.func6,Tryz.ntmps6;go_wp2_with fail;refine Hc1.out.mono ?_;rintro e w1 ⟨rfl,hb1⟩;have hbk1:=Hbk.out.below hb1 (by simp);have j6:=hbk1.cell 6;have HB1:Hid (Below w.heap.size w w1):=lz (((Below.refl _ w).alloc (Nat.le_refl _) (.cells #[v0,v1,v2,v3,v4,v5,.slice A L.length c,v7] 31)).trans (hb1.mono (by simp)));clear k0 k1 k2 k3 k4 k5 k6 k7 hb1 hbk1 Hc1;go_wp2_with fail;go_loopw [4,13] (fun v t wr=>∃(k:Nat) (L':List CsV),k≤L.length∧t= .int .i64 k∧csOf L'=csOf (L.take k)∧NewSt w1 w1.heap.size L' v wr) (fun _ t wr=>L.length-(intOf t).toNat)
 case atStart=>exact⟨0,[],Nat.zero_le _,rfl,rfl,Below.refl _ _,Nat.le_refl _,World.ownsRow_nil _ _ _ _,fun x h=>absurd h (by simp)⟩
 case round=>
  obtain⟨k,L',hk,rfl,hL',hS⟩:=hrel;obtain⟨Av,cv,rfl,_⟩:=own_caps hS.own;by_cases hlt:k<L.length
  ·have hwr:=HB1.out.trans (hS.below.mono HB1.out.size)
   obtain⟨bo,oo,rfl,hb,hc⟩:=(H.out.keep hwr) (by omega);obtain⟨d0,d1,d2,hx⟩:=hc k hlt;have hny:=Hn.out _ (List.getElem_mem hlt);have hxy:=Hxl.out _ (List.getElem_mem hlt);have hbw:bo<wr.heap.size:=World.block_lt_of_cell? wr _ d0;have htk:csOf (L.take (k+1))=csOf L'++ [L[k].c]:=by rw[hL'];unfold csOf;rw[List.take_succ_eq_append_getElem hlt,List.map_append];rfl
   have hll:L'.length≤1000:=by have:=congrArg List.length hL';simp at this;omega
   have hxr:=hx.more (B':=wr.heap.size) (by have:=hwr.size;omega);have Htk:=lz htk;have HS:=lz hS;have hsw:=hS.size;clear hwr hc hx htk hL' hS;generalize L[k]=x at *;have Hx:=lz hxr;have e1:wr.cell? ⟨bo,oo+k*3+1,none⟩=some (.slice x.n.a x.c.needs.length x.n.c):=by rw[←hxr.nl];exact d1
   have e2:wr.cell? ⟨bo,oo+k*3+2,none⟩=some (.slice x.x.a x.c.excl.length x.x.c):=by rw[←hxr.xl];exact d2
   clear d1 d2;obtain⟨w2,hw2⟩:∃w2,w2=wr.alloc (.cells #[.string x.c.unit,.slice x.n.a x.c.needs.length x.n.c,.slice x.x.a x.c.excl.length x.x.c] 48):=⟨_,rfl⟩;have hB2:Below wr.heap.size wr w2:=by rw[hw2];exact(Below.refl _ _).alloc (Nat.le_refl _) _
   have hbx:Blk w2 wr.heap.size 48 #[.string x.c.unit,.slice x.n.a x.c.needs.length x.n.c,.slice x.x.a x.c.excl.length x.x.c]:=by rw[hw2];exact Blk.new wr _ _
   have hHeld:w2.drew.cell? ⟨wr.heap.size,0,none⟩=some (.string x.c.unit)∧w2.drew.cell? ⟨wr.heap.size,1,none⟩=some (.slice x.n.a x.c.needs.length x.n.c)∧w2.drew.cell? ⟨wr.heap.size,2,none⟩=some (.slice x.x.a x.c.excl.length x.x.c):=⟨hbx.cell 0,hbx.cell 1,hbx.cell 2⟩;have HB2:=lz hB2;have HW2:=lz hw2;clear hxr hB2 hbx hw2;go_wp2_with fail;rw[←HW2.out];refine wp_region_S (fun W'=>W'.cell? ⟨wr.heap.size,0,none⟩=some (.string x.c.unit)∧W'.cell? ⟨wr.heap.size,1,none⟩=some (.slice x.n.a x.c.needs.length x.n.c)∧W'.cell? ⟨wr.heap.size,2,none⟩=some (.slice x.x.a x.c.excl.length x.x.c)) 12 kz hHeld (fun hHeld=> ?_);refine wpAnyS_take (i:=0) (v:= ?_) rfl kz kz kz kz (fun c a w h=>h) (Or.inl ⟨by rfl,?_⟩) hHeld ?_;rotate_left
   ·intro w hSw
    (try obtain⟨hSw1,hSw2,hSw3⟩:=hSw)
    exact gz
   simp only[zP,zA,zB,zC];refine wpAnyS_take (i:=1) (v:= ?_) rfl kz kz kz kz (fun c a w h=>h) (Or.inl ⟨by rfl,?_⟩) hHeld ?_;rotate_left
   ·intro w hSw
    (try obtain⟨hSw1,hSw2,hSw3⟩:=hSw)
    exact gz
   simp only[zP,zA,zB,zC];refine wpAnyS_take (i:=2) (v:= ?_) rfl kz kz kz kz (fun c a w h=>h) (Or.inl ⟨by rfl,?_⟩) hHeld ?_;rotate_left
   ·intro w hSw
    (try obtain⟨hSw1,hSw2,hSw3⟩:=hSw)
    exact gz
   simp only[zP,zA,zB,zC];refine wpAnyS_take (i:=3) (v:= ?_) rfl kz kz kz kz (fun c a w h=>h) (Or.inl ⟨by rfl,?_⟩) hHeld ?_;rotate_left
   ·intro w hSw
    (try obtain⟨hSw1,hSw2,hSw3⟩:=hSw)
    exact gz
   simp only[zP,zA,zB,zC];refine wpAnyS_take (i:=4) (v:= ?_) rfl kz kz kz kz (fun c a w h=>h) (Or.inl ⟨by rfl,?_⟩) hHeld ?_;rotate_left
   ·intro w hSw
    (try obtain⟨hSw1,hSw2,hSw3⟩:=hSw)
    exact gz
   simp only[zP,zA,zB,zC];refine wpAnyS_take (i:=6) (v:= ?_) rfl kz kz kz kz (fun c a w h=>h) (Or.inl ⟨by rfl,?_⟩) hHeld ?_;rotate_left
   ·intro w hSw
    (try obtain⟨hSw1,hSw2,hSw3⟩:=hSw)
    exact gz
   simp only[zP,zA,zB,zC];refine wpAnyS_take (i:=7) (v:= ?_) rfl kz kz kz kz (fun c a w h=>h) (Or.inl ⟨by rfl,?_⟩) hHeld ?_;rotate_left
   ·intro w hSw
    (try obtain⟨hSw1,hSw2,hSw3⟩:=hSw)
    exact gz
   simp only[zP,zA,zB,zC];have hS2:=(HS.out.next HB2.out).next (W':=w2.drew) (Below.refl _ _).drew
   have Hcl:=lz (cloneRep_c x.c.needs x.n.a x.n.c w2.drew (Hx.out.below (w':=w2.drew) HB2.out.drew).n (by omega));refine RQ 5 rfl fun K hK=> ?_;go_simp;refine Hcl.out.mono ?_;rintro e W5 ⟨A5,c5,rfl,hn5,hm5,hown5,hb5⟩;have hc5:=fun(p:Addr) (x:Value) (hp:w2.drew.cell? p=some x)=>(hb5.cell (p:=p) (World.block_lt_of_cell? _ _ hp)).trans hp
   have hHeld5:=And.intro (hc5 _ _ hHeld.1) (And.intro (hc5 _ _ hHeld.2.1) (hc5 _ _ hHeld.2.2));have hS5:=hS2.next hb5
   have hcl2:=cloneStr_c x.c.excl x.x.a x.x.c W5 ((Hx.out.below (w':=w2.drew) HB2.out.drew).below hb5).x (by omega);have Hcl2:=lz hcl2;have HS5:=lz hS5;have hsz2:w1.heap.size≤w2.drew.heap.size:=hS2.size;have Hown5:=lz (own_base hown5 hsz2);refine hK.out _ _ (fun _=>hHeld5) ?_;clear hK hc5 hb5 hS5 hcl2 hS2 hown5 Hcl hHeld;refine RQ 8 rfl fun K hK=> ?_;go_simp;refine Hcl2.out.mono ?_;rintro e W8 ⟨A8,c8,rfl,hn8,hm8,hown8,hb8⟩;have hc8:=fun(p:Addr) (x:Value) (hp:W5.cell? p=some x)=>(hb8.cell (p:=p) (World.block_lt_of_cell? _ _ hp)).trans hp
   have hHeld8:=And.intro (hc8 _ _ hHeld5.1) (And.intro (hc8 _ _ hHeld5.2.1) (hc8 _ _ hHeld5.2.2));have hS8:=HS5.out.next hb8
   have hoc:OwnCs W8 w1.heap.size ⟨x.c,⟨A5,x.c.needs.length,c5⟩,⟨A8,x.c.excl.length,c8⟩⟩:=
    ⟨rfl,hn5,hm5,own_keep Hown5.out (below_grown (row:=none) hb8) (fun r e=>by cases e),rfl,hn8,hm8,own_base hown8 HS5.out.size⟩
   have HS8:=lz hS8;have Hoc:=lz hoc;refine hK.out _ _ (fun _=>hHeld8) ?_;clear hK hc8 hb8 hS8 hoc hown8 Hcl2 hHeld5 Hown5 HS5;refine wpAnyS_take (i:=9) (v:= ?_) rfl kz kz kz kz (fun c a w h=>h) (Or.inl ⟨by rfl,?_⟩) hHeld8 ?_;rotate_left
   ·intro w hSw
    (try obtain⟨hSw1,hSw2,hSw3⟩:=hSw)
    exact gz
   simp only[zP,zA,zB,zC];obtain⟨i0,hi0,hz0,hz1,hz3⟩:=info_parts info33;refine RQ 10 rfl fun K hK=> ?_;go_simp;have hal:=fun(p:Addr) (y:Value) (hp:W8.cell? p=some y)=>(World.cell?_alloc_lt W8 (.cells #[.string x.c.unit,.slice A5 x.c.needs.length c5,.slice A8 x.c.excl.length c8] 48) p (World.block_lt_of_cell? _ _ hp)).trans hp
   have hHeld9:=And.intro (hal _ _ hHeld8.1) (And.intro (hal _ _ hHeld8.2.1) (hal _ _ hHeld8.2.2));refine hK.out _ _ (fun _=>hHeld9) ?_;clear hK hal hHeld8;refine RQ 11 rfl fun K hK=> ?_;refine step_append_own (by rfl) (.tmp 17) (.tmp 27) 97 (by rfl) w1.heap.size 48 i0 (.agg #[.string ⟨#[]⟩,.slice none 0 0,.slice none 0 0]) 3 64 Tryz.underlying97 hi0 hz0 hz1 hz3 rfl (by decide) (.slice Av L'.length cv) L'.length _ (by rfl) (HS8.out.own.alloc _) ⟨W8.heap.size,0,none⟩ 1 1 [.string x.c.unit,.slice A5 x.c.needs.length c5,.slice A8 x.c.excl.length c8] (by rfl) (by rfl) ?c1 ?c2 ?c3 ?c4 ?c5 ?_
   case c1=>
    intro j u' hj;rw[addr_add_none,Nat.zero_add,(Blk.new W8 48 #[.string x.c.unit,.slice A5 x.c.needs.length c5,.slice A8 x.c.excl.length c8]).cell j];simpa using hj
   case c2=>intro u' hu';simp at hu';rcases hu' with rfl | rfl | rfl<;>rfl
   case c3=>unfold maxLen;omega
   case c4=>omega
   case c5=>have:=HS8.out.size;simp;omega
   intro v6 wo hown6 hg6;have HS9:=lz (HS8.out.step Hoc.out hown6 hg6);have hne:some wr.heap.size≠(Value.slice Av L'.length cv).ownBlock:=fun e=>by have:=(HS.out.own.lt _ e.symm).2;omega
   have hcw:=fun i (y:Value) (hp:(W8.alloc (.cells #[.string x.c.unit,.slice A5 x.c.needs.length c5,.slice A8 x.c.excl.length c8] 48)).cell? ⟨wr.heap.size,i,none⟩=some y)=>(World.cell?_of_block (a:=⟨wr.heap.size,i,none⟩) (hg6.block wr.heap.size (World.block_lt_of_cell? _ _ hp) hne)).trans hp
   have hHeld10:=And.intro (hcw _ _ hHeld9.1) (And.intro (hcw _ _ hHeld9.2.1) (hcw _ _ hHeld9.2.2));refine hK.out _ _ (fun _=>hHeld10) ?_;clear hK hHeld9 hcw hown6 hg6 HS8 Hoc hne;refine RQ 12 rfl fun K hK=> ?_;go_simp;refine hK.out _ _ (fun h=>absurd h (by decide)) ?_;clear hK;refine wpAnyS_done kz ?_ _;go_wp2_with fail;go_roundw
   case rel=>exact⟨k+1,_,by omega,by go_num,by rw[Htk.out];unfold csOf;rw[List.map_append];rfl,HS9.out⟩
   case measure=>simp[intOf];omega
  ·obtain rfl:k=L.length:=by omega
   rw[List.take_length]at hL';have HS:=lz hS;have HL':=lz hL';clear hS hL';go_wp2_with fail;refine bodyPost_ret (results_tmp2 rfl _ _ _) rfl ?_;have hb3:=HB1.out.trans (HS.out.below.mono HB1.out.size);have hz3:=hb3.size;have hbk:=Blk.new (wr.alloc (.map #[] 0)) 103 #[.slice Av L'.length cv,.map (some wr.heap.size)];rw[World.size_alloc]at hbk;have hbe:=((Below.refl _ wr).alloc (Nat.le_refl _) (.map #[] 0)).alloc (by simp) (.cells #[.slice Av L'.length cv,.map (some wr.heap.size)] 103);exact⟨wr.heap.size+1,wr.heap.size,Av,cv,L',rfl,hbk,HS.out.rd.below hbe,HL'.out,(CntMap.made wr).alloc _,hz3,by omega,hb3.trans (hbe.mono hz3),hb3.trans (hbe.mono hz3),by have:=(hb3.trans (hbe.mono hz3)).size;exact this,own_base (HS.out.next hbe).own HB1.out.size,fun x hx=>by
    have h:=(HS.out.next hbe).subs x hx;exact⟨h.nl,h.nc,h.nm,own_base h.n HB1.out.size,h.xl,h.xc,h.xm,own_base h.x HB1.out.size⟩⟩
theorem New_c(L:List CsV)(v0 v1 v2 v3 v4 v5 v7:Value)(A:Option Addr)(c:Nat)(w:World)(h:RdCs w w.heap.size A L)(hl:L.length≤1000)(hn:∀x∈L,x.c.needs.length≤1000)(hxl:∀x∈L,x.c.excl.length≤1000)
 (hchk:∀W,Below w.heap.size w W→CU 7 #[cfgV v0 v1 v2 v3 v4 v5 A L.length c v7] W (.int .i64 0)):
 Calls Tryz.prog 6 #[cfgV v0 v1 v2 v3 v4 v5 A L.length c v7] w fun e w'=>∃g mb A' c' L',e= .returned (.tuple #[.pointer (some ⟨g,0,none⟩),.int .i64 0])∧Blk w' g 103 #[.slice A' L'.length c',.map (some mb)]∧RdCs w' w'.heap.size A' L'∧csOf L'=csOf L∧CntMap KR w' mb []∧w.heap.size≤mb∧w.heap.size≤g∧Below w.heap.size w w':=(New_c3 L v0 v1 v2 v3 v4 v5 v7 A c w h hl hn hxl hchk).mono fun e w' ⟨g,mb,A',c',L',h1,h2,h3,h4,h5,h6,h7,h8,_⟩=>⟨g,mb,A',c',L',h1,h2,h3,h4,h5,h6,h7,h8⟩

theorem info301:(Tryz.prog.info? 275).map (fun i=>(i.zero,i.size,i.bytes))=some (some (.agg #[.int .u8 0,.string ⟨#[]⟩,.int .i64 0]),3,32):=by kernel_rfl
theorem all310(g:Nat)(w:World):Calls Tryz.prog 294 #[.pointer (some ⟨g,0,none⟩)] w fun e w'=>e= .returned (.func (.func 315) #[] #[.pointer (some ⟨w.heap.size,0,none⟩)])∧w'=w.alloc (.cells #[.pointer (some ⟨g,0,none⟩)] 308):=by
 go_enter Tryz.func294,Tryz.ntmps294;go_wp2;go_ret;exact⟨rfl,rfl⟩
def tokCells(T:List PTok):List Value:=T.flatMap fun t=> [.int .u8 t.1,.string t.2.1,.int .i64 t.2.2]
def LexPost(s:ByteArray)(e:Ending)(W:World):Prop:=
 if s.size>65536 then e= .returned (.tuple #[.slice none 0 0,.int .i64 0,.int .i64 3])else
 match lexV s with
 | some T=>∃A c,e= .returned (.tuple #[.slice A T.length c,.int .i64 0,.int .i64 0])∧∀t,T= [t]→∃br,A=some ⟨br,0,none⟩∧W.cell? ⟨br,0,none⟩=some (.int .u8 t.1)∧W.cell? ⟨br,1,none⟩=some (.string t.2.1)
 | none=>∃a c,c≠0∧e= .returned (.tuple #[.slice none 0 0,.int .i64 a,.int .i64 c])
theorem lexPost_some{s:ByteArray}{e:Ending}{W:World}{T:List PTok}(hs:¬s.size>65536)(h:lexV s=some T)(hp:∃A c,e= .returned (.tuple #[.slice A T.length c,.int .i64 0,.int .i64 0])∧∀t,T= [t]→∃br,A=some ⟨br,0,none⟩∧W.cell? ⟨br,0,none⟩=some (.int .u8 t.1)∧W.cell? ⟨br,1,none⟩=some (.string t.2.1)):LexPost s e W:=by
 unfold LexPost;rw[if_neg hs,h];exact hp
theorem lexPost_none{s:ByteArray}{e:Ending}{W:World}(hs:¬s.size>65536)(h:lexV s=none)(hp:∃a c,c≠0∧e= .returned (.tuple #[.slice none 0 0,.int .i64 a,.int .i64 c])):LexPost s e W:=by
 unfold LexPost;rw[if_neg hs,h];exact hp
set_option maxHeartbeats 1000000 in
theorem lex_long(s:ByteArray)(w:World)(hs:s.size>65536):Calls Tryz.prog 253 #[.string s] w fun e w'=>LexPost s e w'∧Below w.heap.size w w':=by
 obtain⟨w0,hw0⟩:∃w0,w0=((w.alloc (.cells #[.slice none 0 0] 270)).alloc (.cells #[.int .i64 0] 3)).alloc (.cells #[.int .i64 3] 36):=⟨_,rfl⟩;have hB0:Below w.heap.size w w0:=by rw[hw0];exact(((Below.refl _ w).alloc (Nat.le_refl _) _).alloc (by simp) _).alloc (by simp;omega) _
 have r2:Blk w0 w.heap.size 270 #[.slice none 0 0]:=by rw[hw0];exact((Blk.new w _ _).alloc _).alloc _
 have r3:Blk w0 (w.heap.size+1) 3 #[.int .i64 0]:=by rw[hw0];exact(blk_at' (w.alloc (.cells #[.slice none 0 0] 270)) (w.heap.size+1) 3 _ (by simp)).alloc _
 have r4:Blk w0 (w.heap.size+2) 36 #[.int .i64 3]:=by rw[hw0];exact blk_at' ((w.alloc (.cells #[.slice none 0 0] 270)).alloc (.cells #[.int .i64 0] 3)) (w.heap.size+2) 36 _ (by simp)
 have hd:decide ((s.size:Int)>65536)=true:=decide_eq_true (by omega);have Hs:=lz hs;have Hw0:=lz hw0;have HB0:=lz hB0;have R2:=lz r2;have R3:=lz r3;have R4:=lz r4;clear hw0 hB0 r2 r3 r4 hs;refine(callsIn_wide (n:=9)).1 ?_;refine callsIn_of_wp_marks Tryz.func253 rfl trivial ?_ rfl;simp only[Tryz.ntmps253,List.size_toArray,List.length_cons,List.length_nil,Nat.reduceAdd,Nat.reduceSub,Array.replicate_succ,Array.replicate_zero,List.push_toArray,List.append_toArray,List.nil_append,List.cons_append];refine wpIn_wide.2 ?_;go_wp2_with fail;rw[←Hw0.out];have hz:=R2.out;have hz3:=R3.out;have hz4:=R4.out;have hB4:=HB0.out;clear Hw0 R2 R3 R4 HB0;refine leaves_marks [] w0 w0.heap.size (by simp) (fun E hE=>by cases hE) fun W' hSh=> ?_
 have z2:=(Blk.below hz hSh.below (Blk.lt hz)).cell 0;have z3:=(Blk.below hz3 hSh.below (Blk.lt hz3)).cell 0;have z4:=(Blk.below hz4 hSh.below (Blk.lt hz4)).cell 0;refine⟨.tuple #[.slice none 0 0,.int .i64 0,.int .i64 3],by simp[results,Tryz.f253,go_sem,z2,z3,z4],?_,hB4.trans (hSh.below.mono (Nat.le_of_lt (Blk.lt hz)))⟩;unfold LexPost;rw[if_pos Hs.out]
set_option maxHeartbeats 4000000 in
theorem lex_g(s:ByteArray)(w:World)(hL:LaidN w):Calls Tryz.prog 253 #[.string s] w fun e w'=>LexPost s e w'∧Below w.heap.size w w':=by
 by_cases hs:s.size>65536
 ·exact lex_long s w hs
 obtain⟨w0,hw0⟩:∃w0,w0=((w.alloc (.cells #[.slice none 0 0] 270)).alloc (.cells #[.int .i64 0] 3)).alloc (.cells #[.int .i64 0] 36):=⟨_,rfl⟩;have hB0:Below w.heap.size w w0:=by rw[hw0];exact(((Below.refl _ w).alloc (Nat.le_refl _) _).alloc (by simp) _).alloc (by simp;omega) _
 have r2:Blk w0 w.heap.size 270 #[.slice none 0 0]:=by rw[hw0];exact((Blk.new w _ _).alloc _).alloc _
 have r3:Blk w0 (w.heap.size+1) 3 #[.int .i64 0]:=by rw[hw0];exact(blk_at' (w.alloc (.cells #[.slice none 0 0] 270)) (w.heap.size+1) 3 _ (by simp)).alloc _
 have r4:Blk w0 (w.heap.size+2) 36 #[.int .i64 0]:=by rw[hw0];exact blk_at' ((w.alloc (.cells #[.slice none 0 0] 270)).alloc (.cells #[.int .i64 0] 3)) (w.heap.size+2) 36 _ (by simp)
 have hz0:w0.heap.size=w.heap.size+3:=by rw[hw0];simp
 have hd:decide ((s.size:Int)>65536)=false:=decide_eq_false (by omega);have Hst:=lz (starts_g w0);have Hw0:=lz hw0;have HB0:=lz hB0;have R2:=lz r2;have R3:=lz r3;have R4:=lz r4;have Hs:=lz hs;have Hz0:=lz hz0;have HL:=lz hL;clear hw0 hB0 r2 r3 r4 hs hz0 hL;refine(callsIn_wide (n:=9)).1 ?_;refine callsIn_of_wp_marks Tryz.func253 rfl trivial ?_ rfl;simp only[Tryz.ntmps253,List.size_toArray,List.length_cons,List.length_nil,Nat.reduceAdd,Nat.reduceSub,Array.replicate_succ,Array.replicate_zero,List.push_toArray,List.append_toArray,List.nil_append,List.cons_append];refine wpIn_wide.2 ?_;go_wp2_with fail;rw[←Hw0.out];refine Hst.out.mono ?_;rintro e w1 ⟨v1,v2,v3,rfl,⟨Be,Bd,Bd2,Bs,rfl,rfl,rfl,htab⟩,hb1⟩;obtain⟨l1,hl1⟩:∃l1:Array Value,l1= #[.pointer (some ⟨Be,0,none⟩)]:=⟨_,rfl⟩;obtain⟨l2,hl2⟩:∃l2:Array Value,l2= #[.pointer (some ⟨Bd,0,none⟩),.pointer (some ⟨Bd2,0,none⟩)]:=⟨_,rfl⟩;obtain⟨l3,hl3⟩:∃l3:Array Value,l3= #[.pointer (some ⟨Bs,0,none⟩)]:=⟨_,rfl⟩;rw[←hl1,←hl2,←hl3]at htab ⊢;obtain⟨w2,hw2⟩:∃w2,w2=((w1.alloc (.cells #[.string s,.int .i64 0,.nilFunc,.func (.func 327) #[] l1,.func (.func 328) #[] l2,.func (.func 329) #[] l3] 314)).alloc (.cells #[.slice none 0 0] 270)).alloc (.cells #[.pointer (some ⟨w1.heap.size,0,none⟩)] 308):=⟨_,rfl⟩;have hB2:Below w1.heap.size w1 w2:=by rw[hw2];exact(((Below.refl _ w1).alloc (Nat.le_refl _) _).alloc (by simp) _).alloc (by simp;omega) _
 have hsc:ScB w2 w1.heap.size s 0 .nilFunc (.func (.func 327) #[] l1) (.func (.func 328) #[] l2) (.func (.func 329) #[] l3):=by rw[hw2];exact((Blk.new w1 _ _).alloc _).alloc _
 have hob:Blk w2 (w1.heap.size+1) 270 #[.slice none 0 0]:=by rw[hw2];exact(blk_at' (w1.alloc (.cells #[.string s,.int .i64 0,.nilFunc,.func (.func 327) #[] l1,.func (.func 328) #[] l2,.func (.func 329) #[] l3] 314)) (w1.heap.size+1) 270 _ (by simp)).alloc _
 have hbb:Blk w2 (w1.heap.size+2) 308 #[.pointer (some ⟨w1.heap.size,0,none⟩)]:=by rw[hw2];exact blk_at' ((w1.alloc (.cells #[.string s,.int .i64 0,.nilFunc,.func (.func 327) #[] l1,.func (.func 328) #[] l2,.func (.func 329) #[] l3] 314)).alloc (.cells #[.slice none 0 0] 270)) (w1.heap.size+2) 308 _ (by simp)
 have hz2:w2.heap.size=w1.heap.size+3:=by rw[hw2];simp
 have hL1:LaidN w1:=(HL.out.below HB0.out).below hb1;have hbX:∀W,Gr (fun k=>k=w1.heap.size∨k=w1.heap.size+1) w2 W→Below w1.heap.size w1 W:=fun W hG=>
  ⟨hG.os.trans hB2.os,hG.tape.trans hB2.tape,hG.output.trans hB2.output,by have:=hG.size;omega,fun k hk=>(hG.block k (by omega) (by omega)).trans (hB2.block k hk)⟩
 have hit:=fun(l:Nat) (W:World) (J:List PTok→World→Prop) (JE:World→Prop) (hB:Below w2.heap.size w2 W) hJ hJE h0 hY hE=>
  iter_g w1.heap.size (w1.heap.size+1) (w1.heap.size+2) s l1 l2 l3 w2 (by omega) (by omega) (by omega) (by have:=Hs.out;omega)
   (fun W hG=>(htab w1.heap.size W (Nat.le_refl _) (hbX W hG)).1) (fun W hG=>(htab w1.heap.size W (Nat.le_refl _) (hbX W hG)).2.1) (fun W hG=>(htab w1.heap.size W (Nat.le_refl _) (hbX W hG)).2.2)
   (fun W t hG ht=>number_g t W ht (hL1.below (hbX W hG))) hbb (by omega) l W (Gr.of_below hB) (ScB.below hsc hB) J JE hJ hJE h0 hY hE
 have Hit:=lz hit;have Hob:=lz hob;have Hw2:=lz hw2;have Hz2:=lz hz2;have Hb1:=lz hb1;have HB2:=lz hB2;have Hl:=lz (And.intro hl1 (And.intro hl2 hl3));clear htab hb1 hw2 hB2 hsc hob hbb hz2 hit Hst hL1 hbX hl1 hl2 hl3;go_wp2_with (go_at_call 294;refine(all310 _ _).mono ?_;rintro e w' ⟨rfl,hw'⟩);rw[←Hw2.out];clear hw';refine(wpIn_wide (n:=9)).1 ?_;have hz2:w1.heap.size+3≤w2.heap.size:=by have:=Hz2.out;omega
 have hz2b:w2.heap.size≤w1.heap.size+3:=by have:=Hz2.out;omega
 have hz0:w.heap.size+3≤w0.heap.size:=by have:=Hz0.out;omega
 have hs1:=Hb1.out.size;refine range_toks (gf:=315) (gm:=w1.heap.size) (lb:= #[.pointer (some ⟨w1.heap.size+1+1,0,none⟩)]) (s:=s) (X:=fun k=>k=w1.heap.size∨k=w1.heap.size+1) (by omega) rfl (enters_of Tryz.func315 kz rfl) rfl (fun k hk=>by rcases hk with rfl | rfl<;>omega) Hit.out
  (fun T W=>∃A c,Blk W (w1.heap.size+1) 270 #[.slice A T.length c]∧W.ownsRow w2.heap.size 275 3 (.slice A T.length c) T.length (tokCells T)∧Gr (fun k=>k=w1.heap.size∨k=w1.heap.size+1) w2 W)
  (fun W=>∃a c,c≠0∧Blk W w.heap.size 270 #[.slice none 0 0]∧Blk W (w.heap.size+1) 3 #[.int .i64 a]∧Blk W (w.heap.size+2) 36 #[.int .i64 c]∧Below w.heap.size w W)
  ?pgr ?egr ?pput ?eput ?p0
  (fun T t c a' W=>∃Bx,w2.heap.size≤Bx∧T.length≤65536∧Blk W Bx 275 #[.int .u8 t.1,.string t.2.1,.int .i64 t.2.2]∧(∃A cp,Blk W (w1.heap.size+1) 270 #[.slice A T.length cp]∧W.ownsRow w2.heap.size 275 3 (.slice A T.length cp) T.length (tokCells T)∧(∀k,(Value.slice A T.length cp).ownBlock=some k→k≠Bx))∧Gr (fun k=>k=w1.heap.size∨k=w1.heap.size+1) w2 W∧a'={tmps:= #[.string s,undef,.pointer (some ⟨w.heap.size,0,none⟩),.pointer (some ⟨w.heap.size+1,0,none⟩),.pointer (some ⟨w.heap.size+1+1,0,none⟩),.pointer (some ⟨w1.heap.size,0,none⟩),.pointer (some ⟨w1.heap.size+1,0,none⟩),.pointer (some ⟨Bx,0,none⟩),.int .i64 c,.string s,.int .i64 s.size,.bool false,.string s,.agg #[.string s,.int .i64 0],.agg #[.nilFunc,.func (.func 327) #[] l1,.func (.func 328) #[] l2,.func (.func 329) #[] l3],.agg #[.string s,.int .i64 0,.nilFunc,.func (.func 327) #[] l1,.func (.func 328) #[] l2,.func (.func 329) #[] l3],.pointer (some ⟨w1.heap.size,0,none⟩),.pointer (some ⟨w1.heap.size,0,none⟩),.func (.func 315) #[] #[.pointer (some ⟨w1.heap.size+1+1,0,none⟩)],.agg #[.int .u8 t.1,.string t.2.1,.int .i64 t.2.2],.int .i64 c,undef,undef,undef,undef,undef,undef,undef,undef,undef,undef],defers:= []})
  ?ax ?assign ?body ?done ?ret
 case pgr=>
  rintro T W W' ⟨A,c,h1,h2,h3⟩ hG;exact⟨A,c,hG.blk h1 (by omega),own_gr h2 hG (fun k hk e=>by have:=(h2.lt k hk).1;omega),h3.trans' hG (fun j _ e=> .inl e)⟩
 case egr=>
  rintro W W' ⟨a,c,h0,h1,h2,h3,h4⟩ hG;exact⟨a,c,h0,hG.blk h1 (by omega),hG.blk h2 (by omega),hG.blk h3 (by omega),⟨hG.os.trans h4.os,hG.tape.trans h4.tape,hG.output.trans h4.output,Nat.le_trans h4.size hG.size,fun k hk=>(hG.block k (by have:=h4.size;omega) (by omega)).trans (h4.block k hk)⟩⟩
 case pput=>
  rintro T l W o o' hl ho hc ⟨A,c,h1,h2,h3⟩;exact⟨A,c,(putObj_gr W l o').blk h1 (by omega),own_gr h2 (putObj_gr W l o') (fun k hk e=>by have:=own_cells h2 k o hk (e▸ho);rw[hc]at this;cases this),h3.trans' (putObj_gr W l o') (fun j hj e=>by omega)⟩
 case eput=>
  rintro l W o o' hl ho hc ⟨a,c,h0,h1,h2,h3,h4⟩;have hG:=putObj_gr W l o';exact⟨a,c,h0,hG.blk h1 (by omega),hG.blk h2 (by omega),hG.blk h3 (by omega),⟨hG.os.trans h4.os,hG.tape.trans h4.tape,hG.output.trans h4.output,Nat.le_trans h4.size hG.size,fun k hk=>(hG.block k (by have:=h4.size;omega) (by omega)).trans (h4.block k hk)⟩⟩
 case p0=>
  intro W hB;exact⟨none,0,Hob.out.below hB Hob.out.lt,World.ownsRow_nil _ _ _ _,Gr.of_below hB⟩
 case ax=>
  rintro T t c l a' W o o' hl ho hc ⟨Bx,h1,hTl,h2,⟨A,cp,h3,h4,h5⟩,h6,h7⟩;have hne:Bx≠l:=fun e=>by subst e;rw[show W.heap[Bx]?=_ from h2]at ho;cases ho;cases hc
  exact⟨Bx,h1,hTl,(putObj_gr W l o').blk h2 hne,⟨A,cp,(putObj_gr W l o').blk h3 (by omega),own_gr h4 (putObj_gr W l o') (fun k hk e=>by have:=own_cells h4 k o hk (e▸ho);rw[hc]at this;cases this),h5⟩,h6.trans' (putObj_gr W l o') (fun j hj e=>by omega),h7⟩
 case assign=>
  intro l T t c W K hTl hsz hgr hP hK;obtain⟨A,cp,hob,hown,-⟩:=hP;obtain⟨k1,s1,p1⟩:=t;have Hgr:=lz hgr;have Hob2:=lz hob;have Hown:=lz hown;clear hgr hob hown;gi_wp2;exact hK _ _ ((KeepsOthers.alloc _ _).from _) (Gr.alloc _ _ _) (Below.heap_alloc W _ _ (by omega)) ⟨W.heap.size,by omega,hTl,Blk.new W _ _,⟨A,cp,Hob2.out.alloc _,own_gr Hown.out (Gr.alloc (fun _=>False) W _) (fun _ _ h=>h),fun k hk e=>by have:=(Hown.out.lt k hk).2;omega⟩,Hgr.out.trans (Gr.alloc _ _ _),rfl⟩
 case body=>
  rintro l T ⟨k1,s1,p1⟩ c a' W hXW ⟨Bx,hBx,hTl,hbx,⟨A,cp,hob,hown,hne⟩,hgr,rfl⟩;dsimp only at hbx ⊢;have c6:=hob.cell 0;have c0:=hbx.cell 0;have c1:=hbx.cell 1;have c2:=hbx.cell 2;by_cases hc:c=0
  ·subst hc
   obtain⟨i0,hi0,hy0,hy1,hy2⟩:=info_parts info301;have hsz:=hgr.size;have Hgr:=lz hgr;have Hob2:=lz hob;have Hown:=lz hown;clear hgr hob hbx hown hXW hne;gi_wp2_with (gi_at_builtin;refine wpListIn_append_own _ rfl _ _ 270 rfl w2.heap.size 275 i0 (.agg #[.int .u8 0,.string ⟨#[]⟩,.int .i64 0]) 3 32 Tryz.underlying270 hi0 hy0 hy1 hy2 rfl (by decide) _ _ _ rfl (own_gr Hown.out (Gr.alloc (fun _=>False) W _) (fun _ _ h=>h)) ⟨W.heap.size,0,none⟩ 1 1 [.int .u8 k1,.string s1,.int .i64 p1] rfl rfl ?c1 ?c2 ?c3 ?c4 ?c5 ?_)
   case c1=>
    intro j u' hj;rw[addr_add_none,Nat.zero_add,(Blk.new W 275 #[.int .u8 k1,.string s1,.int .i64 p1]).cell j];simpa using hj
   case c2=>intro u' hu';simp at hu';rcases hu' with rfl | rfl | rfl<;>rfl
   case c3=>simp[maxLen];omega
   case c4=>omega
   case c5=>simp;omega
   intro v5 wo hown5 hg5 _;have hcs:tokCells (T++ [(k1,s1,p1)])=tokCells T++ [.int .u8 k1,.string s1,.int .i64 p1]:=by simp[tokCells]
   have hlen:(T++ [((k1,s1,p1):PTok)]).length=T.length+1:=by simp
   have hown5':wo.ownsRow w2.heap.size 275 3 v5 (T.length+1) (tokCells T++ [.int .u8 k1,.string s1,.int .i64 p1]):=hown5;obtain⟨A5,c5,rfl,_⟩:=own_caps hown5';have hgo:Gr (· =w1.heap.size+1) W (W.alloc (.cells #[.int .u8 k1,.string s1,.int .i64 p1] 275)):=Gr.alloc _ _ _;have hownA:=own_gr Hown.out (Gr.alloc (fun _=>False) W (.cells #[.int .u8 k1,.string s1,.int .i64 p1] 275)) (fun _ _ h=>h);have hblk:∀k,k<W.heap.size→(Value.slice A T.length cp).ownBlock≠some k→wo.heap[k]?=W.heap[k]?:=fun k hk hn=>(hg5.block k (by simp;omega) (fun e=>hn e.symm)).trans (Below.heap_alloc W _ k hk)
   have hnob:∀k,(Value.slice A T.length cp).ownBlock=some k→w2.heap.size≤k:=fun k hk=>(Hown.out.lt k hk).1
   have hobo:Blk wo (w1.heap.size+1) 270 #[.slice A T.length cp]:=(hblk _ (by omega) (fun e=>by have:=hnob _ e;omega)).trans Hob2.out;have hko0:KeepsOthers W wo:=(KeepsOthers.alloc W (.cells #[.int .u8 k1,.string s1,.int .i64 p1] 275)).trans (keepsO_own hownA hg5);have d0:=hobo.cell 0;have df:=hobo.frozen 0;have hS:=Gr.setCell (X:=(· =w1.heap.size+1)) wo ⟨w1.heap.size+1,0,none⟩ (.slice A5 (T.length+1) c5) rfl;have hown6:=own_gr hown5' hS (fun k hk e=>by have:=(hown5'.lt k hk).1;omega);have hob6:Blk (wo.setCell ⟨w1.heap.size+1,0,none⟩ (.slice A5 (T.length+1) c5)) (w1.heap.size+1) 270 #[.slice A5 (T.length+1) c5]:=by simpa using hobo.set_ 0 (.slice A5 (T.length+1) c5)
   have hgwo:Gr (fun k=>k=w1.heap.size∨k=w1.heap.size+1) w2 wo:=⟨hg5.os.trans Hgr.out.os,hg5.tape.trans Hgr.out.tape,hg5.output.trans Hgr.out.output,by have:=hg5.size;simp at this;omega,fun k hk hn=>(hblk k (by omega) (fun e=>by have:=hnob _ e;omega)).trans (Hgr.out.block k hk hn)⟩;have hgr6:Gr (fun k=>k=w1.heap.size∨k=w1.heap.size+1) w2 (wo.setCell ⟨w1.heap.size+1,0,none⟩ (.slice A5 (T.length+1) c5)):=hgwo.trans' hS (fun k hk e=> .inr e);have hko:KeepsOthers W (wo.setCell ⟨w1.heap.size+1,0,none⟩ (.slice A5 (T.length+1) c5)):=hko0.trans (keepsO_set hobo _);have hsm:(wo.setCell ⟨w1.heap.size+1,0,none⟩ (.slice A5 (T.length+1) c5)).heap[w1.heap.size]?=W.heap[w1.heap.size]?:=(hS.block _ (by have:=hko0.size;omega) (by omega)).trans (hblk _ (by omega) (fun e=>by have:=hnob _ e;omega));have HR:=lz (And.intro (hko.from w2.heap.size) (And.intro hsm (And.intro hob6 (And.intro hown6 hgr6))));have Hcs:=lz (And.intro hcs hlen);clear hown5 hown5' hg5 hobo hS hown6 hob6 hgr6 hko hsm hcs hlen hgo hownA hblk hnob hko0 hgwo;gi_wp2;exact⟨HR.out.1,HR.out.2.2.2.2,HR.out.2.1,A5,c5,HR.out.2.2.1,by rw[Hcs.out.1];exact HR.out.2.2.2.1,HR.out.2.2.2.2⟩
  ·have hb2w:∀k,k<w1.heap.size→W.heap[k]?=w1.heap[k]?:=fun k hk=>(hgr.block k (by omega) (by omega)).trans (HB2.out.block k hk)
   have q2:Blk W w.heap.size 270 #[.slice none 0 0]:=(hb2w _ (by omega)).trans (R2.out.below Hb1.out (by omega));have q3:Blk W (w.heap.size+1) 3 #[.int .i64 0]:=(hb2w _ (by omega)).trans (R3.out.below Hb1.out (by omega));have q4:Blk W (w.heap.size+2) 36 #[.int .i64 0]:=(hb2w _ (by omega)).trans (R4.out.below Hb1.out (by omega));have HBw:Hid (Below w.heap.size w W):=lz (⟨hgr.os.trans (HB2.out.os.trans (Hb1.out.os.trans HB0.out.os)),hgr.tape.trans (HB2.out.tape.trans (Hb1.out.tape.trans HB0.out.tape)),hgr.output.trans (HB2.out.output.trans (Hb1.out.output.trans HB0.out.output)),by have:=hgr.size;omega,fun k hk=>(hb2w k (by omega)).trans ((Hb1.out.block k (by omega)).trans (HB0.out.block k hk))⟩);have e2:=q2.cell 0;have e3:=q3.cell 0;have e4:=q4.cell 0;have f2':=q2.frozen 0;have f3':=q3.frozen 0;have f4':=q4.frozen 0;have Hq2:=lz q2;have Hq3:=lz q3;have Hq4:=lz q4;have Hc:=lz hc;clear hb2w q2 q3 q4 hXW hob hown hne hgr hbx;have y2:=(((Hq2.out.set_ 0 (.slice none 0 0)).far (p:=⟨w.heap.size+1,0,none⟩) (by show w.heap.size≠w.heap.size+1;omega) (.int .i64 p1)).far (p:=⟨w.heap.size+1+1,0,none⟩) (by show w.heap.size≠w.heap.size+1+1;omega) (.int .i64 c)).drew;have y3:=(((Hq3.out.far (p:=⟨w.heap.size,0,none⟩) (by show w.heap.size+1≠w.heap.size;omega) (.slice none 0 0)).set_ 0 (.int .i64 p1)).far (p:=⟨w.heap.size+1+1,0,none⟩) (by show w.heap.size+1≠w.heap.size+1+1;omega) (.int .i64 c)).drew;have Hq4':Blk W (w.heap.size+1+1) 36 #[.int .i64 0]:=Hq4.out;have y4:=(((Hq4'.far (p:=⟨w.heap.size,0,none⟩) (by show w.heap.size+1+1≠w.heap.size;omega) (.slice none 0 0)).far (p:=⟨w.heap.size+1,0,none⟩) (by show w.heap.size+1+1≠w.heap.size+1;omega) (.int .i64 p1)).set_ 0 (.int .i64 c)).drew;have yB:Below w.heap.size w ((((W.setCell ⟨w.heap.size,0,none⟩ (.slice none 0 0)).setCell ⟨w.heap.size+1,0,none⟩ (.int .i64 p1)).setCell ⟨w.heap.size+1+1,0,none⟩ (.int .i64 c)).drew):=(((HBw.out.setCell (p:=⟨w.heap.size,0,none⟩) (Nat.le_refl _) _).setCell (p:=⟨w.heap.size+1,0,none⟩) (by show w.heap.size≤w.heap.size+1;omega) _).setCell (p:=⟨w.heap.size+1+1,0,none⟩) (by show w.heap.size≤w.heap.size+1+1;omega) _).drew;have yK:KeepsFrom w2.heap.size W ((((W.setCell ⟨w.heap.size,0,none⟩ (.slice none 0 0)).setCell ⟨w.heap.size+1,0,none⟩ (.int .i64 p1)).setCell ⟨w.heap.size+1+1,0,none⟩ (.int .i64 c)).drew):=
    ((((keepsO_set Hq2.out (.slice none 0 0)).trans (keepsO_set (Hq3.out.far (p:=⟨w.heap.size,0,none⟩) (by show w.heap.size+1≠w.heap.size;omega) (.slice none 0 0)) (.int .i64 p1))).trans (keepsO_set ((Hq4'.far (p:=⟨w.heap.size,0,none⟩) (by show w.heap.size+1+1≠w.heap.size;omega) (.slice none 0 0)).far (p:=⟨w.heap.size+1,0,none⟩) (by show w.heap.size+1+1≠w.heap.size+1;omega) (.int .i64 p1)) (.int .i64 c))).trans (keepsO_below (Below.refl _ _).drew)).from _
   have HR:=lz (And.intro yK (And.intro (by simpa using y2) (And.intro (by simpa using y3) (And.intro (by simpa using y4) yB))):KeepsFrom w2.heap.size W ((((W.setCell ⟨w.heap.size,0,none⟩ (.slice none 0 0)).setCell ⟨w.heap.size+1,0,none⟩ (.int .i64 p1)).setCell ⟨w.heap.size+1+1,0,none⟩ (.int .i64 c)).drew)∧Blk ((((W.setCell ⟨w.heap.size,0,none⟩ (.slice none 0 0)).setCell ⟨w.heap.size+1,0,none⟩ (.int .i64 p1)).setCell ⟨w.heap.size+1+1,0,none⟩ (.int .i64 c)).drew) w.heap.size 270 #[.slice none 0 0]∧Blk ((((W.setCell ⟨w.heap.size,0,none⟩ (.slice none 0 0)).setCell ⟨w.heap.size+1,0,none⟩ (.int .i64 p1)).setCell ⟨w.heap.size+1+1,0,none⟩ (.int .i64 c)).drew) (w.heap.size+1) 3 #[.int .i64 p1]∧Blk ((((W.setCell ⟨w.heap.size,0,none⟩ (.slice none 0 0)).setCell ⟨w.heap.size+1,0,none⟩ (.int .i64 p1)).setCell ⟨w.heap.size+1+1,0,none⟩ (.int .i64 c)).drew) (w.heap.size+2) 36 #[.int .i64 c]∧Below w.heap.size w ((((W.setCell ⟨w.heap.size,0,none⟩ (.slice none 0 0)).setCell ⟨w.heap.size+1,0,none⟩ (.int .i64 p1)).setCell ⟨w.heap.size+1+1,0,none⟩ (.int .i64 c)).drew));clear y2 y3 y4 yB yK Hq4';gi_wp2;gi_region;all_goals gi_wp2
   all_goals first | exact⟨HR.out.1,.inr ⟨Hc.out,rfl,p1,c,Hc.out,HR.out.2⟩⟩ | exact⟨HR.out.1,Hc.out,p1,c,Hc.out,HR.out.2⟩ | exact⟨HR.out.1,p1,c,Hc.out,HR.out.2⟩
 case done=>
  rintro D W3 T hD hlx ⟨A,c,hbx3,hown3,hall⟩ hk;have hb2w:∀k,k<w1.heap.size→W3.heap[k]?=w1.heap[k]?:=fun k hk=>(hall.block k (by omega) (by omega)).trans (HB2.out.block k hk)
  have q2:Blk W3 w.heap.size 270 #[.slice none 0 0]:=(hb2w _ (by omega)).trans (R2.out.below Hb1.out (by omega));have q3:Blk W3 (w.heap.size+1) 3 #[.int .i64 0]:=(hb2w _ (by omega)).trans (R3.out.below Hb1.out (by omega));have q4:Blk W3 (w.heap.size+2) 36 #[.int .i64 0]:=(hb2w _ (by omega)).trans (R4.out.below Hb1.out (by omega));have hBw:Below w.heap.size w W3:=⟨hall.os.trans (HB2.out.os.trans (Hb1.out.os.trans HB0.out.os)),hall.tape.trans (HB2.out.tape.trans (Hb1.out.tape.trans HB0.out.tape)),hall.output.trans (HB2.out.output.trans (Hb1.out.output.trans HB0.out.output)),by have:=hall.size;omega,fun k hk=>(hb2w k (by omega)).trans ((Hb1.out.block k (by omega)).trans (HB0.out.block k hk))⟩;have e6:=hbx3.cell 0;have e2:=q2.cell 0;have e3:=q3.cell 0;have e4:=q4.cell 0;have f2':=q2.frozen 0;have f3':=q3.frozen 0;have f4':=q4.frozen 0;have hone:∀t,T= [t]→∃br,A=some ⟨br,0,none⟩∧w2.heap.size≤br∧W3.cell? ⟨br,0,none⟩=some (.int .u8 t.1)∧W3.cell? ⟨br,1,none⟩=some (.string t.2.1):=by
   rintro t rfl;obtain⟨br,cap,hv,hbr,hlt⟩:=hown3.form (by simp);have hA:A=some ⟨br,0,none⟩:=by injection hv
   subst hA;have g0:=hown3.cells (g:=br) rfl 0 (.int .u8 t.1) rfl;have g1:=hown3.cells (g:=br) rfl 1 (.string t.2.1) rfl;rw[add_none]at g0 g1;exact⟨br,rfl,(hown3.lt br rfl).1,by simpa using g0,by simpa using g1⟩
  have hDlt:D<W3.heap.size:=(Array.getElem?_eq_some_iff.1 hk).1;have Hk:=lz hk;have Hq2:=lz q2;have Hq3:=lz q3;have Hq4:=lz q4;have HBw:=lz hBw;have Hone:=lz hone;have Hlx:=lz hlx;clear hbx3 hown3 hall hk hb2w q2 q3 q4 hBw hone hlx;go_wp2_with fail;have hz:=((Hq2.out.set_ 0 (.slice A T.length c)).far (p:=⟨w.heap.size+1,0,none⟩) (by show w.heap.size≠w.heap.size+1;omega) (.int .i64 0)).far (p:=⟨w.heap.size+2,0,none⟩) (by show w.heap.size≠w.heap.size+2;omega) (.int .i64 0);have hz3:=((Hq3.out.far (p:=⟨w.heap.size,0,none⟩) (by show w.heap.size+1≠w.heap.size;omega) (.slice A T.length c)).set_ 0 (.int .i64 0)).far (p:=⟨w.heap.size+2,0,none⟩) (by show w.heap.size+1≠w.heap.size+2;omega) (.int .i64 0);have hz4:=((Hq4.out.far (p:=⟨w.heap.size,0,none⟩) (by show w.heap.size+2≠w.heap.size;omega) (.slice A T.length c)).far (p:=⟨w.heap.size+1,0,none⟩) (by show w.heap.size+2≠w.heap.size+1;omega) (.int .i64 0)).set_ 0 (.int .i64 0);have hB4:Below w.heap.size w (((W3.setCell ⟨w.heap.size,0,none⟩ (.slice A T.length c)).setCell ⟨w.heap.size+1,0,none⟩ (.int .i64 0)).setCell ⟨w.heap.size+2,0,none⟩ (.int .i64 0)):=((HBw.out.setCell (p:=⟨w.heap.size,0,none⟩) (Nat.le_refl _) _).setCell (p:=⟨w.heap.size+1,0,none⟩) (by show w.heap.size≤w.heap.size+1;omega) _).setCell (p:=⟨w.heap.size+2,0,none⟩) (by show w.heap.size≤w.heap.size+2;omega) _;have hfar:∀k,w.heap.size+3≤k→(((W3.setCell ⟨w.heap.size,0,none⟩ (.slice A T.length c)).setCell ⟨w.heap.size+1,0,none⟩ (.int .i64 0)).setCell ⟨w.heap.size+2,0,none⟩ (.int .i64 0)).heap[k]?=W3.heap[k]?:=fun k hk=>
   (Below.heap_setCell _ ⟨w.heap.size+2,0,none⟩ _ k (by show k≠w.heap.size+2;omega)).trans ((Below.heap_setCell _ ⟨w.heap.size+1,0,none⟩ _ k (by show k≠w.heap.size+1;omega)).trans (Below.heap_setCell _ ⟨w.heap.size,0,none⟩ _ k (by show k≠w.heap.size;omega)))
  have hsz4:(((W3.setCell ⟨w.heap.size,0,none⟩ (.slice A T.length c)).setCell ⟨w.heap.size+1,0,none⟩ (.int .i64 0)).setCell ⟨w.heap.size+2,0,none⟩ (.int .i64 0)).heap.size=W3.heap.size:=by simp[World.setCell]
  change bodyPostM Fence.wide 9 Tryz.prog Tryz.f253 _ _ _ (((W3.setCell ⟨w.heap.size,0,none⟩ (.slice A T.length c)).setCell ⟨w.heap.size+1,0,none⟩ (.int .i64 0)).setCell ⟨w.heap.size+2,0,none⟩ (.int .i64 0));generalize (((W3.setCell ⟨w.heap.size,0,none⟩ (.slice A T.length c)).setCell ⟨w.heap.size+1,0,none⟩ (.int .i64 0)).setCell ⟨w.heap.size+2,0,none⟩ (.int .i64 0))=W4 at *;refine leaves_marks [D] W4 D (by simp) (fun E hE=>by simp at hE;subst hE;exact⟨Nat.le_refl _,(hfar E (by omega)).trans Hk.out⟩) fun W' hSh=> ?_
  have z0:=(Blk.below hz hSh.below (by omega)).cell 0;have z3:=(Blk.below hz3 hSh.below (by omega)).cell 0;have z4:=(Blk.below hz4 hSh.below (by omega)).cell 0;have hcell:∀br o (v:Value),w2.heap.size≤br→W3.cell? ⟨br,o,none⟩=some v→W'.cell? ⟨br,o,none⟩=some v:=fun br o v hbr hv=>by
   have hrow:W4.heap[br]?=W3.heap[br]?:=hfar br (by omega);have h4:W4.cell? ⟨br,o,none⟩=some v:=(World.cell?_of_block hrow).trans hv;obtain⟨ob,ho,hcl⟩:=cells_of_cell h4;exact(World.cell?_of_block ((hSh.cells _ _ ho hcl).trans ho.symm)).trans h4
  exact⟨.tuple #[.slice A T.length c,.int .i64 0,.int .i64 0],by simp[results,Tryz.f253,go_sem,z0,z3,z4],lexPost_some Hs.out Hlx.out ⟨A,c,rfl,fun t ht=>by
   obtain⟨br,hA,hbr,g0,g1⟩:=Hone.out t ht;exact⟨br,hA,hcell _ _ _ hbr g0,hcell _ _ _ hbr g1⟩⟩,hB4.trans (hSh.below.mono (by omega))⟩
 case ret=>
  rintro D W3 hD hlx ⟨a,c,hc,q2,q3,q4,hBw⟩ hk;have hDlt:D<W3.heap.size:=(Array.getElem?_eq_some_iff.1 hk).1;refine leaves_marks [D] W3 D (by simp) (fun E hE=>by simp at hE;subst hE;exact⟨Nat.le_refl _,hk⟩) fun W' hSh=> ?_
  have z0:=(Blk.below q2 hSh.below (by omega)).cell 0;have z3:=(Blk.below q3 hSh.below (by omega)).cell 0;have z4:=(Blk.below q4 hSh.below (by omega)).cell 0;exact⟨.tuple #[.slice none 0 0,.int .i64 a,.int .i64 c],by simp[results,Tryz.f253,go_sem,z0,z3,z4],lexPost_none Hs.out hlx ⟨a,c,hc,rfl⟩,hBw.trans (hSh.below.mono (by omega))⟩
def wordP(s:ByteArray):Bool:=
 if s.size>65536 then false else
 match lexV s with
 | some [t]=>decide (t.1=1)&&(t.2.1.toList==s.toList)
 | _=>false
set_option maxHeartbeats 1000000 in
theorem word_g(s:ByteArray)(w:World)(hL:LaidN w):CU 203 #[.string s] w (.bool (wordP s)):=by
 have Hx:=lz (lex_g s w hL);clear hL;go_enter Tryz.func203,Tryz.ntmps203;go_wp2_with fail;refine Hx.out.mono ?_;rintro e w1 ⟨hp,hb⟩;unfold LexPost at hp;have Hb:=lz hb;clear Hx hb;by_cases hs:s.size>65536
 ·rw[if_pos hs]at hp
  subst hp;have Hw:=lz (show wordP s=false by unfold wordP;rw[if_pos hs]);clear hs;go_wp2_with fail;go_ret;exact⟨by rw[Hw.out];rfl,Hb.out⟩
 ·rw[if_neg hs]at hp
  cases hlx:lexV s with
  | none=>
   rw[hlx]at hp;obtain⟨a,c,hc,rfl⟩:=hp;have Hw:=lz (show wordP s=false by unfold wordP;rw[if_neg hs,hlx]);clear hs hlx;go_wp2_with fail;go_ret;exact⟨by rw[Hw.out];rfl,Hb.out⟩
  | some T=>
   rw[hlx]at hp;obtain⟨A,c,rfl,hone⟩:=hp;by_cases hT:T.length=1
   ·obtain⟨t,rfl⟩:∃t,T= [t]:=List.length_eq_one_iff.1 hT
    obtain⟨br,rfl,c0,c1⟩:=hone t rfl;obtain⟨kd,tx,at_⟩:=t;dsimp only at c0 c1;have Hw:=lz (show wordP s=(decide (kd=1)&&(tx.toList==s.toList))by unfold wordP;rw[if_neg hs,hlx]);clear hs hlx hone hT;by_cases hk:kd=1
    ·subst hk
     go_wp2_with fail;go_ret;exact⟨by rw[Hw.out];rfl,Hb.out⟩
    ·have hkb:(kd==1)=false:=by simpa using hk
     have hd:decide (kd=1)=false:=decide_eq_false hk;rw[hd]at Hw;clear hd;go_wp2_with fail;go_ret;exact⟨by rw[Hw.out];rfl,Hb.out⟩
   ·have Hw:=lz (show wordP s=false by
     unfold wordP;rw[if_neg hs,hlx]
     match T,hT with
     | [],_=>rfl
     | _ :: _ :: _,_=>rfl
     | [_],h=>exact absurd rfl h)
    have hl1:((T.length:Int)==1)=false:=by simpa using(by omega:¬(T.length:Int)=1)
    clear hs hlx hone;go_wp2_with fail;go_ret;exact⟨by rw[Hw.out];rfl,Hb.out⟩
end Go.Proofs.YtchfcgilpjkmhaaGreatDoor
