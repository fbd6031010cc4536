import Derived.BigQuiet
import Derived.RegionTactic
import Derived.Test.YtchfcgilpjkmhaaGreatDoorY24
import Derived.Test.YtchfcgilpjkmhaaGreatDoorY28
import Derived.Test.YtchfcgilpjkmhaaGreatDoorY25
import Derived.Test.YtchfcgilpjkmhaaGreatDoorY0
import Derived.Test.YtchfcgilpjkmhaaGreatDoorY1
set_option maxRecDepth 100000
set_option linter.unusedSimpArgs false
set_option linter.unusedVariables false
set_option linter.unusedSectionVars false
namespace Go.Proofs.YtchfcgilpjkmhaaGreatDoor
open Go.ChangeShapes Go.WideShapes Go.ChangeAt Go.RowKit
attribute [local go_sem] Oper.semAt_some
open Go.Act renaming put → zP
open List renaming setIfInBounds_toArray → zA, set_cons_zero → zB, set_cons_succ → zC
theorem indexT_Link(g:Nat)(lb:Array Value)(q:Nat→Bool)(J:Nat→World→Prop)(X:Nat→Prop)(B:Nat)(eg:∀args w,(callFunc g args).run Tryz.prog w= .ok (.enter g args) w)(l:List LinkV)(A:Option Addr)(c:Nat)(w:World)
 (hp:∀k (hk:k<l.length) W,J k W→Calls Tryz.prog g (#[l[k].val]++lb) W fun e w'=>e= .returned (.bool (q k))∧(q k=false→J (k+1) w')∧Gr X W w') (h0:J 0 w) (h:RdLink w B A l) (hB0:B≤w.heap.size) (hX:∀k,X k→B≤k) (hl:l.length≤9223372036854775807):
 Calls Tryz.prog 227 #[.slice A l.length c,.func (.func g) #[] lb] w fun e w'=>e= .returned (.int .i64 (idxI q (List.range l.length)))∧Gr X w w':=by
 go_enter Tryz.func227,Tryz.ntmps227;go_wp2;go_loopw [5,8] (fun _ i wr=>∃k:Nat,k≤l.length∧i= .int .i64 k∧Gr X w wr∧J k wr∧Hid (∀j,j<l.length→j<k→q j=false)) (fun _ i _=>l.length-(intOf i).toNat)
 case atStart=>exact⟨0,Nat.zero_le _,rfl,Gr.refl _ _,h0,fun j _ h=>absurd h (by omega)⟩
 case round=>
  clear h0;obtain⟨k,hk,rfl,hB,hJ,hall⟩:=hrel;have HG:=lz hB;by_cases hlt:k<l.length
  ·have hh:=h.to_ (Nat.le_refl _) (gr_cell hB hB0 hX)
   obtain⟨b,o,rfl,hb,hc⟩:=hh (by omega);have hck:=hc k hlt;have hcall:=hp k hlt wr hJ;have hs:=hB.size;clear hc hp h hh hJ hB;have hfin:q k=true→idxI q (List.range l.length)=k:=fun hq=>idxR_hit hlt hq hall.out
   have hnext:q k=false→∀j,j<l.length→j<k+1→q j=false:=fun hq=>succ_no hall.out hq
   have Hfin:=lz hfin;have Hnext:=lz hnext;clear hfin hnext hall;generalize l[k]=r at hck hcall;obtain⟨c0,c1,c2,c3⟩:=hck;have Hcall:=lz hcall;clear hcall
   cases hq:q k with
   | true=>
    have hfin:=lz (Hfin.out hq);rw[hq]at Hcall;clear Hfin Hnext hq;go_wp2_with (go_at_fn g;refine Hcall.out.mono ?_;rintro e w' ⟨rfl,hj',hb'⟩);go_ret;exact⟨ret_int hfin.out.symm,HG.out.trans hb'⟩
   | false=>
    have hnext:=lz (Hnext.out hq);rw[hq]at Hcall;clear Hfin Hnext hq;go_wp2_with (go_at_fn g;refine Hcall.out.mono ?_;rintro e w' ⟨rfl,hj',hb'⟩;have Hj:=lz (hj' rfl);clear hj');go_roundw
    case rel=>exact⟨k+1,by omega,by go_num,HG.out.trans hb',Hj.out,hnext⟩
    case measure=>simp[intOf];omega
  ·go_wp2
   go_ret;exact⟨ret_int (idxR_miss fun j hj=>hall.out j hj (by omega)).symm,HG.out⟩
theorem containsT_Link(g:Nat)(lb:Array Value)(q:Nat→Bool)(J:Nat→World→Prop)(X:Nat→Prop)(B:Nat)(eg:∀args w,(callFunc g args).run Tryz.prog w= .ok (.enter g args) w)(l:List LinkV)(A:Option Addr)(c:Nat)(w:World)
 (hp:∀k (hk:k<l.length) W,J k W→Calls Tryz.prog g (#[l[k].val]++lb) W fun e w'=>e= .returned (.bool (q k))∧(q k=false→J (k+1) w')∧Gr X W w') (h0:J 0 w) (h:RdLink w B A l) (hB0:B≤w.heap.size) (hX:∀k,X k→B≤k) (hl:l.length≤9223372036854775807):
 Calls Tryz.prog 149 #[.slice A l.length c,.func (.func g) #[] lb] w fun e w'=>e= .returned (.bool ((List.range l.length).any q))∧Gr X w w':=by
 have hI:=indexT_Link g lb q J X B eg l A c w hp h0 h hB0 hX hl;rw[←idxI_ge];generalize idxI q (List.range l.length)=r at hI ⊢;clear h hp h0;go_enter Tryz.func149,Tryz.ntmps149;go_wp2_with fail;refine hI.mono ?_;rintro e w1 ⟨rfl,hb1⟩;clear hI;go_wp2;go_ret;exact⟨rfl,hb1⟩
theorem callT_Link(g:Nat)(lb:Array Value)(q:Nat→Bool)(J:Nat→World→Prop)(X:Nat→Prop)(B:Nat)(eg:∀args w,(callFunc g args).run Tryz.prog w= .ok (.enter g args) w)(l:List LinkV)(A:Option Addr)(c:Nat)(w:World)
 (hp:∀k (hk:k<l.length) W,J k W→Calls Tryz.prog g (#[l[k].val]++lb) W fun e w'=>e= .returned (.bool (q k))∧(q k=true→J (k+1) w')∧Gr X W w') (hJa:∀k W o,J k W→J k (W.alloc o)) (h0:J 0 w) (h:RdLink w B A l) (hB0:B≤w.heap.size) (hX:∀k,X k→B≤k∧k<w.heap.size) (hl:l.length≤9223372036854775807):
 Calls Tryz.prog 63 #[.slice A l.length c,.func (.func g) #[] lb] w fun e w'=>e= .returned (.bool ((List.range l.length).all q))∧Gr X w w':=by
 have h1:=Blk.new w 137 #[.func (.func g) #[] lb];have hcon:=containsT_Link 150 #[.pointer (some ⟨w.heap.size,0,none⟩)] (fun k=> !q k) (fun k W=>J k W∧Blk W w.heap.size 137 #[.func (.func g) #[] lb]) X B (enters_of Tryz.func150 kz rfl) l A c (w.alloc (.cells #[.func (.func g) #[] lb] 137))
  (fun k hk W hJ=>(notS_Link g lb eg w.heap.size (q k) l[k] W X (fun w'=>q k=true→J (k+1) w') hJ.2 (hp k hk _ (hJa _ _ _ hJ.1))).mono fun e w' ⟨e1,e2,e3⟩=>⟨e1,fun hq=>⟨e2 (by simpa using hq),e3.blk hJ.2 fun hx=>absurd (hX _ hx).2 (by omega)⟩,e3⟩)
  ⟨hJa _ _ _ h0,h1⟩ (h.to_ (Nat.le_refl _) fun b o hb=>World.cell?_alloc_lt w _ ⟨b,o,none⟩ (by simp only;omega)) (by simp;omega) (fun k hk=>(hX k hk).1) hl
 rw[any_not]at hcon;have Hcon:=lz hcon;generalize (List.range l.length).all q=r at *;clear h1 hcon hp h hX hJa h0;go_enter Tryz.func63,Tryz.ntmps63;go_wp2_with fail;refine Hcon.out.mono ?_;rintro e w1 ⟨rfl,hg1⟩;have HG:=lz ((Gr.alloc X w (.cells #[.func (.func g) #[] lb] 137)).trans hg1);clear Hcon hg1;go_wp2;go_ret;exact⟨by cases r<;>rfl,HG.out⟩
def endS(x:CfgV)(net n:Int)(st:List PlV×Int):Option (List PlV×Int):=
 if n<0 then none
 else if n-x.mods.l.length≥0 then(if ((x.sws.l[(n-x.mods.l.length).toNat]?).map (·.net)).getD 0=net then some (st.1,st.2+1)else none)
 else if memB ⟨n,net⟩ st.1=true then none else some (st.1++ [⟨n,net⟩],st.2)
def linkS(x:CfgV)(y:LinkV)(met:List PlV):Option (List PlV):=
 match endS x y.net (nodeI x y.a) (met,0)with
 | none=>none
 | some s1=>match endS x y.net (nodeI x y.b) s1 with
  | none=>none
  | some s2=>if s2.2>0∧¬nodeI x y.a=nodeI x y.b then some s2.1 else none
def linksS(x:CfgV):List LinkV→List PlV→Option (List PlV)
 | [],met=>some met
 | y :: r,met=>match linkS x y met with | none=>none | some m=>linksS x r m
def linksP(x:CfgV):Bool:=(linksS x x.links.l []).isSome
theorem nodeI_lt(x:CfgV)(s:ByteArray):nodeI x s<x.mods.l.length+x.sws.l.length:=by
 unfold nodeI;have h1:=idxI_lt (fun y:ModV=>seqB y.nm s) x.mods.l;have h2:=idxI_lt (fun y:SwV=>seqB y.nm s) x.sws.l;split
 ·omega
 ·split<;>omega
theorem nodeI_lo(x:CfgV)(s:ByteArray): -1≤nodeI x s:=by
 unfold nodeI;split
 ·omega
 ·split<;>omega
theorem endS_len{x:CfgV}{net n:Int}{st st':List PlV×Int}(h:endS x net n st=some st'):st'.1.length≤st.1.length+1∧st'.2≤st.2+1∧st.2≤st'.2:=by
 unfold endS at h;split at h
 ·cases h
 ·split at h
  ·split at h
   ·injection h with h;subst h;exact⟨by simp,by simp only;omega,by simp only;omega⟩
   ·cases h
  ·split at h
   ·cases h
   ·injection h with h;subst h;exact⟨by simp,by simp only;omega,by simp only;omega⟩
theorem ne_cnt{κ:Type}[DecidableEq κ]{M:MKind κ}{w:World}{b mb:Nat}{t:TypeId}{cs:Array Value}{l:List κ}(h:Blk w b t cs)(hc:CntMap M w mb l):¬b=mb:=fun e=>by
 subst e;obtain⟨es,ck,ho⟩:=hc.obj;rw[show w.heap[_]?=_ from h]at ho;cases ho
def stk(x:CfgV)(net a b:Int)(lst:List PlV)(k:Nat):Option (List PlV×Int):=
 if k=0 then some (lst,0)else if k=1 then endS x net a (lst,0)else(endS x net a (lst,0)).bind (endS x net b)
theorem stk_next{x:CfgV}{net a b:Int}{lst:List PlV}{k:Nat}{st:List PlV×Int}(hk:k<2)(h:stk x net a b lst k=some st):stk x net a b lst (k+1)=endS x net (if k=0 then a else b) st:=by
 have h2:k=0∨k=1:=by omega
 rcases h2 with rfl | rfl
 ·simp only[stk,if_pos]at h
  injection h with h
  subst h;rfl
 ·have h:endS x net a (lst,0)=some st:=h
  show(endS x net a (lst,0)).bind (endS x net b)=_;rw[h];rfl
theorem stk_len{x:CfgV}{net a b:Int}{lst:List PlV}{k:Nat}{st:List PlV×Int}(hk:k≤2)(h:stk x net a b lst k=some st):st.1.length≤lst.length+2∧0≤st.2∧st.2≤2:=by
 have h2:k=0∨k=1∨k=2:=by omega
 rcases h2 with rfl | rfl | rfl
 ·simp only[stk,if_pos]at h
  injection h with h
  subst h;simp
 ·have h:endS x net a (lst,0)=some st:=h
  have:=endS_len h;simp only at this;omega
 ·have h:(endS x net a (lst,0)).bind (endS x net b)=some st:=h
  cases h1:endS x net a (lst,0)with
  | none=>rw[h1]at h;cases h
  | some s1=>
   rw[h1]at h;have h:endS x net b s1=some st:=h;have:=endS_len h;have:=endS_len h1;simp only at this;omega
theorem linkS_none{x:CfgV}{y:LinkV}{lst:List PlV}{k:Nat}(hk:k≤2)(h:stk x y.net (nodeI x y.a) (nodeI x y.b) lst k=none):linkS x y lst=none:=by
 have h2:k=0∨k=1∨k=2:=by omega
 unfold linkS;rcases h2 with rfl | rfl | rfl
 ·cases h
 ·have h:endS x y.net (nodeI x y.a) (lst,0)=none:=h
  rw[h]
 ·have h:(endS x y.net (nodeI x y.a) (lst,0)).bind (endS x y.net (nodeI x y.b))=none:=h
  cases h1:endS x y.net (nodeI x y.a) (lst,0)with
  | none=>rfl
  | some s1=>
   rw[h1]at h;have h:endS x y.net (nodeI x y.b) s1=none:=h;simp only[h]
theorem linkS_some{x:CfgV}{y:LinkV}{lst:List PlV}{st:List PlV×Int}(h:stk x y.net (nodeI x y.a) (nodeI x y.b) lst 2=some st):linkS x y lst=if st.2>0∧¬nodeI x y.a=nodeI x y.b then some st.1 else none:=by
 unfold linkS;have h:(endS x y.net (nodeI x y.a) (lst,0)).bind (endS x y.net (nodeI x y.b))=some st:=h
 cases h1:endS x y.net (nodeI x y.a) (lst,0)with
 | none=>rw[h1]at h;cases h
 | some s1=>
  rw[h1]at h;have h:endS x y.net (nodeI x y.b) s1=some st:=h;simp only[h]
set_option maxHeartbeats 4000000 in
theorem linkF_c(x:CfgV)(y:LinkV)(g Bc Bm mb B:Nat)(lst:List PlV)(w:World)(hb:Blk w Bc 104 #[.pointer (some ⟨g,0,none⟩)])(hm:Blk w Bm 170 #[.map (some mb)])(hc:CntMap KP w mb lst)(h:CkG w g x)(hr:x.rd w B)(hB:B≤mb)(hml:x.mods.l.length≤100000)(hsl:x.sws.l.length≤100000)(hll:lst.length≤100000)(hnet:0≤y.net∧y.net≤1):
 Calls Tryz.prog 84 #[y.val,.pointer (some ⟨Bc,0,none⟩),.pointer (some ⟨Bm,0,none⟩)] w fun e w'=>e= .returned (.bool (linkS x y lst).isSome)∧(∀m,linkS x y lst=some m→CntMap KP w' mb m)∧Gr (· =mb) w w':=by
 obtain⟨y0,hy0⟩:∃y0,y0=w.alloc (.cells #[.string y.a,.string y.b,.int .i64 y.net,.int .i64 y.slow] 92):=⟨_,rfl⟩;have hB0:Below w.heap.size w y0:=by rw[hy0];exact(Below.refl _ _).alloc (Nat.le_refl _) _
 have hb0:Blk y0 w.heap.size 92 #[.string y.a,.string y.b,.int .i64 y.net,.int .i64 y.slow]:=by rw[hy0];exact Blk.new w _ _
 have hnb:=ne_cnt hb hc;have hnm:=ne_cnt hm hc;have hng:=ne_cnt h hc;have hmbl:=hc.lt;have hbcl:=hb.lt;have hbml:=hm.lt;have hgl:=Blk.lt h;have hBs:B≤y0.heap.size:=by have:=hB0.size;omega
 have hr0:x.rd y0 B:=hr.to_ (Nat.le_refl _) (fun b o hb=>hB0.cell (p:=⟨b,o,none⟩) (by show b<w.heap.size;omega));have hall:∀W,Gr (· =mb) y0 W→Blk W Bc 104 #[.pointer (some ⟨g,0,none⟩)]∧CkG W g x∧Blk W w.heap.size 92 #[.string y.a,.string y.b,.int .i64 y.net,.int .i64 y.slow]∧Blk W Bm 170 #[.map (some mb)]∧x.rd W B∧B≤W.heap.size:=fun W hG=>
  ⟨hG.blk (hb.below hB0 hb.lt) hnb,(CkG.below h hB0).gr hG hng,hG.blk hb0 (by omega),hG.blk (hm.below hB0 hm.lt) hnm,hr0.to_ (Nat.le_refl _) (gr_cell hG hBs fun k e=>by subst e;exact hB),Nat.le_trans hBs hG.size⟩
 have HS0:∀W,Below y0.heap.size y0 W→(fun W=>W.cell? ⟨Bc,0,none⟩=some (.pointer (some ⟨g,0,none⟩))∧W.cell? ⟨g,0,none⟩=some (.slice x.mods.a x.mods.l.length x.mods.c)∧W.cell? ⟨g,1,none⟩=some (.slice x.chans.a x.chans.l.length x.chans.c)∧W.cell? ⟨g,2,none⟩=some (.slice x.sws.a x.sws.l.length x.sws.c)∧W.cell? ⟨g,3,none⟩=some (.slice x.links.a x.links.l.length x.links.c)∧W.cell? ⟨g,4,none⟩=some (.slice x.vls.a x.vls.l.length x.vls.c)∧W.cell? ⟨g,5,none⟩=some (.slice x.hea.a x.hea.l.length x.hea.c)∧W.cell? ⟨g,6,none⟩=some (.slice x.causes.a x.causes.l.length x.causes.c)∧W.cell? ⟨g,7,none⟩=some (.slice x.vers.a x.vers.l.length x.vers.c)∧W.cell? ⟨w.heap.size,0,none⟩=some (.string y.a)∧W.cell? ⟨w.heap.size,1,none⟩=some (.string y.b)∧W.cell? ⟨w.heap.size,2,none⟩=some (.int .i64 y.net)∧W.cell? ⟨w.heap.size,3,none⟩=some (.int .i64 y.slow)) W:=fun W hW=>by
  obtain⟨h1,h2,h3,-,-,-⟩:=hall W (Gr.of_below hW);exact⟨h1.cell 0,h2.cell 0,h2.cell 1,h2.cell 2,h2.cell 3,h2.cell 4,h2.cell 5,h2.cell 6,h2.cell 7,h3.cell 0,h3.cell 1,h3.cell 2,h3.cell 3⟩
 have hna:=fun W (hW:Below y0.heap.size y0 W)=>node_c x y.a W ((hall W (Gr.of_below hW)).2.2.2.2.1.more (hall W (Gr.of_below hW)).2.2.2.2.2) (by omega) (by omega)
 have hnb2:=fun W (hW:Below y0.heap.size y0 W)=>node_c x y.b W ((hall W (Gr.of_below hW)).2.2.2.2.1.more (hall W (Gr.of_below hW)).2.2.2.2.2) (by omega) (by omega)
 have HLn:=lz (fun(k:Nat) (hk:k≤2) (h:stk x y.net (nodeI x y.a) (nodeI x y.b) lst k=none)=>linkS_none (y:=y) hk h);have HLs:=lz (fun(st:List PlV×Int) (h:stk x y.net (nodeI x y.a) (nodeI x y.b) lst 2=some st)=>linkS_some (y:=y) h);have hla:=nodeI_lt x y.a;have hla2:=nodeI_lo x y.a;have hlb:=nodeI_lt x y.b;have hlb2:=nodeI_lo x y.b;obtain⟨a,ha⟩:∃a,a=nodeI x y.a:=⟨_,rfl⟩;obtain⟨b,hb'⟩:∃b,b=nodeI x y.b:=⟨_,rfl⟩;simp only[←ha]at hna HLn HLs hla hla2;simp only[←hb']at hnb2 HLn HLs hlb hlb2;have Hna:=lz hna;have Hnb:=lz hnb2;have HS:=lz HS0;have Hall:=lz hall;have HB0:=lz hB0;have Hy0:=lz hy0;have Hc0:=lz (hc.next hB0);have hHeld:=HS0 y0.drew (Below.refl _ y0).drew;clear ha hb' hna hnb2 HS0 hall hB0 hy0 hc hb hm h hr hr0 hb0;go_enter Tryz.func84,Tryz.ntmps84;go_wp2_with fail;rw[←Hy0.out];refine wp_region_S (fun W=>W.cell? ⟨Bc,0,none⟩=some (.pointer (some ⟨g,0,none⟩))∧W.cell? ⟨g,0,none⟩=some (.slice x.mods.a x.mods.l.length x.mods.c)∧W.cell? ⟨g,1,none⟩=some (.slice x.chans.a x.chans.l.length x.chans.c)∧W.cell? ⟨g,2,none⟩=some (.slice x.sws.a x.sws.l.length x.sws.c)∧W.cell? ⟨g,3,none⟩=some (.slice x.links.a x.links.l.length x.links.c)∧W.cell? ⟨g,4,none⟩=some (.slice x.vls.a x.vls.l.length x.vls.c)∧W.cell? ⟨g,5,none⟩=some (.slice x.hea.a x.hea.l.length x.hea.c)∧W.cell? ⟨g,6,none⟩=some (.slice x.causes.a x.causes.l.length x.causes.c)∧W.cell? ⟨g,7,none⟩=some (.slice x.vers.a x.vers.l.length x.vers.c)∧W.cell? ⟨w.heap.size,0,none⟩=some (.string y.a)∧W.cell? ⟨w.heap.size,1,none⟩=some (.string y.b)∧W.cell? ⟨w.heap.size,2,none⟩=some (.int .i64 y.net)∧W.cell? ⟨w.heap.size,3,none⟩=some (.int .i64 y.slow)) 15 kz hHeld (fun hHeld=> ?_);refine TS 0 rfl hHeld ?_
 simp only[zP,zA,zB,zC];refine TS 1 rfl hHeld ?_
 simp only[zP,zA,zB,zC];refine TS 2 rfl hHeld ?_
 simp only[zP,zA,zB,zC];refine TS 3 rfl hHeld ?_
 simp only[zP,zA,zB,zC];refine TS 4 rfl hHeld ?_
 simp only[zP,zA,zB,zC];refine TS 5 rfl hHeld ?_
 simp only[zP,zA,zB,zC];refine TS 7 rfl hHeld ?_
 simp only[zP,zA,zB,zC];refine TS 8 rfl hHeld ?_
 simp only[zP,zA,zB,zC];refine TS 9 rfl hHeld ?_
 simp only[zP,zA,zB,zC];refine TS 10 rfl hHeld ?_
 simp only[zP,zA,zB,zC];refine TS 11 rfl hHeld ?_
 simp only[zP,zA,zB,zC];refine TS 12 rfl hHeld ?_
 simp only[zP,zA,zB,zC];refine RQ 6 rfl fun K hK=> ?_;go_simp;refine(Hna.out _ (Below.refl _ y0).drew).mono ?_;rintro e w1 ⟨rfl,hb1⟩;have hb1:Below y0.heap.size y0 w1:=(Below.refl _ y0).drew.trans hb1;have hHeld:=HS.out _ hb1;have Hb1:=lz hb1;refine hK.out _ _ (fun _=>hHeld) ?_;clear hK hb1;refine RQ 13 rfl fun K hK=> ?_;go_simp;refine(Hnb.out _ Hb1.out).mono ?_;rintro e w2 ⟨rfl,hb2⟩;have hb2:=Hb1.out.trans (hb2.mono Hb1.out.size);have hHeld:=HS.out _ hb2;have Hb2:=lz hb2;refine hK.out _ _ (fun _=>hHeld) ?_;clear hK hb2 Hb1;refine RQ 14 rfl fun K hK=> ?_;go_simp;obtain⟨w3,hw3⟩:∃w3,w3=w2.alloc (.cells #[.int .i64 a,.int .i64 b] 3):=⟨_,rfl⟩;have hB3:Below y0.heap.size y0 w3:=by rw[hw3];exact Hb2.out.alloc Hb2.out.size _
 have hrow:Blk w3 w2.heap.size 3 #[.int .i64 a,.int .i64 b]:=by rw[hw3];exact Blk.new w2 _ _
 rw[←hw3];have hHeld:=HS.out _ hB3;have HB3:=lz hB3;have Hrow:=lz hrow;have hz2:=Hb2.out.size;have hz0:w.heap.size<y0.heap.size:=by have h9:=Hall.out y0 (Gr.refl _ _);exact h9.2.2.1.lt
 refine hK.out _ _ (fun _=>hHeld) ?_;clear hK hB3 hw3 hrow Hna Hnb;refine RQ 15 rfl fun K hK=> ?_;go_simp;refine hK.out _ _ (fun h=>absurd h (by decide)) ?_;clear hK hHeld;refine wpAnyS_done kz ?_ _;obtain⟨be,hbe⟩:∃be,be=w2.heap.size:=⟨_,rfl⟩;rw[←hbe]at Hrow hz2 ⊢;have Hc3:=lz (Hc0.out.next HB3.out);clear hbe Hb2 HS;go_wp2_with fail;go_loopw [6,27] (fun s t wr=>∃(k:Nat) (st:List PlV×Int),k≤2∧t= .int .i64 k∧s= .int .i64 st.2∧Hid (stk x y.net a b lst k=some st)∧CntMap KP wr mb st.1∧Gr (· =mb) w3 wr) (fun s t wr=>2-(intOf t).toNat)
 case atStart=>exact⟨0,(lst,0),by omega,rfl,rfl,lz rfl,Hc3.out,Gr.refl _ _⟩
 case round=>
  obtain⟨k,⟨pl,sc⟩,hk,rfl,rfl,hst,hcm,hG3⟩:=hrel;dsimp only at hcm ⊢;have hlen:=stk_len hk hst.out;have hG0:Gr (· =mb) y0 wr:=(Gr.of_below HB3.out).trans hG3;have hrw:=hG3.blk Hrow.out (by omega);obtain⟨g1,g2,g3,g4,g5,g6⟩:=Hall.out _ hG0;have c0:=g1.cell 0;have k0:=g2.cell 0;have k2:=g2.cell 2;have y2:=g3.cell 2;have m0:=g4.cell 0;have r0:=hrw.cell 0;have r1:=hrw.cell 1;have gl1:=g1.lt;have gl2:=Blk.lt g2;have gl3:=g3.lt;have gl4:=g4.lt;have gl5:=hrw.lt;by_cases hlt:k<2
  ·obtain⟨n,hn⟩:∃n,n=(if k=0 then a else b):=⟨_,rfl⟩
   have hnx:=stk_next hlt hst.out;rw[←hn]at hnx;have rk:wr.cell? ⟨be,k,none⟩=some (.int .i64 n):=by
    have h2:k=0∨k=1:=by omega
    rcases h2 with rfl | rfl
    ·rw[hn];exact r0
    ·rw[hn];exact r1
   have hnr: -1≤n∧n<x.mods.l.length+x.sws.l.length:=by
    rw[hn];split<;>exact⟨by omega,by omega⟩
   have hwk:IntKind.i64.wrap (n-(x.mods.l.length:Int))=n-x.mods.l.length:=IntWalk.i64_in _ ⟨by omega,by omega⟩;have hi1:(k:Int)<2:=by omega
   have Hnx:=lz hnx;have Hcm:=lz hcm;have HG3:=lz hG3;have HG0:=lz hG0;have Hst:=lz hst.out;clear hn hnx hcm hG3 hG0 hrw r0 r1 g1 g2 g3 g4 hst;by_cases hn0:n<0
   ·have d0:decide (n<0)=true:=decide_eq_true hn0
    have HE:=lz (HLn.out (k+1) (by omega) (by rw[Hnx.out];unfold endS;rw[if_pos hn0]));have hec:=ext_cell wr;go_wp2_with fail;refine wp_region_ext kz kz ?_;repeat (go_big_quiet_step (fail))
    refine wpQuiet_nil ?_;intro _ hw';obtain⟨xx,hw''⟩:=hw';subst hw'';have HX:=lz xx.h;clear hec c0 k0 k2 y2 m0 rk;generalize xx.w=w5 at *;go_wp2_with fail;go_ret;refine⟨by rw[HE.out]<;>rfl,?_,(Gr.of_below HB0.out).trans (HG0.out.trans (Gr.of_below HX.out))⟩;intro m hm;rw[HE.out]at hm
    cases hm
   ·have d0:decide (n<0)=false:=decide_eq_false hn0
    by_cases hk9:n-(x.mods.l.length:Int)≥0
    ·obtain⟨j,hj,hjl⟩:∃j:Nat,n-(x.mods.l.length:Int)=(j:Int)∧j<x.sws.l.length:=⟨(n-(x.mods.l.length:Int)).toNat,by omega,by omega⟩
     obtain⟨b',o,hA,hbb,hcc⟩:=g5.sws (by omega);obtain⟨s0,s1,s2,s3⟩:=hcc j hjl;have s1:wr.cell? ⟨b',o+(n.toNat-x.mods.l.length)*4+1,none⟩=some (.int .i64 x.sws.l[j].net):=by rw[show n.toNat-x.mods.l.length=j by omega];exact s1
     have hi3:n-(x.mods.l.length:Int)<(x.sws.l.length:Int):=by omega
     have hi4:(0:Int)≤n-(x.mods.l.length:Int):=by omega
     have hi5:(x.mods.l.length:Int)≤n:=by omega
     have hbl:b'<wr.heap.size:=by omega
     have hend:endS x y.net n (pl,sc)=if x.sws.l[j].net=y.net then some (pl,sc+1)else none:=by
      unfold endS;rw[if_neg hn0,if_pos hk9,hj,Int.toNat_natCast,List.getElem?_eq_getElem hjl];rfl
     rw[hA]at k2;rw[hend]at Hnx;have d1:decide (n-(x.mods.l.length:Int)≥0)=true:=decide_eq_true hk9;have d1b:decide ((x.mods.l.length:Int)≤n)=true:=decide_eq_true hi5;obtain⟨nj,hnj⟩:∃v,v=x.sws.l[j].net:=⟨_,rfl⟩;rw[←hnj]at s1 Hnx;clear hend hj hcc s0 s2 s3 hnj g5 hA;by_cases hne:nj=y.net
     ·have hq:(nj==y.net)=true:=by simpa using hne
      rw[if_pos hne]at Hnx;subst hne;have hws:IntKind.i64.wrap (sc+1)=sc+1:=IntWalk.i64_in _ ⟨by omega,by omega⟩;have hec:=ext_cell wr;go_wp2_with fail;refine wp_region_ext kz kz ?_;repeat (go_big_quiet_step (fail))
      refine wpQuiet_nil ?_;intro _ hw';obtain⟨xx,hw''⟩:=hw';subst hw'';have HX:=lz xx.h;clear hec c0 k0 k2 y2 m0 rk;generalize xx.w=w5 at *;clear s1;go_wp2_with fail;go_roundw
      case rel=>exact⟨k+1,(pl,sc+1),by omega,by go_num,rfl,lz Hnx.out,Hcm.out.next HX.out,HG3.out.trans (Gr.of_below HX.out)⟩
      case measure=>simp[intOf];omega
     ·have hq:(nj==y.net)=false:=by simpa using hne
      rw[if_neg hne]at Hnx;have HE:=lz (HLn.out (k+1) (by omega) Hnx.out);have hec:=ext_cell wr;go_wp2_with fail;refine wp_region_ext kz kz ?_;repeat (go_big_quiet_step (fail))
      refine wpQuiet_nil ?_;intro _ hw';obtain⟨xx,hw''⟩:=hw';subst hw'';have HX:=lz xx.h;clear hec c0 k0 k2 y2 m0 rk;generalize xx.w=w5 at *;go_wp2_with fail;go_ret;refine⟨by rw[HE.out]<;>rfl,?_,(Gr.of_below HB0.out).trans (HG0.out.trans (Gr.of_below HX.out))⟩;intro m hm;rw[HE.out]at hm
      cases hm
    ·have d1:decide (n-(x.mods.l.length:Int)≥0)=false:=decide_eq_false hk9
     have hend:endS x y.net n (pl,sc)=if memB ⟨n,y.net⟩ pl=true then none else some (pl++ [⟨n,y.net⟩],sc):=by
      unfold endS;rw[if_neg hn0,if_neg hk9]
     rw[hend]at Hnx;have hi5:¬(x.mods.l.length:Int)≤n:=by omega
     have d1b:decide ((x.mods.l.length:Int)≤n)=false:=decide_eq_false hi5;clear hend;have hec:=ext_cell wr;go_wp2_with fail;refine wp_region_ext kz kz ?_;repeat (go_big_quiet_step (fail))
     refine wpQuiet_nil ?_;intro _ hw';obtain⟨xx,hw''⟩:=hw';subst hw'';have HX:=lz xx.h;clear hec c0 k0 k2 y2 m0 rk;generalize xx.w=w5 at *;have hok:PlV.ok ⟨n,y.net⟩:=⟨WalkArith.wf_i64 (by dsimp only;omega),WalkArith.wf_i64 (by dsimp only;omega)⟩;have hpl:pl.length<maxLen:=by unfold maxLen;have:=hlen.1;omega
     have hcm5:CntMap KP w5.drew mb pl:=(Hcm.out.next HX.out).drew;have hlk:(Instr.lookup 170 (.map (some mb)) (.agg #[.int .i64 n,.int .i64 y.net]) false).run Tryz.prog w5.drew= .ok (.int .i64 (cntB ⟨n,y.net⟩ pl)) w5.drew:=hcm5.run_look (M:=KP) (y:=⟨n,y.net⟩) hok;obtain⟨v0,stq,W1,W2,hE,hL,hSt,hC2,hg2,hcell⟩:=hcm5.entryK (M:=KP) lawP KP.und hpl (y:=⟨n,y.net⟩) hok;have hG5:Gr (· =mb) y0 w5:=HG0.out.trans (Gr.of_below HX.out);obtain⟨g1,g2,g3,g4,g5,g6⟩:=Hall.out _ hG5;have c3:=g3.cell 2;have c4:=g4.cell 0;have c5:=(hcell ⟨w.heap.size,2,none⟩ (by show w.heap.size≠mb;omega)).trans c3;have c6:=(hcell ⟨Bm,0,none⟩ (by show Bm≠mb;exact hnm)).trans c4;have hcl':=cnt_le (⟨n,y.net⟩:PlV) pl;have hcb:(cntB (⟨n,y.net⟩:PlV) pl:Int)≤9223372036854775806:=by unfold maxLen at hpl;omega
     have hc0:(0:Int)≤(cntB (⟨n,y.net⟩:PlV) pl:Int):=by omega
     have hwr:IntKind.i64.wrap ((cntB (⟨n,y.net⟩:PlV) pl:Int)+1)=(cntB (⟨n,y.net⟩:PlV) pl:Int)+1:=IntWalk.i64_in _ (by omega);have hE:(Instr.mapEntry 170 (.map (some mb)) (.agg #[.int .i64 n,.int .i64 y.net])).run Tryz.prog w5.drew= .ok (.tuple #[v0,.int .i64 ((stq:Nat):Int)]) W1:=hE;have hL:(Instr.lookup 170 (.map (some mb)) (.agg #[.int .i64 n,.int .i64 y.net]) false).run Tryz.prog W1= .ok (.int .i64 (cntB (⟨n,y.net⟩:PlV) pl)) W1:=hL;have hSt:(Instr.entryStore 170 (.map (some mb)) (.int .i64 ((stq:Nat):Int)) (.int .i64 ((cntB (⟨n,y.net⟩:PlV) pl:Int)+1))).run Tryz.prog W1= .ok () W2:=hSt;have hlk2:(Instr.lookup 170 (.map (some mb)) (.agg #[.int .i64 n,.int .i64 y.net]) false).run Tryz.prog W2= .ok (.int .i64 (cntB (⟨n,y.net⟩:PlV) (pl++ [⟨n,y.net⟩]))) W2:=hC2.run_look (M:=KP) (y:=⟨n,y.net⟩) hok;have hG2:Gr (· =mb) w5 W2:=⟨hg2.os,hg2.tape,hg2.output,hg2.size,fun i hi hne=>hg2.block i hi (fun e=>hne (Option.some.inj e))⟩;obtain⟨h1,h2,h3,h4,h5,h6⟩:=Hall.out _ (hG5.trans hG2);have e3:=h3.cell 2;have e4:=h4.cell 0;have hpush:=cnt_push (⟨n,y.net⟩:PlV) (⟨n,y.net⟩:PlV) pl;rw[if_pos rfl]at hpush;have hgt:=cnt_gt (⟨n,y.net⟩:PlV) pl;obtain⟨cn,hcn⟩:∃c,c=cntB (⟨n,y.net⟩:PlV) pl:=⟨_,rfl⟩;rw[hpush,←hcn]at hlk2;rw[←hcn]at hL hlk hSt hwr hcb hc0 hgt;have HC2:=lz hC2;have HG2:=lz hG2;have HG5:=lz hG5;clear hC2 hG2 hG5 hg2 hcell hcl' hpush hcn g1 g2 g3 g4 g5 g6 h1 h2 h3 h4 h5 h6 hcm5 hok hpl
     cases hmem:memB (⟨n,y.net⟩:PlV) pl with
     | true=>
      rw[hmem]at hgt;rw[if_pos hmem]at Hnx;have HE:=lz (HLn.out (k+1) (by omega) Hnx.out);have h7:decide (((cn+1:Nat):Int)>1)=true:=by have:=of_decide_eq_true hgt;exact decide_eq_true (by omega)
      have h8:decide (1<cn+1)=true:=by have:=of_decide_eq_true hgt;exact decide_eq_true (by omega)
      have h9:0<cn:=of_decide_eq_true hgt;clear hgt hmem;go_wp2_with fail;go_region;go_wp2_with fail;go_ret;refine⟨by rw[HE.out]<;>rfl,?_,(Gr.of_below HB0.out).trans (HG5.out.trans HG2.out)⟩;intro m hm;rw[HE.out]at hm
      cases hm
     | false=>
      rw[hmem]at hgt;rw[if_neg (by rw[hmem];decide)]at Hnx;have h9:¬0<cn:=of_decide_eq_false hgt;have h8:decide (1<cn+1)=false:=decide_eq_false (by omega);have h7:decide (((cn+1:Nat):Int)>1)=false:=decide_eq_false (by omega);clear hgt hmem;go_wp2_with fail;go_region;go_wp2_with fail;go_roundw
      case rel=>exact⟨k+1,(pl++ [⟨n,y.net⟩],sc),by omega,by go_num,rfl,lz Hnx.out,HC2.out,(HG3.out.trans (Gr.of_below HX.out)).trans HG2.out⟩
      case measure=>simp[intOf];omega
  ·obtain rfl:k=2:=by omega
   have HF:=lz (HLs.out _ hst.out);have hs2:=hlen.2;simp only at hs2;have Hcm:=lz hcm;have HG0:=lz hG0;clear hcm hG3 hG0 hrw g1 g2 g3 g4 hst hlt c0 k0 k2 y2 m0 hlen;by_cases hs0:sc>0;rotate_left
   ·have HE:=lz (show linkS x y lst=none by rw[HF.out,if_neg (fun h=>hs0 h.1)])
    have d1:decide (sc>0)=false:=decide_eq_false hs0;have d2:decide (0<sc)=false:=d1;have d3:¬0<sc:=hs0;have hec:=ext_cell wr;go_wp2_with fail;refine wp_region_ext kz kz ?_;repeat (go_big_quiet_step (fail))
    refine wpQuiet_nil ?_;intro _ hw';obtain⟨xx,hw''⟩:=hw';subst hw'';have HX:=lz xx.h;clear hec r0 r1;generalize xx.w=w5 at *;go_wp2_with fail;go_ret;refine⟨by rw[HE.out]<;>rfl,?_,(Gr.of_below HB0.out).trans (HG0.out.trans (Gr.of_below HX.out))⟩;intro m hm;rw[HE.out]at hm
    cases hm
   ·have d1:decide (sc>0)=true:=decide_eq_true hs0
    have d2:decide (0<sc)=true:=d1;have d3:0<sc:=hs0;by_cases hab:a=b
    ·have HE:=lz (show linkS x y lst=none by rw[HF.out,if_neg (fun h=>h.2 hab)])
     have d4:(a==b)=true:=by simpa using hab
     clear hs0;have hec:=ext_cell wr;go_wp2_with fail;refine wp_region_ext kz kz ?_;repeat (go_big_quiet_step (fail))
     refine wpQuiet_nil ?_;intro _ hw';obtain⟨xx,hw''⟩:=hw';subst hw'';have HX:=lz xx.h;clear hec r0 r1;generalize xx.w=w5 at *;go_wp2_with fail;go_ret;refine⟨by rw[HE.out]<;>rfl,?_,(Gr.of_below HB0.out).trans (HG0.out.trans (Gr.of_below HX.out))⟩;intro m hm;rw[HE.out]at hm
     cases hm
    ·have HE:=lz (show linkS x y lst=some pl by rw[HF.out,if_pos ⟨hs0,hab⟩])
     have d4:(a==b)=false:=by simpa using hab
     clear hs0;have hec:=ext_cell wr;go_wp2_with fail;refine wp_region_ext kz kz ?_;repeat (go_big_quiet_step (fail))
     refine wpQuiet_nil ?_;intro _ hw';obtain⟨xx,hw''⟩:=hw';subst hw'';have HX:=lz xx.h;clear hec r0 r1;generalize xx.w=w5 at *;go_wp2_with fail;go_ret;refine⟨?_,?_,(Gr.of_below HB0.out).trans (HG0.out.trans (Gr.of_below HX.out))⟩
     ·rw[HE.out]
      show Ending.returned (.bool (a !=b))=_;rw[show(a !=b)=true from by simpa using hab];rfl
     intro m hm;rw[HE.out]at hm;injection hm with hm
     subst hm;exact Hcm.out.next HX.out
theorem linksS_snoc(x:CfgV)(y:LinkV):∀(l:List LinkV) (met:List PlV),linksS x (l++ [y]) met=(linksS x l met).bind (linkS x y)
 | [],met=>by
  show(match linkS x y met with | none=>none | some m=>linksS x [] m)=linkS x y met
  cases linkS x y met<;>rfl
 | z :: r,met=>by
  show(match linkS x z met with | none=>none | some m=>linksS x (r++ [y]) m)=(match linkS x z met with | none=>none | some m=>linksS x r m).bind (linkS x y)
  cases linkS x z met with
  | none=>rfl
  | some m=>exact linksS_snoc x y r m
theorem linkS_len{x:CfgV}{y:LinkV}{lst m:List PlV}(h:linkS x y lst=some m):m.length≤lst.length+2:=by
 unfold linkS at h
 cases h1:endS x y.net (nodeI x y.a) (lst,0)with
 | none=>rw[h1]at h;cases h
 | some s1=>
  rw[h1]at h;simp only at h
  cases h2:endS x y.net (nodeI x y.b) s1 with
  | none=>rw[h2]at h;cases h
  | some s2=>
   rw[h2]at h;simp only at h;split at h
   ·injection h with h
    subst h;have:=(endS_len h1).1;have:=(endS_len h2).1;simp only at *;omega
   ·cases h
theorem take_snoc{α:Type}{l:List α}{k:Nat}(hk:k<l.length):l.take (k+1)=l.take k++ [l[k]]:=List.take_succ_eq_append_getElem hk
theorem links_pre(x:CfgV)(l:List LinkV):∀k,k≤l.length→(linksS x l []).isSome=true→(linksS x (l.take k) []).isSome=true:=by
 intro k hk h;obtain⟨d,hd⟩:∃d,d=l.length-k:=⟨_,rfl⟩
 induction d generalizing k with
 | zero=>rw[List.take_of_length_le (by omega)];exact h
 | succ d ih=>
  have:=ih (k+1) (by omega) (by omega);rw[take_snoc (by omega),linksS_snoc]at this
  cases h2:linksS x (l.take k) []with
  | none=>rw[h2]at this;cases this
  | some m=>rfl
theorem links_all(x:CfgV)(l:List LinkV):((List.range l.length).all fun k=>(linksS x (l.take (k+1)) []).isSome)=(linksS x l []).isSome:=by
 cases h:(linksS x l []).isSome with
 | true=>
  rw[List.all_eq_true];intro k hk;exact links_pre x l (k+1) (by simp at hk;omega) h
 | false=>
  cases hl:l with
  | nil=>rw[hl]at h;cases h
  | cons y r=>
   rw[←hl];have hn:0<l.length:=by rw[hl];simp
   rw[List.all_eq_false];exact⟨l.length-1,by simp;omega,by rw[show l.length-1+1=l.length by omega,List.take_length,h];decide⟩
set_option maxHeartbeats 1000000 in
theorem links_g(x:CfgV)(g:Nat)(w:World)(h:CkG w g x)(hr:x.rd w w.heap.size)(hml:x.mods.l.length≤100000)(hsl:x.sws.l.length≤100000)(hll:x.links.l.length≤40000)(hnet:∀y∈x.links.l,0≤y.net∧y.net≤1):CU 28 #[.pointer (some ⟨g,0,none⟩)] w (.bool (linksP x)):=by
 obtain⟨y0,hy0⟩:∃y0,y0=((w.alloc (.cells #[.pointer (some ⟨g,0,none⟩)] 104)).alloc (.map #[] 0)).alloc (.cells #[.map (some (w.heap.size+1))] 170):=⟨_,rfl⟩;have hB0:Below w.heap.size w y0:=by rw[hy0];exact(((Below.refl _ w).alloc (Nat.le_refl _) _).alloc (by simp) _).alloc (by simp;omega) _
 have hb0:Blk y0 w.heap.size 104 #[.pointer (some ⟨g,0,none⟩)]:=by rw[hy0];exact((Blk.new w _ _).alloc _).alloc _
 have hc:CntMap KP y0 (w.heap.size+1) []:=by rw[hy0];have:=CntMap.made (M:=KP) (w.alloc (.cells #[.pointer (some ⟨g,0,none⟩)] 104));rw[World.size_alloc]at this;exact this.alloc _
 have hm:Blk y0 (w.heap.size+1+1) 170 #[.map (some (w.heap.size+1))]:=by rw[hy0];have:=Blk.new ((w.alloc (.cells #[.pointer (some ⟨g,0,none⟩)] 104)).alloc (.map #[] 0)) 170 #[.map (some (w.heap.size+1))];simp only[World.size_alloc]at this;exact this
 have hz:y0.heap.size=w.heap.size+3:=by rw[hy0];simp
 have hg0:=h.below hB0;have hgl:=Blk.lt h;have hr0:x.rd y0 w.heap.size:=hr.to_ (Nat.le_refl _) (bcell hB0);have hcall:=callT_Link 84 #[.pointer (some ⟨w.heap.size,0,none⟩),.pointer (some ⟨w.heap.size+1+1,0,none⟩)] (fun k=>(linksS x (x.links.l.take (k+1)) []).isSome)
  (fun k W=>∃lst,linksS x (x.links.l.take k) []=some lst∧lst.length≤2*k∧CntMap KP W (w.heap.size+1) lst∧Gr (fun k=>k=w.heap.size+1) y0 W)
  (fun k=>k=w.heap.size+1) w.heap.size (enters_of Tryz.func84 kz rfl) x.links.l x.links.a x.links.c y0
  (fun k hk W hJ=>by
   obtain⟨lst,h1,h2,h3,h4⟩:=hJ;have hs:linksS x (x.links.l.take (k+1)) []=linkS x x.links.l[k] lst:=by rw[take_snoc hk,linksS_snoc,h1];rfl
   have hsz:=h4.size;refine(linkF_c x x.links.l[k] g w.heap.size (w.heap.size+1+1) (w.heap.size+1) w.heap.size lst W (h4.blk hb0 (by omega)) (h4.blk hm (by omega)) h3 (hg0.gr h4 (by omega)) (hr0.to_ (Nat.le_refl _) (gr_cell h4 (by omega) (fun k e=>by omega))) (by omega) hml hsl (by omega) (hnet _ (List.getElem_mem hk))).mono ?_;rintro e W' ⟨rfl,h5,h6⟩;refine⟨by simp only[hs],fun hq=> ?_,h6⟩;simp only[hs]at hq;obtain⟨m,hm'⟩:=Option.isSome_iff_exists.1 hq;exact⟨m,by rw[hs,hm'],by have:=linkS_len hm';omega,h5 m hm',h4.trans h6⟩)
  (fun k W o hJ=>by
   obtain⟨lst,h1,h2,h3,h4⟩:=hJ;exact⟨lst,h1,h2,h3.alloc _,h4.trans (Gr.alloc _ _ _)⟩)
  ⟨[],rfl,by simp,hc,Gr.refl _ _⟩ hr0.links (by omega) (fun k e=>by omega) (by omega)
 rw[links_all]at hcall;have HP:=lz (show linksP x=(linksS x x.links.l []).isSome from rfl);obtain⟨q,hq⟩:∃q,q=(linksS x x.links.l []).isSome:=⟨_,rfl⟩;rw[←hq]at hcall HP;have k3:=hy0▸hg0.cell 3;have Hc:=lz hcall;have HB0:=lz hB0;have Hy0:=lz hy0;have hmk:= @run_makeMap Tryz.prog;clear hcall hq hB0 hy0 hb0 hc hm hz hg0 hr0 hr h hnet;go_enter Tryz.func28,Tryz.ntmps28;go_wp2_with fail;rw[←Hy0.out];refine Hc.out.mono ?_;rintro e y1 ⟨rfl,hg1⟩;have HG:=lz hg1;clear hg1 Hc k3;go_wp2_with fail;go_ret;exact⟨by rw[HP.out]<;>rfl,⟨HG.out.os.trans HB0.out.os,HG.out.tape.trans HB0.out.tape,HG.out.output.trans HB0.out.output,Nat.le_trans HB0.out.size HG.out.size,fun k hk=>(HG.out.block k (by have:=HB0.out.size;omega) (by omega)).trans (HB0.out.block k hk)⟩⟩
end Go.Proofs.YtchfcgilpjkmhaaGreatDoor
