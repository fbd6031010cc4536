import Derived.Test.YtchfcgilpjkmhaaGreatDoorY9
import Derived.Test.YtchfcgilpjkmhaaGreatDoorY40
import Derived.Test.YtchfcgilpjkmhaaGreatDoorY15
import Derived.Test.YtchfcgilpjkmhaaGreatDoorY0
set_option maxRecDepth 100000
set_option linter.unusedSimpArgs false
set_option linter.unusedVariables false
set_option linter.unusedSectionVars false
namespace Go.Proofs.YtchfcgilpjkmhaaGreatDoor
open Go.ChangeShapes Go.WideShapes Go.ChangeAt Go.RowKit
attribute [local go_sem] Oper.semAt_some
set_option maxHeartbeats 4000000 in
theorem report_no(L:List CsV)(reps:List Rep)(r:Rep)(g mb:Nat)(A:Option Addr)(c:Nat)(w:World)(hg:Blk w g 103 #[.slice A L.length c,.map (some mb)])(h:RdCs w w.heap.size A L)(hl:L.length≤100000)(hn:∀x∈L,x.c.needs.length≤1000)
 (hk:(L.any fun x=>needB r x.c)=false):
 CU 8 #[.pointer (some ⟨g,0,none⟩),r.val] w (.int .i64 2):=by
 obtain⟨w1,hw1⟩:∃w1,w1=w.alloc (.cells #[.string r.unit,.int .i64 r.code] 41):=⟨_,rfl⟩;have hB1:Below w.heap.size w w1:=by rw[hw1];exact(Below.refl _ _).alloc (Nat.le_refl _) _
 have hbx:Blk w1 w.heap.size 41 #[.string r.unit,.int .i64 r.code]:=by rw[hw1];exact Blk.new w _ _
 have hg1:Blk w1 g 103 #[.slice A L.length c,.map (some mb)]:=hg.below hB1 hg.lt;have hmade:=made_c g A L.length c (some mb) w1 hg1;have hcon:=containsCs37 35 #[.pointer (some ⟨w.heap.size,0,none⟩)] (fun x=>needB r x.c) (enters_of Tryz.func35 kz rfl) L A c w1
  (fun W x hx hW hrd=>needs_c r w.heap.size x W (hbx.below hW hbx.lt) hrd (hn x hx)) (h.below hB1) (by omega)
 rw[hk]at hcon;have c0:=hg1.cell 0;have Hcon:=lz hcon;have Hmade:=lz hmade;have HB1:=lz hB1;have HW1:=lz hw1;clear hw1 hB1 hbx hg1 hmade hcon hg h hn hk;go_enter Tryz.func8,Tryz.ntmps8;go_wp2_with fail;rw[←HW1.out];refine Hmade.out.mono ?_;rintro e w' ⟨rfl,rfl⟩;go_wp2_with fail;refine Hcon.out.mono ?_;rintro e w2 ⟨rfl,hb2⟩;have HB2:=lz (HB1.out.trans (hb2.mono HB1.out.size));clear hb2;go_wp2_with fail;go_ret;exact⟨rfl,HB2.out⟩
theorem deskReports_c(reps:List Rep)(g mb:Nat)(A:Option Addr)(n c:Nat)(w:World)(hg:Blk w g 103 #[.slice A n c,.map (some mb)])(hm:CntMap KR w mb reps)(hl:reps.length≤100000):
 Calls Tryz.prog 9 #[.pointer (some ⟨g,0,none⟩)] w fun e w'=>∃A' c' l,e= .returned (.slice A' l.length c')∧l.Nodup∧(∀x,x∈l↔x∈reps)∧Asc l∧RdRep w' w'.heap.size A' l∧Below w.heap.size w w':=by
 have hmade:=made_c g A n c (some mb) w hg;have c1:=hg.cell 1;obtain⟨m,hm1,hO⟩:=hm;have hfl:(reps.foldl addU []).length≤100000000:=by
  have:=hO.len_le;omega
 have Hso:=lz (sorted_c mb m _ _ w hO hfl);have Hmade:=lz hmade;clear hmade hO hm1 hfl hg;go_enter Tryz.func9,Tryz.ntmps9;go_wp2_with fail;refine Hmade.out.mono ?_;rintro e w' ⟨rfl,hw'⟩;subst hw';go_wp2_with fail;refine Hso.out.mono ?_;rintro e w2 ⟨A',c',l,rfl,h1,h2,h3,h4,h5⟩;have HR:=lz (And.intro h1 (And.intro h2 (And.intro h3 (And.intro h4 h5))));clear h1 h2 h3 h4 h5 Hso;go_wp2_with fail;go_ret;exact⟨A',c',l,rfl,HR.out.1,fun x=>(HR.out.2.1 x).trans fold_mem,HR.out.2.2.1,HR.out.2.2.2.1,HR.out.2.2.2.2⟩
end Go.Proofs.YtchfcgilpjkmhaaGreatDoor
namespace Go.Proofs.YtchfcgilpjkmhaaGreatDoor
open Go.ChangeShapes Go.WideShapes Go.ChangeAt Go.RowKit
structure DeskOk(L:List CsV):Prop where
 ok:∀x∈L,OkC x.c
 l:L.length≤100
 n:∀x∈L,x.c.needs.length≤1000
 wf:okV (csOf L)=true
def knownB(cs:List Cs)(r:Rep):Bool:=cs.any (needB r)
theorem known_eq(L:List CsV)(r:Rep):(L.any fun x=>needB r x.c)=knownB (csOf L) r:=by
 unfold knownB csOf;rw[List.any_map];rfl
structure DeskT(w0:World)(L2:List CsV)(dv:Value)(lst:List Rep)(W:World):Prop where
 below:Below w0.heap.size w0 W
 desk:∃g mb A2 c2,dv= .pointer (some ⟨g,0,none⟩)∧Blk W g 103 #[.slice A2 L2.length c2,.map (some mb)]∧RdCs W W.heap.size A2 L2∧CntMap KR W mb lst∧w0.heap.size≤mb
def BlkKept(W W':World):Prop:=∀b t cs,Blk W b t cs→Blk W' b t cs
theorem BlkKept.of_below{W W':World}(h:Below W.heap.size W W'):BlkKept W W':=fun b t cs hb=>hb.below h hb.lt
section
variable {w0:World} {L2:List CsV} {dv:Value} {lst:List Rep} {W W':World}
theorem DeskT.next(h:DeskT w0 L2 dv lst W)(hb:Below W.heap.size W W'):DeskT w0 L2 dv lst W' where
 below:=h.below.trans (hb.mono h.below.size)
 desk:=let ⟨g,mb,A2,c2,e,h1,h2,h3,h4⟩:=h.desk;⟨g,mb,A2,c2,e,h1.below hb h1.lt,h2.below hb,h3.next hb,h4⟩
theorem DeskT.moved{g mb:Nat}{A2:Option Addr}{c2:Nat}{lst':List Rep}(h:DeskT w0 L2 dv lst W)(e:dv= .pointer (some ⟨g,0,none⟩))(h1:Blk W g 103 #[.slice A2 L2.length c2,.map (some mb)])(h2:RdCs W W.heap.size A2 L2)(h3:CntMap KR W mb lst)(h4:w0.heap.size≤mb)
 (h5:CntMap KR W' mb lst') (hg:W.grownBy W' (some mb)):DeskT w0 L2 dv lst' W' where
 below:=h.below.grown hg h.below.size (fun j e=>by cases e;exact h4)
 desk:=⟨g,mb,A2,c2,e,(hg.block g h1.lt (fun e=>ne_map h1 h3 (Option.some.inj e))).trans h1,h2.to_ hg.size (cells_of h3 h5 hg),h5,h4⟩
theorem dt_report(O:DeskOk L2)(h:DeskT w0 L2 dv lst W)(r:Rep)(hr:r.ok)(hl:lst.length≤100000):
 Calls Tryz.prog 8 #[dv,r.val] W fun e w'=>e= .returned (.int .i64 (if knownB (csOf L2) r=true then 0 else 2))∧DeskT w0 L2 dv (if knownB (csOf L2) r=true then lst++ [r]else lst) w'∧BlkKept W w':=by
 obtain⟨g,mb,A2,c2,e,h1,h2,h3,h4⟩:=h.desk;subst e;have hll:=O.l
 cases hk:knownB (csOf L2) r with
 | true=>
  have hk2:(L2.any fun x=>needB r x.c)=true:=by rw[known_eq,hk]
  refine(report_c L2 lst r g mb A2 c2 W h1 h2 (by omega) O.n h3 hr (by unfold maxLen;omega) hk2).mono ?_;rintro e w' ⟨rfl,h5,hg⟩;exact⟨rfl,h.moved rfl h1 h2 h3 h4 h5 hg,fun b t cs hb=>(hg.block b hb.lt (fun e=>ne_map hb h3 (Option.some.inj e))).trans hb⟩
 | false=>
  have hk2:(L2.any fun x=>needB r x.c)=false:=by rw[known_eq,hk]
  refine(report_no L2 lst r g mb A2 c2 W h1 h2 (by omega) O.n hk2).mono ?_;rintro e w' ⟨rfl,hb⟩;exact⟨rfl,h.next hb,BlkKept.of_below hb⟩
theorem dt_replace(O:DeskOk L2)(h:DeskT w0 L2 dv lst W)(u:ByteArray)(hu:u.size≤maxLen):
 Calls Tryz.prog 11 #[dv,.string u] W fun e w'=>if memB u (accV (csOf L2) lst)=true then
  e= .returned (.tuple #[.int .i64 ((explV L2 lst (accV (csOf L2) lst) u).foldl addU []).length,.int .i64 0])∧DeskT w0 L2 dv (restR lst (explV L2 lst (accV (csOf L2) lst) u)) w'
  else e= .returned (.tuple #[.int .i64 0,.int .i64 6])∧DeskT w0 L2 dv lst w':=by
 obtain⟨g,mb,A2,c2,e,h1,h2,h3,h4⟩:=h.desk;subst e;have hll:=O.l
 cases hk:memB u (accV (csOf L2) lst)with
 | true=>
  have:=replace_yes L2 lst u g mb A2 c2 W h1 h2 O.ok (by omega) O.n h3 O.wf hu hk;refine this.mono ?_;rintro e w' ⟨rfl,h5,hg⟩;rw[if_pos rfl];exact⟨rfl,h.moved rfl h1 h2 h3 h4 h5 hg⟩
 | false=>
  refine(replace_none L2 lst u g mb A2 c2 W h1 h2 O.ok (by omega) h3 O.wf hu hk).mono ?_;rintro e w' ⟨rfl,hb⟩;rw[if_neg (by decide)];exact⟨rfl,h.next hb⟩
theorem dt_accused(O:DeskOk L2)(h:DeskT w0 L2 dv lst W):
 Calls Tryz.prog 10 #[dv] W fun e w'=>∃A c,e= .returned (.slice A (accV (csOf L2) lst).length c)∧RdStr w' w'.heap.size A (accV (csOf L2) lst)∧Below W.heap.size W w':=by
 obtain⟨g,mb,A2,c2,e,h1,h2,h3,h4⟩:=h.desk;subst e;have hll:=O.l;have:=deskAcc_c L2 lst g mb A2 c2 W h1 h2 O.ok (by omega) h3 O.wf;exact this
theorem dt_reports(h:DeskT w0 L2 dv lst W)(hl:lst.length≤100000):
 Calls Tryz.prog 9 #[dv] W fun e w'=>∃(A:Option Addr) (c:Nat) (l:List Rep),e= .returned (.slice A l.length c)∧l.Nodup∧(∀x,x∈l↔x∈lst)∧Below W.heap.size W w':=by
 obtain⟨g,mb,A2,c2,e,h1,h2,h3,h4⟩:=h.desk;subst e;refine(deskReports_c lst g mb A2 L2.length c2 W h1 h3 hl).mono ?_;rintro e w' ⟨A',c',l,rfl,k1,k2,k3,k4,k5⟩;exact⟨A',c',l,rfl,k1,k2,k5⟩
theorem expl_in{L:List CsV}{l:List Rep}{us:List ByteArray}{u:ByteArray}{x:Rep}(h:x∈explV L l us u):x∈l:=by
 obtain⟨c,_,_,hh,hn⟩:=mem_explV.1 h;unfold holdB holdsV at hh;rw[Bool.and_eq_true]at hh;exact of_decide_eq_true (List.all_eq_true.1 hh.1 x hn)
end
theorem seqB_eq{x y:ByteArray}:seqB x y=true↔x=y:=by
 refine⟨fun h=> ?_,fun h=>str_eq h⟩;by_cases e:x=y
 ·exact e
 ·rw[show seqB x y=false from str_ne e]at h;cases h
theorem hasU_iff{R:List CsV}{u:ByteArray}:hasU R u=true↔∃x∈R,x.c.unit=u:=by
 unfold hasU;rw[List.any_eq_true];simp only[seqB_eq]
theorem stays_no{L R:List CsV}{x:CsV}:staysV L R x=false↔∀y∈R,y.c.unit=x.c.unit→∀u∈y.c.excl,hasU L u=true∧hasU R u=false:=by
 unfold staysV;rw[List.any_eq_false];refine⟨fun h y hy e u hu=> ?_,fun h y hy hq=> ?_⟩
 ·have h1:=h y hy
  unfold openV at h1;rw[seqB_eq.2 e,Bool.true_and,Bool.not_eq_true',Bool.not_eq_false]at h1;unfold fineV at h1;have h2:=List.all_eq_true.1 h1 u hu;rw[Bool.and_eq_true,Bool.not_eq_true']at h2;exact h2
 ·unfold openV at hq
  rw[Bool.and_eq_true,seqB_eq,Bool.not_eq_true']at hq;have:fineV L R y=true:=by
   unfold fineV;rw[List.all_eq_true];intro u hu;rw[Bool.and_eq_true,Bool.not_eq_true'];exact h y hy hq.1 u hu
  rw[this]at hq
  cases hq.2
theorem push_all{l:List Cs}:∀(us out:List ByteArray),OrdOk l out→(∀u∈us,u∈unitsV l∧freeV l out u=true)→∃out',OrdOk l out'∧∀u,u∈out'↔u∈out∨u∈us
 | [],out,h,_=>⟨out,h,by simp⟩
 | u :: us,out,h,hs=>by
  by_cases hu:u∈out
  ·obtain⟨o,h1,h2⟩:=push_all us out h fun v hv=>hs v (by simp[hv])
   refine⟨o,h1,fun v=> ?_⟩;rw[h2 v,List.mem_cons];constructor
   ·rintro(h | h)
    ·exact .inl h
    ·exact .inr (.inr h)
   ·rintro(h | rfl | h)
    ·exact .inl h
    ·exact .inl hu
    ·exact .inr h
  ·have h0:=hs u (by simp)
   obtain⟨o,h1,h2⟩:=push_all us (out++ [u]) (h.push h0.1 hu h0.2) fun v hv=>⟨(hs v (by simp[hv])).1,free_iff.2 fun c hc e x hx=>List.mem_append_left _ (free_iff.1 (hs v (by simp[hv])).2 c hc e x hx)⟩
   refine⟨o,h1,fun v=> ?_⟩;rw[h2 v,List.mem_append,List.mem_singleton,List.mem_cons,or_assoc]
theorem mem_csOf{L:List CsV}{c:Cs}:c∈csOf L↔∃y∈L,y.c=c:=List.mem_map
theorem run_ok(L:List CsV):∀(f:Nat) (n:Int) (R:List CsV) (out:List ByteArray),runO L f n R=some true→OrdOk (csOf L) out→(∀x,x∈R↔x∈L∧x.c.unit∉out)→okV (csOf L)=true
 | 0,_,_,_,h,_,_=>by cases h
 | f+1,n,R,out,h,ho,hR=>by
  rw[runO]at h;by_cases hn:n=R.length
  ·rw[if_pos hn]at h
   have h0:R.length=0:=of_decide_eq_true (Option.some.inj h);obtain rfl:=List.eq_nil_of_length_eq_zero h0;refine ok_of ho (len_le _ _ (nodup_units _) fun u hu=> ?_);obtain⟨c,hc,rfl⟩:=mem_units.1 hu;obtain⟨y,hy,rfl⟩:=mem_csOf.1 hc;rcases Classical.em (y.c.unit∈out)with hm | hm
   ·exact hm
   ·exact absurd ((hR y).2 ⟨hy,hm⟩) (by simp)
  ·rw[if_neg hn]at h
   obtain⟨out',h1,h2⟩:=push_all ((R.filter fun x=> !staysV L R x).map fun x=>x.c.unit) out ho fun u hu=>by
    obtain⟨x,hx,rfl⟩:=List.mem_map.1 hu;obtain⟨hx1,hx2⟩:=List.mem_filter.1 hx;rw[Bool.not_eq_true']at hx2;obtain⟨hxL,hxo⟩:=(hR x).1 hx1;refine⟨mem_units.2 ⟨x.c,mem_csOf.2 ⟨x,hxL,rfl⟩,rfl⟩,free_iff.2 fun c hc e v hv=> ?_⟩;obtain⟨y,hy,rfl⟩:=mem_csOf.1 hc;have hyR:y∈R:=(hR y).2 ⟨hy,by rw[e];exact hxo⟩;obtain⟨hk,hop⟩:=stays_no.1 hx2 y hyR e v hv;obtain⟨z,hz,rfl⟩:=hasU_iff.1 hk;rcases Classical.em (z.c.unit∈out)with hm | hm
    ·exact hm
    ·rw[hasU_iff.2 ⟨z,(hR z).2 ⟨hz,hm⟩,rfl⟩]at hop;cases hop
   refine run_ok L f _ _ out' h h1 fun x=> ?_
   rw[List.mem_filter,h2,List.mem_map,hR x];constructor
   ·rintro⟨⟨hxL,hxo⟩,hs⟩
    refine⟨hxL,?_⟩;rintro(hm | ⟨y,hy,e⟩)
    ·exact hxo hm
    ·obtain⟨hy1,hy2⟩:=List.mem_filter.1 hy
     rw[Bool.not_eq_true']at hy2;have:=stays_no.1 hy2;rw[e]at this;rw[stays_no.2 this]at hs
     cases hs
   ·rintro⟨hxL,hno⟩
    have hxo:x.c.unit∉out:=fun hm=>hno (.inl hm)
    refine⟨⟨hxL,hxo⟩,?_⟩
    cases hs:staysV L R x with
    | true=>rfl
    | false=>exact absurd (.inr ⟨x,List.mem_filter.2 ⟨(hR x).2 ⟨hxL,hxo⟩,by rw[hs];rfl⟩,rfl⟩) hno
theorem runO_ok{L:List CsV}{f:Nat}{n:Int}(h:runO L f n L=some true):okV (csOf L)=true:=run_ok L f n L [] h (OrdOk.nil _) fun x=>by simp
def dst(l:List Rep):Nat:=(l.foldl addU []).length
theorem dst_of{l k:List Rep}(hn:l.Nodup)(hm:∀x,x∈l↔x∈k):l.length=dst k:=
 Nat.le_antisymm (len_le _ _ hn fun x hx=>fold_mem.2 ((hm x).1 hx)) (len_le _ _ (nodup_fold _ _ List.nodup_nil) fun x hx=>(hm x).2 (fold_mem.1 hx))
theorem dst_rest{reps ex:List Rep}(hs:∀x∈ex,x∈reps):dst (restR reps ex)+dst ex=dst reps:=by
 have h:=dst_of (l:=(restR reps ex).foldl addU []++ex.foldl addU []) (k:=reps) (by
  rw[List.nodup_append];refine⟨nodup_fold _ _ List.nodup_nil,nodup_fold _ _ List.nodup_nil,fun a ha b hb e=> ?_⟩;subst e;exact(mem_restR.1 (fold_mem.1 ha)).2 (fold_mem.1 hb)) fun x=>by
  rw[List.mem_append,fold_mem,fold_mem,mem_restR];constructor
  ·rintro(h | h)
   ·exact h.1
   ·exact hs x h
  ·intro h
   rcases Decidable.em (x∈ex)with he | he
   ·exact .inr he
   ·exact .inl ⟨h,he⟩
 rw[List.length_append]at h;exact h
theorem dst_pos{l:List Rep}{x:Rep}(h:x∈l):1≤dst l:=by
 have:x∈l.foldl addU []:=fold_mem.2 h;exact List.length_pos_of_mem this
theorem dst_le(l:List Rep):dst l≤l.length:=by
 have:=len_fold l [];simpa [dst]using this
theorem acc_step{L:List CsV}{lst:List Rep}{u:ByteArray}(hok:okV (csOf L)=true)(hn:∀y∈L,0<y.c.needs.length)(hu:u∈accV (csOf L) lst):
 1≤dst (explV L lst (accV (csOf L) lst) u)∧dst (restR lst (explV L lst (accV (csOf L) lst) u))+dst (explV L lst (accV (csOf L) lst) u)=dst lst:=by
 refine⟨?_,dst_rest fun x hx=>expl_in hx⟩;obtain⟨c,hc,he,hh⟩:=hit_iff.1 ((acc_right lst hok u (acc_sub _ _ u hu)).1 hu);obtain⟨y,hy,rfl⟩:=mem_csOf.1 hc;have h0:=hn y hy;exact dst_pos (x:=y.c.needs[0]) (mem_explV.2 ⟨y.c,hc,he,hh,List.getElem_mem h0⟩)
end Go.Proofs.YtchfcgilpjkmhaaGreatDoor
