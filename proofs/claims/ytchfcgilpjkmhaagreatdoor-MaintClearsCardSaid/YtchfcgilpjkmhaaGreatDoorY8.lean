import Derived.Test.YtchfcgilpjkmhaaGreatDoorProg
import Derived.Shelf.SlMaps.Clone
import Derived.Shelf.SlGeneric
import Derived.Ground.SlmcProg
import Derived.Laws.StructEq
import Derived.StillTailTactics
import Derived.Test.YtchfcgilpjkmhaaGreatDoorY7
import Derived.Test.YtchfcgilpjkmhaaGreatDoorY1
import Derived.Test.YtchfcgilpjkmhaaGreatDoorY2
import Derived.Test.YtchfcgilpjkmhaaGreatDoorY5
import Derived.Test.YtchfcgilpjkmhaaGreatDoorY0
set_option maxRecDepth 100000
set_option linter.unusedSimpArgs false
set_option linter.unusedVariables false
set_option linter.unusedSectionVars false
namespace Go.Proofs.YtchfcgilpjkmhaaGreatDoor
open Go.ChangeShapes Go.WideShapes Go.ChangeAt Go.RowKit
attribute [local go_sem] Oper.semAt_some
def Coll(w:World)(ks:List Rep)(e:Ending)(w':World):Prop:=∃(v:Value) (xs:List Rep),e= .returned v∧(xs.Nodup∧∀x,x∈xs↔x∈ks)∧w'.ownsRow (w.heap.size+1) 41 2 v xs.length (xs.flatMap Rep.cells)∧Below w.heap.size w w'
theorem collect_c(Bm b n:Nat)(ks:List Rep)(f:Rep→Int)(w:World)(hBm:Blk w Bm 101 #[.map (some b)])(hO:OnMap KR w b n ks f)(hl:ks.length≤100000000):
 Calls Tryz.prog 182 #[.func (.func 184) #[] #[.pointer (some ⟨Bm,0,none⟩)]] w (Coll w ks):=by
 have Hh:=lz (appendSeq_c Bm b n ks f w hBm hO hl);clear hBm hO;go_enter Tryz.func182,Tryz.ntmps182;go_wp2_with fail;refine Hh.out.mono ?_;rintro e w' ⟨v,xs,rfl,hx,hown,hb⟩;obtain⟨A',c',rfl,_⟩:=own_caps hown;have HR:=lz (And.intro hx (And.intro hown hb));clear hx hown hb Hh;go_wp2_with fail;go_ret;exact⟨_,xs,rfl,HR.out⟩
theorem sort_nil_c(c:Nat)(w:World):Calls Tryz.prog 183 #[.slice none 0 c,.func (.func 107) #[] #[]] w fun e w'=>e= .returned (.tuple #[])∧w'=w:=
 Go.Proofs.AnyF.slices_SortFunc_none Go.Proofs.Tryz.sortReps none c (.func (.func 107) #[] #[]) w
def SortedR(w:World)(ks:List Rep)(e:Ending)(w':World):Prop:=∃A' c' l,e= .returned (.slice A' l.length c')∧l.Nodup∧(∀x,x∈l↔x∈ks)∧Asc l∧RdRep w' w'.heap.size A' l∧Below w.heap.size w w'
theorem asc_nil:Asc []:=fun i j _ hj=>absurd hj (by simp)
theorem sortedFunc_c(Bm b n:Nat)(ks:List Rep)(f:Rep→Int)(w:World)(hBm:Blk w Bm 101 #[.map (some b)])(hO:OnMap KR w b n ks f)(hl:ks.length≤100000000):
 Calls Tryz.prog 105 #[.func (.func 184) #[] #[.pointer (some ⟨Bm,0,none⟩)],.func (.func 107) #[] #[]] w (SortedR w ks):=by
 have Hh:=lz (collect_c Bm b n ks f w hBm hO hl);clear hBm hO;go_enter Tryz.func105,Tryz.ntmps105;go_wp2_with fail;refine Hh.out.mono ?_;rintro e w1 ⟨v,xs,rfl,hx,hown,hb⟩;have hxl:xs.length≤100000000:=Nat.le_trans (len_le xs ks hx.1 fun x h=>(hx.2 x).1 h) hl;rcases Nat.eq_zero_or_pos xs.length with h0 | h0
 ·have hx0:xs= []:=List.eq_nil_of_length_eq_zero h0
  subst hx0;rcases hown.2 with⟨rfl,_⟩ | ⟨g,cap,cur,rfl,hg,hh,hc⟩
  ·have HR:=lz (And.intro hx hb)
   clear hx hown hb Hh;go_wp2_with fail;refine(sort_nil_c 0 w1).mono ?_;rintro e w2 ⟨rfl,rfl⟩;go_wp2_with fail;go_ret;exact⟨none,0,[],rfl,HR.out.1.1,HR.out.1.2,asc_nil,RdRep.nil,HR.out.2⟩
  ·have hs:=sort_c _ g cap [] w1 hown (by simp)
   have HS:=lz hs;have HR:=lz (And.intro hx hb);have hg':=hg;clear hx hown hb Hh hs hh hc;simp only[List.length_nil]at HS ⊢;go_wp2_with fail;refine HS.out.mono ?_;rintro e w2 ⟨rfl,l',hp,ha,ho2,hg2⟩;have hl0:l'= []:=List.Perm.eq_nil hp;subst hl0;have HB2:=lz (HR.out.2.grown hg2 (Nat.le_trans HR.out.2.size (Nat.le_refl _)) (fun j e=>by cases e;omega));clear hg2 ho2 ha hp HS;go_wp2_with fail;go_ret;exact⟨_,cap,[],rfl,HR.out.1.1,HR.out.1.2,asc_nil,RdRep.nil,HB2.out⟩
 ·obtain⟨g,cap,rfl,_⟩:=hown.form h0
  have HS:=lz (sort_c _ g cap xs w1 hown hxl);have hg:=(hown.lt g rfl).1;have HR:=lz (And.intro hx hb);clear hx hown hb Hh;go_wp2_with fail;refine HS.out.mono ?_;rintro e w2 ⟨rfl,l',hp,ha,ho2,hg2⟩;have hll:l'.length=xs.length:=hp.length_eq;rw[←hll]at ho2;have hrd:=rdRep_of_own ho2;have hb2:=HR.out.2.grown hg2 HR.out.2.size (fun j e=>by cases e;omega);have HB2:=lz (And.intro hb2 (And.intro hrd (And.intro hp ha)));have Hll:=lz hll;clear hb2 hg2 ho2 ha hp HS hrd hll;go_wp2_with fail;go_ret;refine⟨_,cap,l',?_,(HB2.out.2.2.1.nodup_iff).2 HR.out.1.1,fun x=>(HB2.out.2.2.1.mem_iff).trans (HR.out.1.2 x),HB2.out.2.2.2,HB2.out.2.1,HB2.out.1⟩;rw[Hll.out];rfl
theorem sorted_c(b n:Nat)(ks:List Rep)(f:Rep→Int)(w:World)(hO:OnMap KR w b n ks f)(hl:ks.length≤100000000):
 Calls Tryz.prog 37 #[.map (some b)] w (SortedR w ks):=by
 have Hh:=lz (sortedFunc_c w.heap.size b n ks f (w.alloc (.cells #[.map (some b)] 101)) (Blk.new w _ _) (hO.alloc _) hl);clear hO;go_enter Tryz.func37,Tryz.ntmps37;go_wp2_with fail;refine(keys_c _ _).mono ?_;rintro e w1 ⟨rfl,rfl⟩;go_wp2_with fail;refine Hh.out.mono ?_;rintro e w2 ⟨A',c',l,rfl,h1,h2,h3,h4,h5⟩;have HR:=lz (And.intro h1 (And.intro h2 (And.intro h3 (And.intro h4 (((Below.refl _ w).alloc (Nat.le_refl _) (.cells #[.map (some b)] 101)).trans (h5.mono (by simp)))))));clear h1 h2 h3 h4 h5 Hh;go_wp2_with fail;go_ret;exact⟨A',c',l,rfl,HR.out⟩
end Go.Proofs.YtchfcgilpjkmhaaGreatDoor
namespace Go.Proofs
open Go.Shelf
def Tryz.cloneSet_ren:Go.Shelf.Ren:=⟨fun | 5=>44 | 7=>116 | n=>n,fun | 23=>101 | 25=>41 | 3=>3 | 4=>4 | 20=>20 | n=>n,fun | n=>n⟩
theorem Tryz.cloneSet:Go.Proofs.SlLaysW.n5 Tryz.prog Tryz.cloneSet_ren:={
 mixed:=by kernel_rfl
 f5:=⟨Tryz.f44.name,by decide,Tryz.func44.trans (congrArg some (by kernel_rfl))⟩
 f7:=Tryz.func116.trans (congrArg some (by kernel_rfl))
 t4:=Tryz.underlying4
 a4:=Tryz.isAgg4
 z4:=Tryz.sizeOf4
 v4:=Tryz.zeroValue4
 t20:=Tryz.underlying20
 a20:=Tryz.isAgg20
 z20:=Tryz.sizeOf20
 v20:=Tryz.zeroValue20
 t23:=Tryz.underlying101
 a23:=Tryz.isAgg101
 z23:=Tryz.sizeOf101
 v23:=Tryz.zeroValue101}
end Go.Proofs
namespace Go.Proofs.YtchfcgilpjkmhaaGreatDoor
open Go.ChangeShapes Go.WideShapes Go.ChangeAt Go.RowKit
attribute [local go_sem] Oper.semAt_some
theorem clone_set_c{b n:Nat}{ks:List Rep}{f:Rep→Int}(w:World)(h:OnMap KR w b n ks f):Calls Tryz.prog 44 #[.map (some b)] w fun e w'=>e= .returned (.map (some w.heap.size))∧OnMap KR w' w.heap.size n ks f∧Below w.heap.size w w':=by
 obtain⟨D,h1,h2⟩:=h;refine(Go.Proofs.AnyW.maps_Clone_owns Go.Proofs.Tryz.cloneSet 41 (plainElem Tryz.prog 3) b n D w h1).mono ?_;rintro e w' ⟨he,h3,_,h4⟩;exact⟨he,⟨D,h3,h2⟩,h4⟩
theorem OnMap.next_{w w':World}{b n:Nat}{ks:List Rep}{f:Rep→Int}(h:OnMap KR w b n ks f)(hb:Below w.heap.size w w'):OnMap KR w' b n ks f:=h.below hb h.lt
theorem OnMap.nodup{w:World}{b n:Nat}{ks:List Rep}{f:Rep→Int}(h:OnMap KR w b n ks f):ks.Nodup:=h.choose_spec.2.nodup
def openB(L:List CsV)(reps:List Rep)(acc l:List ByteArray)(x:Rep):Prop:=x∈reps∧¬∃u∈l,x∈explV L reps acc u
theorem openB_nil{L:List CsV}{reps:List Rep}{acc:List ByteArray}{x:Rep}:openB L reps acc [] x↔x∈reps:=by simp[openB]
theorem openB_snoc{L:List CsV}{reps:List Rep}{acc l:List ByteArray}{u:ByteArray}{x:Rep}:openB L reps acc (l++ [u]) x↔openB L reps acc l x∧x∉explV L reps acc u:=by
 unfold openB;constructor
 ·rintro⟨h1,h2⟩
  exact⟨⟨h1,fun⟨v,hv,hx⟩=>h2 ⟨v,by simp[hv],hx⟩⟩,fun hx=>h2 ⟨u,by simp,hx⟩⟩
 ·rintro⟨⟨h1,h2⟩,h3⟩
  refine⟨h1,fun⟨v,hv,hx⟩=> ?_⟩;rcases List.mem_append.1 hv with hv | hv
  ·exact h2 ⟨v,hv,hx⟩
  ·simp at hv;subst hv;exact h3 hx
theorem fold_mem{κ:Type}[DecidableEq κ]{l:List κ}{x:κ}:x∈l.foldl addU []↔x∈l:=by rw[mem_fold];simp
set_option maxHeartbeats 4000000 in
theorem Open_c(L:List CsV)(reps:List Rep)(A:Option Addr)(c:Nat)(A1:Option Addr)(c1:Nat)(w:World)(h:RdCs w w.heap.size A L)(ok:∀x∈L,OkC x.c)(hl:L.length≤100000)(hn:∀x∈L,x.c.needs.length≤1000)
 (hr:RdRep w w.heap.size A1 reps) (okr:∀r∈reps,r.ok) (hl2:reps.length≤100000000):
 Calls Tryz.prog 16 #[.slice A L.length c,.slice A1 reps.length c1] w fun e w'=>∃A' c' l,e= .returned (.tuple #[.slice A' l.length c',.int .i64 (if okV (csOf L)=true then 0 else 400)])∧RdRep w' w'.heap.size A' l∧l.Nodup∧Asc l∧
  (∀x,x∈l↔okV (csOf L)=true∧openB L reps (accV (csOf L) reps) (accV (csOf L) reps) x)∧Below w.heap.size w w':=by
 have hof:=of_c reps A1 c1 w hr okr (by unfold maxLen;omega);have hac:=fun w1 b (hh:RdCs w1 w1.heap.size A L) (hm:CntMap KR w1 b reps)=>accused_c L reps b A c w1 hh ok hl hm
 have hau:∀x∈accV (csOf L) reps,x.size≤maxLen:=fun x hx=>by
  have h1:=acc_sub (csOf L) reps x hx;rw[mem_units]at h1;obtain⟨c,hc,rfl⟩:=h1;obtain⟨y,hy,rfl⟩:=List.mem_map.1 hc;exact(ok y hy).u
 have hal:(accV (csOf L) reps).length≤100000:=by
  have:=accL_len (csOf L) reps (orderV (csOf L)) [];have h2:=order_len (csOf L);have h3:=len_units (csOf L);simp at this h3;unfold accV;omega
 have hex:=fun w1 b b2 u (hh:RdCs w1 w1.heap.size A L) (hm:CntMap KR w1 b reps) (hm2:CntMap KS w1 b2 (accV (csOf L) reps)) hu=>explained_c L reps (accV (csOf L) reps) b b2 u A c w1 hh ok hl hn hm hm2 hu
 obtain⟨kv,hkv⟩:∃kv,kv=okV (csOf L):=⟨_,rfl⟩;rw[←hkv]at hac ⊢;have H:=lz h;have Hof:=lz hof;have Hau:=lz hau;have Hac:=lz hac;have Hex:=lz hex;clear h ok hn hr okr hof hau hac hex hkv;generalize accV (csOf L) reps=acc at *;go_enter Tryz.func16,Tryz.ntmps16;go_wp2_with fail;refine Hof.out.mono ?_;rintro e w1 ⟨rfl,hm1,hb1⟩;have Hac1:=lz (Hac.out w1 w.heap.size (H.out.below hb1) hm1);have Hm1:=lz hm1;have Hb1:=lz hb1;have hlt1:=hm1.lt;clear hm1 hb1 Hac Hof;go_wp2_with fail;refine Hac1.out.mono ?_;rintro e w2 ⟨hb2,he⟩;have HB2:=lz (Hb1.out.trans (hb2.mono Hb1.out.size));have Hm2:=lz (Hm1.out.next hb2);have hs2:=hb2.size;clear hb2 Hac1 Hm1
 cases kv with
 | false=>
  simp only[Bool.false_eq_true,if_false]at he;subst he;go_wp2_with fail;refine bodyPost_ret (results_tmp2 rfl _ _ _) rfl ?_;exact⟨none,0,[],rfl,RdRep.nil,List.nodup_nil,asc_nil,fun x h=>absurd h (by simp),HB2.out⟩
 | true=>
  simp only[if_true]at he;obtain⟨A2,c2,b2,rfl,hrd,hm'⟩:=he;have Hrd:=lz hrd;have HM':=lz hm';have hlt2:=hm'.lt;obtain⟨n,hnn,hO⟩:=Hm2.out;have HO:=lz hO;clear hrd hm' hO;go_wp2_with fail;refine(clone_set_c w2 HO.out).mono ?_;rintro e w3 ⟨rfl,hO3,hb3⟩;have hk0:∀x,x∈reps.foldl addU []↔openB L reps acc (acc.take 0) x:=fun x=>by rw[fold_mem,List.take_zero,openB_nil]
  have HO3:=lz (And.intro hO3 (And.intro hk0 hb3));clear hO3 hk0 HO;go_wp2_with fail;go_loopw [30] (fun t wr=>∃(k:Nat) (ks:List Rep) (f:Rep→Int),k≤acc.length∧t= .int .i64 k∧OnMap KR wr w2.heap.size n ks f∧(∀x,x∈ks↔openB L reps acc (acc.take k) x)∧Below w2.heap.size w2 wr) (fun t wr=>acc.length-(intOf t).toNat)
  case atStart=>exact⟨0,_,_,Nat.zero_le _,rfl,HO3.out.1,HO3.out.2.1,HO3.out.2.2⟩
  case round=>
   clear HO3;obtain⟨k,ks,f,hk,rfl,hO,hks,hB⟩:=hrel;by_cases hlt:k<acc.length
   ·obtain⟨bo,oo,rfl,hbo,hco⟩:=(Hrd.out.keep hB).at_ hlt
    have hu:acc[k].size≤maxLen:=Hau.out _ (List.getElem_mem hlt);have htk:acc.take (k+1)=acc.take k++ [acc[k]]:=List.take_succ_eq_append_getElem hlt;have hst:∀x,openB L reps acc (acc.take (k+1)) x↔openB L reps acc (acc.take k) x∧x∉explV L reps acc acc[k]:=fun x=>by rw[htk];exact openB_snoc
    have hbw:bo<wr.heap.size:=World.block_lt_of_cell? wr _ hco;have hwB:=HB2.out.trans (hB.mono HB2.out.size);have Hex1:=lz (Hex.out wr w.heap.size b2 acc[k] ((H.out.keep hwB).more hwB.size) (Hm2.out.below hB (by omega)) (HM'.out.below hB hlt2) hu);have Hst:=lz hst;have Hks:=lz hks;have HB:=lz hB;have HO:=lz hO;have hlO:=hO.lt;clear htk hst hks hB hwB hO;generalize acc[k]=u at *;go_wp2_with fail;refine Hex1.out.mono ?_;rintro e w4 ⟨rfl,hm4,hb4⟩;have hB4:=HB.out.trans (hb4.mono HB.out.size);have hO4:=HO.out.next_ hb4;obtain⟨n4,_,hOe⟩:=hm4;obtain⟨w5,cnt,hrun,hrg,hg5,hs5⟩:=hOe.range;have hrun:(Instr.range 101 (.map (some (wr.heap.size+2)))).run Tryz.prog w4= .ok (.pointer (some ⟨w4.heap.size,0,none⟩)) w5:=hrun;have hB5:Below w2.heap.size w2 w5:=hB4.grown hg5 hB4.size (fun j e=>by cases e);have hs4:=hb4.size;have hsb:=HB.out.size;have hO5:=hO4.kept hg5 (by simp);have hke:∀x,x∈(explV L reps acc u).foldl addU []↔x∈explV L reps acc u:=fun x=>fold_mem
    have HI:=lz (And.intro hrg (And.intro hO5 hB5));have Hke:=lz hke;clear hb4 hB4 hO4 hOe hrg hg5 hB5 hO5 HO HB Hex1 hke;generalize hbe:wr.heap.size+2=be at *;have hbe2:w2.heap.size<be:=by omega
    have hbe4:be<w4.heap.size:=(HI.out.1).objB.choose_spec.1 |> fun h=>by have:=(Array.getElem?_eq_some_iff.1 h).1;have:=HI.out.1.ne;omega
    clear hbe;go_wp2_with fail;go_loopw [13] (fun _ wx=>∃(got:List Rep) (cnt:Nat) (kt:List Rep) (ft:Rep→Int),Rng KR wx be w4.heap.size ((explV L reps acc u).foldl addU []) (fun x=>(cntB x (explV L reps acc u):Int)) got cnt∧OnMap KR wx w2.heap.size n kt ft∧(∀x,x∈kt↔x∈ks∧x∉got)∧Below w2.heap.size w2 wx) (fun _ wx=>wx.rangeLeft be w4.heap.size)
    case atStart=>exact⟨[],cnt,ks,f,HI.out.1,HI.out.2.1,fun x=>by simp,HI.out.2.2⟩
    case round=>
     clear hrun HI;obtain⟨got,cnt,kt,ft,hrg,hOt,hkt,hBt⟩:=hrel;have hle:=hrg.left_eq;rcases hrg.next 0 with⟨hall,hrun⟩ | ⟨x,c,w6,cnt2,hx,hxk,hxg,hrun0,hrg2,hlt2,hg2,hs2,hen0⟩
     ·have hnew:∀x,x∈kt↔openB L reps acc (acc.take (k+1)) x:=fun x=>by
       rw[hkt x,Hst.out x,Hks.out x];have:x∈got↔x∈explV L reps acc u:=⟨fun h=>(Hke.out x).1 (hrg.sub x h),fun h=>hall x ((Hke.out x).2 h)⟩;rw[this]
      have HR:=lz (And.intro hOt (And.intro hnew hBt));clear hrg hOt hkt hBt hnew hle;go_wp2_with fail;go_roundw
      case rel=>exact⟨k+1,kt,ft,by omega,by go_num,HR.out⟩
      case measure=>simp[intOf];omega
     ·have hlr:=hrg.lt
      have hO6:=hOt.kept hg2 (by simp;omega);have hB6:=hBt.grown hg2 hBt.size (fun j e=>by cases e;omega);have hO7:=hO6.alloc (.cells #[.string x.unit,.int .i64 x.code] 41);have hB7:=hB6.alloc hB6.size (.cells #[.string x.unit,.int .i64 x.code] 41);have hrg7:=hrg2.alloc (.cells #[.string x.unit,.int .i64 x.code] 41);obtain⟨w8,hdel,hO8,htu⟩:=hO7.run_del hx 0;have hg8:=htu.grown;have hdel:(Builtin.delete_ #[101,41] 0 #[.map (some w2.heap.size),.agg #[.string x.unit,.int .i64 x.code]]).run Tryz.prog (w6.alloc (.cells #[.string x.unit,.int .i64 x.code] 41))= .ok (.tuple #[]) w8:=hdel;have hen:(Instr.entry (.pointer (some ⟨w4.heap.size,0,none⟩))).run Tryz.prog w6= .ok (.tuple #[.agg #[.string x.unit,.int .i64 x.code],.int .i64 c]) w6:=hen0;have hrun:(Instr.next (.pointer (some ⟨w4.heap.size,0,none⟩)) false 0).run Tryz.prog wr= .ok (.tuple #[.bool true,.agg #[.string x.unit,.int .i64 x.code],.int .i64 c]) w6:=hrun0;have hnew:∀z,z∈kt.erase x↔z∈ks∧z∉got++ [x]:=fun z=>by
       rw[List.Nodup.mem_erase_iff hO7.nodup,hkt z];simp only[List.mem_append,List.mem_singleton,not_or];exact⟨fun⟨a,b,c⟩=>⟨b,c,a⟩,fun⟨b,c,a⟩=>⟨a,b,c⟩⟩
      have hrg8:=hrg7.kept hg8 (by simp;omega) (by simp;omega);have hB8:=hB7.grown hg8 hB7.size (fun j e=>by cases e;omega);have Hle8:=lz hrg8.left_eq;have HR:=lz (And.intro hrg8 (And.intro hO8 (And.intro hnew hB8)));have Hle:=lz hle;clear hrg hOt hkt hBt hrun0 hen0 hrg2 hO6 hB6 hO7 hB7 hrg7 hO8 htu hg8 hnew hrg8 hB8 hle hg2;go_wp2_with fail;go_roundw
      case rel=>exact⟨_,_,_,_,HR.out⟩
      case measure=>rw[Hle8.out,Hle.out];exact hlt2
   ·obtain rfl:k=acc.length:=by omega
    rw[List.take_length]at hks;have hkl:ks.length≤100000000:=by
     have:=hO.len_le;omega
    have Hso:=lz (sorted_c w2.heap.size n ks f wr hO hkl);have HB:=lz (HB2.out.trans (hB.mono HB2.out.size));have Hks:=lz hks;clear hks hO hB;go_wp2_with fail;refine Hso.out.mono ?_;rintro e w4 ⟨A',c',l,rfl,h1,h2,h3,h4,h5⟩;have HR:=lz (And.intro h4 (And.intro h1 (And.intro h3 (And.intro (fun x=>(h2 x).trans (Hks.out x)) (HB.out.trans (h5.mono HB.out.size))))));clear h1 h2 h3 h4 h5 Hso;go_wp2_with fail;refine bodyPost_ret (results_tmp2 rfl _ _ _) rfl ?_;exact⟨A',c',l,rfl,HR.out⟩
end Go.Proofs.YtchfcgilpjkmhaaGreatDoor
namespace Go.Proofs.YtchfcgilpjkmhaaGreatDoor
section
variable {ν ρ:Type} [DecidableEq ν] [DecidableEq ρ]
end
end Go.Proofs.YtchfcgilpjkmhaaGreatDoor
namespace Go.Proofs.YtchfcgilpjkmhaaGreatDoor
open Go.ChangeShapes Go.WideShapes Go.ChangeAt Go.RowKit
attribute [local go_sem] Oper.semAt_some
theorem made_c(g:Nat)(A:Option Addr)(n c:Nat)(mv:Option Nat)(w:World)(h:Blk w g 103 #[.slice A n c,.map mv]):Calls Tryz.prog 33 #[.pointer (some ⟨g,0,none⟩)] w fun e w'=>e= .returned (.bool mv.isSome)∧w=w':=by
 have c1:=h.cell 1;have hq:∀W,(binOp .neq 101 (.map mv) (.map none)).run Tryz.prog W= .ok (.bool mv.isSome) W:=fun W=>by
  have:=run_neq_map_nil (P:=Tryz.prog) (w:=W) (t:=101) (k:=41) (e:=3) mv Tryz.underlying101;rw[this];cases mv<;>rfl
 go_enter Tryz.func33,Tryz.ntmps33;go_wp2;go_ret;exact⟨rfl,rfl⟩
open Go.Act renaming put → zP
open List renaming setIfInBounds_toArray → zA, set_cons_zero → zB, set_cons_succ → zC
set_option maxHeartbeats 1000000 in
theorem deskAcc_c(L:List CsV)(reps:List Rep)(g mb:Nat)(A:Option Addr)(c:Nat)(w:World)(hg:Blk w g 103 #[.slice A L.length c,.map (some mb)])(h:RdCs w w.heap.size A L)(ok:∀x∈L,OkC x.c)(hl:L.length≤100000)(hm:CntMap KR w mb reps)(hk:okV (csOf L)=true):
 Calls Tryz.prog 10 #[.pointer (some ⟨g,0,none⟩)] w fun e w'=>∃A' c',e= .returned (.slice A' (accV (csOf L) reps).length c')∧RdStr w' w'.heap.size A' (accV (csOf L) reps)∧Below w.heap.size w w':=by
 have Hmade:=lz (made_c g A L.length c (some mb) w hg);have Hac:=lz (accused_c L reps mb A c w.drew (h.to_ (Nat.le_refl _) fun _ _ _=>rfl) ok hl hm.drew);have hHeld:w.drew.cell? ⟨g,0,none⟩=some (.slice A L.length c)∧w.drew.cell? ⟨g,1,none⟩=some (.map (some mb)):=⟨hg.cell 0,hg.cell 1⟩;have Hk:=lz hk;clear hg h ok hm hk;go_enter Tryz.func10,Tryz.ntmps10;go_wp2_with (go_at_call 33;refine Hmade.out.mono ?_;rintro e w' ⟨rfl,rfl⟩);refine wp_region_S (fun W'=>W'.cell? ⟨g,0,none⟩=some (.slice A L.length c)∧W'.cell? ⟨g,1,none⟩=some (.map (some mb))) 15 kz hHeld (fun hHeld=> ?_);refine wpAnyS_take (i:=0) (v:= ?_) rfl kz kz kz kz (fun c a w h=>h) (Or.inl ⟨by rfl,?_⟩) hHeld ?_;rotate_left
 ·intro w hSw
  (try obtain⟨hSw1,hSw2⟩:=hSw)
  exact gz
 simp only[zP,zA,zB,zC];refine wpAnyS_take (i:=1) (v:= ?_) rfl kz kz kz kz (fun c a w h=>h) (Or.inl ⟨by rfl,?_⟩) hHeld ?_;rotate_left
 ·intro w hSw
  (try obtain⟨hSw1,hSw2⟩:=hSw)
  exact gz
 simp only[zP,zA,zB,zC];refine wpAnyS_take (i:=2) (v:= ?_) rfl kz kz kz kz (fun c a w h=>h) (Or.inl ⟨by rfl,?_⟩) hHeld ?_;rotate_left
 ·intro w hSw
  (try obtain⟨hSw1,hSw2⟩:=hSw)
  exact gz
 simp only[zP,zA,zB,zC];refine wpAnyS_take (i:=3) (v:= ?_) rfl kz kz kz kz (fun c a w h=>h) (Or.inl ⟨by rfl,?_⟩) hHeld ?_;rotate_left
 ·intro w hSw
  (try obtain⟨hSw1,hSw2⟩:=hSw)
  exact gz
 simp only[zP,zA,zB,zC];refine wpAnyS_take (i:=4) (v:= ?_) rfl kz kz kz kz (fun c a w h=>h) (Or.inl ⟨by rfl,?_⟩) hHeld ?_;rotate_left
 ·intro w hSw
  (try obtain⟨hSw1,hSw2⟩:=hSw)
  exact gz
 simp only[zP,zA,zB,zC];refine wpAnyS_take (i:=5) (v:= ?_) rfl kz kz kz kz (fun c a w h=>h) (Or.inl ⟨by rfl,?_⟩) hHeld ?_;rotate_left
 ·intro w hSw
  (try obtain⟨hSw1,hSw2⟩:=hSw)
  exact gz
 simp only[zP,zA,zB,zC];refine wpAnyS_take (i:=6) (v:= ?_) rfl kz kz kz kz (fun c a w h=>h) (Or.inl ⟨by rfl,?_⟩) hHeld ?_;rotate_left
 ·intro w hSw
  (try obtain⟨hSw1,hSw2⟩:=hSw)
  exact gz
 simp only[zP,zA,zB,zC];refine wpAnyS_take (i:=7) (v:= ?_) rfl kz kz kz kz (fun c a w h=>h) (Or.inl ⟨by rfl,?_⟩) hHeld ?_;rotate_left
 ·intro w hSw
  (try obtain⟨hSw1,hSw2⟩:=hSw)
  exact gz
 simp only[zP,zA,zB,zC];refine RQ 8 rfl fun K hK=> ?_;go_simp;refine Hac.out.mono ?_;rintro e w5 ⟨hb5,he⟩;rw[Hk.out]at he;simp only[if_true]at he;obtain⟨A',c',b',rfl,hrd,hm'⟩:=he;have hc5:=fun(p:Addr) (x:Value) (hp:w.drew.cell? p=some x)=>(hb5.cell (p:=p) (World.block_lt_of_cell? _ _ hp)).trans hp
 have hHeld5:=And.intro (hc5 _ _ hHeld.1) (hc5 _ _ hHeld.2);have hbb:Below w.heap.size w w5:=⟨hb5.os,hb5.tape,hb5.output,hb5.size,hb5.block⟩;have HR:=lz (And.intro hrd hbb);refine hK.out _ _ (fun _=>hHeld5) ?_;clear hK hc5 hbb hrd hm' hb5 Hac;refine wpAnyS_takeT (i:=9) (v:= ?_) rfl kz kz kz (by decide) (fun c a w h=>h) (Or.inl ⟨by rfl,?_⟩) hHeld5 ?_;rotate_left
 ·intro w hSw
  exact gz
 simp only[zP,zA,zB,zC];refine wpAnyS_takeT (i:=10) (v:= ?_) rfl kz kz kz (by decide) (fun c a w h=>h) (Or.inl ⟨by rfl,?_⟩) hHeld5 ?_;rotate_left
 ·intro w hSw
  exact gz
 simp only[zP,zA,zB,zC];refine wpAnyS_takeT (i:=11) (v:= ?_) rfl kz kz kz (by decide) (fun c a w h=>h) (Or.inl ⟨by rfl,?_⟩) hHeld5 ?_;rotate_left
 ·intro w hSw
  exact gz
 simp only[zP,zA,zB,zC];refine wpAnyS_takeT (i:=12) (v:= ?_) rfl kz kz kz (by decide) (fun c a w h=>h) (Or.inl ⟨by rfl,?_⟩) hHeld5 ?_;rotate_left
 ·intro w hSw
  exact gz
 simp only[zP,zA,zB,zC];refine RQ 13 rfl fun K hK=> ?_;go_simp;refine hK.out _ _ (fun _=>hHeld5) ?_;clear hK;refine RQ 14 rfl fun K hK=> ?_;go_simp;refine hK.out _ _ (fun _=>hHeld5) ?_;clear hK;refine RQ 15 rfl fun K hK=> ?_;go_simp;refine hK.out _ _ (fun h=>absurd h (by decide)) ?_;clear hK;refine wpAnyS_done kz ?_ _;go_wp2_with fail;go_ret;exact⟨A',c',rfl,HR.out⟩
theorem rep_eql(r x:Rep)(W:World):(binOp .eql 41 (.agg #[.string r.unit,.int .i64 r.code]) (.agg #[.string x.unit,.int .i64 x.code])).run Tryz.prog W= .ok (.bool (decide (r=x))) W:=by
 have hu:Tryz.prog.underlying 41=some (.struct (Tryz.prog.fieldsOf 41)):=by kernel_rfl
 have hp:Tryz.prog.stoodInHeld 41=false:=by kernel_rfl
 have h2:=Tryz.underlying9;have h3:=Tryz.underlying3;rw[run_eql_struct,run_equalIn_struct W 9999 41 _ _ hu hp];have hf:(Tryz.prog.fieldsOf 41).toList=(match Tryz.prog.underlying 41 with | some (.struct fs)=>fs.toList | _=> []):=by rw[hu]
 rw[hf,Tryz.underlying41];have e1:(Op.equalIn 9999 9 (.string r.unit) (.string x.unit)).run Tryz.prog W= .ok (r.unit.toList==x.unit.toList) W:=run_equalIn_string W 9998 9 _ _ h2;have e2:(Op.equalIn 9999 3 (.int .i64 r.code) (.int .i64 x.code)).run Tryz.prog W= .ok (r.code==x.code) W:=run_equalIn_int W 9998 3 .i64 .i64 _ _ h3;have q9:∀(cs:Array Value) (off:Nat) (v:Value),cs[off]?=some v→(part 9 cs off).run Tryz.prog W= .ok v W:=fun cs off v h=>by simp[part,Go.Proofs.Tryz.isAgg9,h,Result.andThen]
 have q3:∀(cs:Array Value) (off:Nat) (v:Value),cs[off]?=some v→(part 3 cs off).run Tryz.prog W= .ok v W:=fun cs off v h=>by simp[part,Go.Proofs.Tryz.isAgg3,h,Result.andThen]
 have b1:=q9 #[.string r.unit,.int .i64 r.code] 0 _ rfl;have b2:=q9 #[.string x.unit,.int .i64 x.code] 0 _ rfl;have b3:=q3 #[.string r.unit,.int .i64 r.code] 1 _ rfl;have b4:=q3 #[.string x.unit,.int .i64 x.code] 1 _ rfl;clear q9 q3 hf hu hp h2 h3;obtain⟨ru,rc⟩:=r;obtain⟨xu,xc⟩:=x;simp only at *;by_cases h:ru=xu
 ·subst h
  rw[str_eq rfl]at e1;by_cases h2:rc=xc
  ·subst h2
   have e3:(rc==rc)=true:=by simp
   rw[e3]at e2;simp[Op.eqFields,b1,b2,b3,b4,e1,e2,Result.andThen]
  ·have e3:(rc==xc)=false:=by simpa using h2
   rw[e3]at e2;simp[Op.eqFields,b1,b2,b3,b4,e1,e2,Result.andThen,h2]
 ·rw[str_ne h]at e1
  simp[Op.eqFields,b1,b2,b3,b4,e1,e2,Result.andThen,h]
theorem rep_guard(r x:Rep)(a b:Operand)(W:World):(eqGuard .eql 41 a b (.agg #[.string r.unit,.int .i64 r.code]) (.agg #[.string x.unit,.int .i64 x.code])).run Tryz.prog W= .ok () W:=run_eqGuard_agg W .eql 41 a b _ _ kz
theorem only_below{B n:Nat}{w w':World}(h:Below B w w'):Below B w (w'.drewN n):=⟨h.os,h.tape,h.output,h.size,h.block⟩
theorem index57(l:List Rep)(r:Rep)(A:Option Addr)(c:Nat)(w:World)(h:RdRep w w.heap.size A l)(hl:l.length≤9223372036854775807):
 CU 104 #[.slice A l.length c,r.val] w (.int .i64 (idxI (fun x=>decide (r=x)) l)):=by
 have hq:=fun x W=>rep_eql r x W
 have hg:=fun x a b W=>rep_guard r x a b W
 have HB:=lz (Blk.new w 41 #[.string r.unit,.int .i64 r.code]);have H:=lz h;clear h;go_enter Tryz.func104,Tryz.ntmps104;go_wp2;go_loopw [5,8] (fun _ i wr=>∃k:Nat,k≤l.length∧i= .int .i64 k∧Below (w.heap.size+1) (w.alloc (.cells #[.string r.unit,.int .i64 r.code] 41)) wr∧Hid (∀j (h:j<l.length),j<k→decide (r=l[j])=false)) (fun _ i _=>l.length-(intOf i).toNat)
 case atStart=>exact⟨0,Nat.zero_le _,rfl,Below.refl _ _,fun j _ h=>absurd h (by omega)⟩
 case round=>
  obtain⟨k,hk,rfl,hb,hall⟩:=hrel;have hwb:Below w.heap.size w wr:=((Below.refl _ w).alloc (Nat.le_refl _) (.cells #[.string r.unit,.int .i64 r.code] 41)).trans (hb.mono (by omega));by_cases hlt:k<l.length
  ·obtain⟨b,o,rfl,hbb,hc⟩:=H.out.keep hwb (by omega)
   have hck:=hc k hlt;have hbx:=HB.out.below hb (by omega);have b0:=hbx.cell 0;have b1:=hbx.cell 1;have hfin:decide (r=l[k])=true→idxI (fun x=>decide (r=x)) l=k:=fun hq=>idxI_hit (p:=fun x=>decide (r=x)) hlt hq hall.out
   have hnext:decide (r=l[k])=false→∀j (h:j<l.length),j<k+1→decide (r=l[j])=false:=fun hq=>forall_succ (p:=fun x=>decide (r=x)=false) hall.out hq
   have hqk:=hq l[k];have hgk:=hg l[k];have Hfin:=lz hfin;have Hnext:=lz hnext;have Hb:=lz hb;have HW:=lz hwb;obtain⟨c0,c1⟩:=hck;clear hfin hnext hall hc hbx hb hwb hq hg;generalize l[k]=x at*
   cases he:decide (r=x)with
   | true=>
    have hfin:=lz (Hfin.out he);rw[he]at hqk;clear Hfin Hnext he;go_wp2_with fail;go_quiet (fail);go_wp2_with fail;go_ret;exact⟨ret_int hfin.out.symm,only_below HW.out⟩
   | false=>
    have hnext:=lz (Hnext.out he);rw[he]at hqk;clear Hfin Hnext he;go_wp2_with fail;go_quiet (fail);go_wp2_with fail;go_roundw
    case rel=>exact⟨k+1,by omega,by go_num,only_below Hb.out,hnext⟩
    case measure=>simp[intOf];omega
  ·clear hq hg
   go_wp2;go_ret;exact⟨ret_int (idxI_miss (p:=fun x=>decide (r=x)) fun j hj=>hall.out j hj (by omega)).symm,hwb⟩
theorem contains39(l:List Rep)(r:Rep)(A:Option Addr)(c:Nat)(w:World)(h:RdRep w w.heap.size A l)(hl:l.length≤9223372036854775807):
 CU 36 #[.slice A l.length c,r.val] w (.bool (l.any fun x=>decide (r=x))):=by
 have hI:=index57 l r A c (w.alloc (.cells #[.string r.unit,.int .i64 r.code] 41)) (h.below ((Below.refl _ _).alloc (Nat.le_refl _) _)) hl;rw[←idxI_ge];generalize idxI (fun x=>decide (r=x)) l=q at hI ⊢;have HI:=lz hI;clear hI h;go_enter Tryz.func36,Tryz.ntmps36;go_wp2_with fail;refine HI.out.mono ?_;rintro e w1 ⟨rfl,hb1⟩;have HB:=lz (((Below.refl _ w).alloc (Nat.le_refl _) (.cells #[.string r.unit,.int .i64 r.code] 41)).trans (hb1.mono (by simp)));clear HI hb1;go_wp2;go_ret;exact⟨rfl,HB.out⟩
def TestAt(w:World)(f:Nat)(lb:Array Value)(b:Int)(r:Bool):Prop:=
 ∀W,Below w.heap.size w W→Calls Tryz.prog f (#[.int .u8 b]++lb) W fun e w'=>e= .returned (.bool r)∧w'=W
theorem TestAt.next{w w':World}{f:Nat}{lb:Array Value}{b:Int}{r:Bool}(h:TestAt w f lb b r)(hb:Below w.heap.size w w'):TestAt w' f lb b r:=
 fun W hW=>h W (hb.trans (hW.mono hb.size))
theorem between_c(lo hi:Int)(w:World):Calls Tryz.prog 313 #[.int .u8 lo,.int .u8 hi] w fun e w'=>e= .returned (.func (.func 328) #[] #[.pointer (some ⟨w.heap.size,0,none⟩),.pointer (some ⟨w.heap.size+1,0,none⟩)])∧w'=(w.alloc (.cells #[.int .u8 lo] 5)).alloc (.cells #[.int .u8 hi] 5):=by
 go_enter Tryz.func313,Tryz.ntmps313;go_wp2;go_ret;exact⟨by simp,rfl⟩
theorem among_c(s:ByteArray)(w:World):Calls Tryz.prog 314 #[.string s] w fun e w'=>e= .returned (.func (.func 329) #[] #[.pointer (some ⟨w.heap.size,0,none⟩)])∧w'=w.alloc (.cells #[.string s] 9):=by
 go_enter Tryz.func314,Tryz.ntmps314;go_wp2;go_ret;exact⟨rfl,rfl⟩
theorem either_c(A:Option Addr)(n c:Nat)(w:World):Calls Tryz.prog 312 #[.slice A n c] w fun e w'=>e= .returned (.func (.func 327) #[] #[.pointer (some ⟨w.heap.size,0,none⟩)])∧w'=w.alloc (.cells #[.slice A n c] 344):=by
 go_enter Tryz.func312,Tryz.ntmps312;go_wp2;go_ret;exact⟨rfl,rfl⟩
theorem index360(s:ByteArray)(c:Int)(W:World):(callFunc 352 #[.string s,.int .u8 c]).run Tryz.prog W= .ok (.value (.int .i64 (firstIdx s c.toNat.toUInt8))) W:=by
 rw[run_callFunc_extern Tryz.func352 kz kz kz (e:=Extern.BytealgIndexByte.indexByte) kz,run_indexByte_string];rfl
theorem index349(s:ByteArray)(c:Int)(w:World):Calls Tryz.prog 340 #[.string s,.int .u8 c] w fun e w'=>e= .returned (.int .i64 (firstIdx s c.toNat.toUInt8))∧w=w':=by
 have h:=fun W=>index360 s c W
 generalize firstIdx s c.toNat.toUInt8=q at *;go_enter Tryz.func340,Tryz.ntmps340;go_wp2;go_ret;exact⟨rfl,rfl⟩
theorem index339(s:ByteArray)(c:Int)(w:World):Calls Tryz.prog 330 #[.string s,.int .u8 c] w fun e w'=>e= .returned (.int .i64 (firstIdx s c.toNat.toUInt8))∧w=w':=by
 have h:=index349 s c w;generalize firstIdx s c.toNat.toUInt8=q at *;go_enter Tryz.func330,Tryz.ntmps330;go_wp2_with (go_at_call 340;refine h.mono ?_;rintro e w' ⟨rfl,rfl⟩);go_ret;exact⟨rfl,rfl⟩
theorem among_at{s:ByteArray}{b:Int}{r:Bool}{B:Nat}{w:World}(h:Blk w B 9 #[.string s])(hr:decide (firstIdx s b.toNat.toUInt8≥0)=r):
 TestAt w 329 #[.pointer (some ⟨B,0,none⟩)] b r:=by
 intro W hW;have c1:=(h.below hW h.lt).cell 0;have hI:=index339 s b W;subst hr;generalize firstIdx s b.toNat.toUInt8=q at *;clear h hW;go_enter Tryz.func329,Tryz.ntmps329;go_wp2_with (go_at_call 330;refine hI.mono ?_;rintro e w' ⟨rfl,rfl⟩);go_ret;exact⟨rfl,rfl⟩
def ScB(w:World)(g:Nat)(s:ByteArray)(k:Nat)(v0 v1 v2 v3:Value):Prop:=Blk w g 314 #[.string s,.int .i64 k,v0,v1,v2,v3]
section
variable {g:Nat} {s:ByteArray} {k:Nat} {v0 v1 v2 v3:Value}
theorem more_end(v:Value)(w:World)(h:ScB w g s k v0 v1 v2 v3)(hk:s.size≤k):Calls Tryz.prog 332 #[.pointer (some ⟨g,0,none⟩),v] w fun e w'=>e= .returned (.bool false)∧∃m,w'=w.drewN m:=by
 have c0:w.cell? ⟨g,0,none⟩=some (.string s):=Blk.cell h 0;have c1:w.cell? ⟨g,1,none⟩=some (.int .i64 k):=Blk.cell h 1;have hd:decide ((k:Int)<(s.size:Int))=false:=by rw[decide_eq_false_iff_not];omega
 generalize (k:Int)=K at *;clear h hk;go_enter Tryz.func332,Tryz.ntmps332;go_wp2_with fail;go_quiet (fail);go_wp2_with fail;go_ret;exact⟨rfl,_,rfl⟩
theorem more_at(f:Nat)(lb:Array Value)(b:Int)(r:Bool)(w:World)(h:ScB w g s k v0 v1 v2 v3)(hk:k<s.size)(hb:bAt s k=b)(eg:∀args w,(callFunc f args).run Tryz.prog w= .ok (.enter f args) w)(ht:TestAt w f lb b r):
 Calls Tryz.prog 332 #[.pointer (some ⟨g,0,none⟩),.func (.func f) #[] lb] w fun e w'=>e= .returned (.bool r)∧∃m,w'=w.drewN m:=by
 have c0:w.cell? ⟨g,0,none⟩=some (.string s):=Blk.cell h 0;have c1:w.cell? ⟨g,1,none⟩=some (.int .i64 k):=Blk.cell h 1;have ht:=fun n=>ht (w.drewN n) (only_below (Below.refl _ _))
 rw[←hb,←bAt_eq hk]at ht;clear h hb;go_enter Tryz.func332,Tryz.ntmps332;go_wp2_with fail;go_quiet ((go_at_fn f;exact Calls.quiet_of_same (ht _)));go_wp2_with fail;go_ret;exact⟨rfl,_,rfl⟩
end
theorem blk_at'(w:World)(s:Nat)(t:TypeId)(cs:Array Value)(h:w.heap.size=s):Blk (w.alloc (.cells cs t)) s t cs:=by subst h;exact Blk.new w t cs
structure Tok where
 kind:Int
 text:ByteArray
 at_:Int
instance:Inhabited Tok:=⟨⟨0,⟨#[]⟩,0⟩⟩
abbrev Tok.val(t:Tok):Value:= .agg #[.int .i64 t.kind,.string t.text,.int .i64 t.at_]
def Tok.cells(t:Tok):List Value:= [.int .i64 t.kind,.string t.text,.int .i64 t.at_]
theorem info250:(Tryz.prog.info? 264).map (fun i=>(i.zero,i.size,i.bytes))=some (some (.agg #[.int .i64 0,.string ⟨#[]⟩,.int .i64 0]),3,32):=by kernel_rfl
theorem cellsT_get:∀(l:List Tok) (i:Nat) (h:i<l.length),(l.flatMap Tok.cells)[i*3]?=some (.int .i64 l[i].kind)∧(l.flatMap Tok.cells)[i*3+1]?=some (.string l[i].text)∧(l.flatMap Tok.cells)[i*3+2]?=some (.int .i64 l[i].at_)
 | r :: l,0,_=>⟨rfl,rfl,rfl⟩
 | r :: l,i+1,h=>by
  have ih:=cellsT_get l i (by simpa using h);have e:∀j,(List.flatMap Tok.cells (r :: l))[j+3]?=(List.flatMap Tok.cells l)[j]?:=fun j=>by simp[Tok.cells]
  rw[show(i+1)*3=i*3+3 from by omega,show i*3+3+1=i*3+1+3 from by omega,show i*3+3+2=i*3+2+3 from by omega,e,e,e];simpa using ih
def RdTok(w:World)(B:Nat)(A:Option Addr)(l:List Tok):Prop:=
 0<l.length→∃b o,A=some ⟨b,o,none⟩∧b<B∧∀i (h:i<l.length),w.cell? ⟨b,o+i*3,none⟩=some (.int .i64 l[i].kind)∧w.cell? ⟨b,o+i*3+1,none⟩=some (.string l[i].text)∧w.cell? ⟨b,o+i*3+2,none⟩=some (.int .i64 l[i].at_)
theorem RdTok.to_{w w':World}{B B':Nat}{A:Option Addr}{l:List Tok}(h:RdTok w B A l)(hB:B≤B')(hk:∀b o,b<B→w'.cell? ⟨b,o,none⟩=w.cell? ⟨b,o,none⟩):RdTok w' B' A l:=fun hn=>by
 obtain⟨b,o,rfl,hbB,hc⟩:=h hn;exact⟨b,o,rfl,by omega,fun i hi=>⟨(hk b _ hbB).trans (hc i hi).1,(hk b _ hbB).trans (hc i hi).2.1,(hk b _ hbB).trans (hc i hi).2.2⟩⟩
theorem rdTok_of_own{W:World}{base c:Nat}{A:Option Addr}{l:List Tok}(h:W.ownsRow base 264 3 (.slice A l.length c) l.length (l.flatMap Tok.cells)):RdTok W W.heap.size A l:=fun hn=>by
 obtain⟨g,cap,hv,_,hlt⟩:=h.form hn;have hA:A=some ⟨g,0,none⟩:=by injection hv
 subst hA;refine⟨g,0,rfl,hlt,fun i hi=> ?_⟩;obtain⟨q0,q1,q2⟩:=cellsT_get l i hi;have c0:=h.cells (g:=g) rfl _ _ q0;have c1:=h.cells (g:=g) rfl _ _ q1;have c2:=h.cells (g:=g) rfl _ _ q2;rw[add_none]at c0 c1 c2;simpa using And.intro c0 (And.intro c1 c2)
def wordEnd(s:ByteArray):Nat→Nat→Nat
 | 0,q=>q
 | f+1,q=>if q<s.size then(if innerN (bAt s q)=true then wordEnd s f (q+1)else q)else q
theorem wordEnd_more{s:ByteArray}{f q:Nat}(h:q<s.size)(hi:innerN (bAt s q)=true):wordEnd s (f+1) q=wordEnd s f (q+1):=by
 rw[wordEnd,if_pos h,if_pos hi]
theorem wordEnd_stop{s:ByteArray}{f q:Nat}(hi:innerN (bAt s q)=false):wordEnd s f q=q:=by
 cases f with
 | zero=>rfl
 | succ f=>rw[wordEnd,hi];simp
theorem wordEnd_end{s:ByteArray}{f q:Nat}(h:¬q<s.size):wordEnd s f q=q:=by
 cases f with
 | zero=>rfl
 | succ f=>rw[wordEnd,if_neg h]
def lexO(s:ByteArray):Nat→Nat→List Tok→Option (List Tok)
 | 0,_,_=>none
 | f+1,p,out=>
  if p<s.size then
   (if (bAt s p==32)=true then lexO s f (p+1) out
    else if ((bAt s p==9)||((bAt s p==10)||((bAt s p==13)||(bAt s p==35))))=true then none
    else if signN (bAt s p)=true then lexO s f (p+1) (out++ [⟨3,s.extract p (p+1),p⟩])
    else if letterN (bAt s p)=true then
     (if nameB (s.extract p (wordEnd s s.size (p+1)))=true then lexO s f (wordEnd s s.size (p+1)) (out++ [⟨1,s.extract p (wordEnd s s.size (p+1)),p⟩])else none)
    else if digitN (bAt s p)=true then
     (if figB (s.extract p (wordEnd s s.size (p+1))) 1=true∨figB (s.extract p (wordEnd s s.size (p+1))) 2=true∨figB (s.extract p (wordEnd s s.size (p+1))) 3=true then lexO s f (wordEnd s s.size (p+1)) (out++ [⟨2,s.extract p (wordEnd s s.size (p+1)),p⟩])else none)
    else none)
  else some out
theorem lex_pos{s:ByteArray}{f p:Nat}{out ts:List Tok}(h:lexO s f p out=some ts):∃f',f=f'+1:=by
 cases f with
 | zero=>cases h
 | succ f=>exact⟨f,rfl⟩
theorem lex_end{s:ByteArray}{f p:Nat}{out ts:List Tok}(h:lexO s f p out=some ts)(hp:¬p<s.size):out=ts:=by
 obtain⟨f,rfl⟩:=lex_pos h;rw[lexO,if_neg hp]at h;exact Option.some.inj h
theorem lex_blank{s:ByteArray}{f p:Nat}{out ts:List Tok}(h:lexO s (f+1) p out=some ts)(hp:p<s.size)(hb:(bAt s p==32)=true):lexO s f (p+1) out=some ts:=by
 rw[lexO,if_pos hp,if_pos hb]at h;exact h
theorem lex_other{s:ByteArray}{f p:Nat}{out ts:List Tok}(h:lexO s (f+1) p out=some ts)(hp:p<s.size)(hb:(bAt s p==32)=false):(bAt s p==9)=false∧(bAt s p==10)=false∧(bAt s p==13)=false∧(bAt s p==35)=false:=by
 rw[lexO,if_pos hp,if_neg (by rw[hb];simp)]at h
 cases h1:(bAt s p==9)<;>cases h2:(bAt s p==10)<;>cases h3:(bAt s p==13)<;>cases h4:(bAt s p==35)<;>simp[h1,h2,h3,h4]at h⊢
theorem lex_past{s:ByteArray}{f p:Nat}{out ts:List Tok}(h:lexO s (f+1) p out=some ts)(hp:p<s.size)(hb:(bAt s p==32)=false):
 (if signN (bAt s p)=true then lexO s f (p+1) (out++ [⟨3,s.extract p (p+1),p⟩])
  else if letterN (bAt s p)=true then
   (if nameB (s.extract p (wordEnd s s.size (p+1)))=true then lexO s f (wordEnd s s.size (p+1)) (out++ [⟨1,s.extract p (wordEnd s s.size (p+1)),p⟩])else none)
  else if digitN (bAt s p)=true then
   (if figB (s.extract p (wordEnd s s.size (p+1))) 1=true∨figB (s.extract p (wordEnd s s.size (p+1))) 2=true∨figB (s.extract p (wordEnd s s.size (p+1))) 3=true then lexO s f (wordEnd s s.size (p+1)) (out++ [⟨2,s.extract p (wordEnd s s.size (p+1)),p⟩])else none)
  else none)=some ts:=by
 obtain⟨h1,h2,h3,h4⟩:=lex_other h hp hb;rw[lexO,if_pos hp,if_neg (by rw[hb];simp),h1,h2,h3,h4]at h;simpa using h
theorem lex_sign{s:ByteArray}{f p:Nat}{out ts:List Tok}(h:lexO s (f+1) p out=some ts)(hp:p<s.size)(hb:(bAt s p==32)=false)(hs:signN (bAt s p)=true):lexO s f (p+1) (out++ [⟨3,s.extract p (p+1),p⟩])=some ts:=by
 have:=lex_past h hp hb
 rwa[if_pos hs]at this
theorem lex_word{s:ByteArray}{f p:Nat}{out ts:List Tok}(h:lexO s (f+1) p out=some ts)(hp:p<s.size)(hb:(bAt s p==32)=false)(hs:signN (bAt s p)=false)(hl:letterN (bAt s p)=true):
 nameB (s.extract p (wordEnd s s.size (p+1)))=true∧lexO s f (wordEnd s s.size (p+1)) (out++ [⟨1,s.extract p (wordEnd s s.size (p+1)),p⟩])=some ts:=by
 have:=lex_past h hp hb;rw[if_neg (by rw[hs];simp),if_pos hl]at this;split at this
 ·exact⟨by assumption,this⟩
 ·cases this
theorem lex_num{s:ByteArray}{f p:Nat}{out ts:List Tok}(h:lexO s (f+1) p out=some ts)(hp:p<s.size)(hb:(bAt s p==32)=false)(hs:signN (bAt s p)=false)(hl:letterN (bAt s p)=false):
 digitN (bAt s p)=true∧(∃n,figB (s.extract p (wordEnd s s.size (p+1))) n=true)∧lexO s f (wordEnd s s.size (p+1)) (out++ [⟨2,s.extract p (wordEnd s s.size (p+1)),p⟩])=some ts:=by
 have:=lex_past h hp hb;rw[if_neg (by rw[hs];simp),if_neg (by rw[hl];simp)]at this;split at this
 ·split at this
  ·rename_i h1 h2
   exact⟨h1,h2.elim (fun h=>⟨1,h⟩) (fun h=>h.elim (fun h=>⟨2,h⟩) (fun h=>⟨3,h⟩)),this⟩
  ·cases this
 ·cases this
end Go.Proofs.YtchfcgilpjkmhaaGreatDoor
