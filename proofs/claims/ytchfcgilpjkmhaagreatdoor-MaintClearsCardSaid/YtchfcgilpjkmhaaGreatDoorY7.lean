import Derived.Test.YtchfcgilpjkmhaaGreatDoorProg
import Derived.Shelf.SlSortCmp.WholeK
import Derived.Shelf.SlGeneric
import Derived.Ground.SlsfProg
import Derived.Deep.RegionWith
import Derived.Shelf.SlSortCmp.NoneTotal
import Derived.Test.YtchfcgilpjkmhaaGreatDoorY6
import Derived.Test.YtchfcgilpjkmhaaGreatDoorY0
set_option maxRecDepth 100000
set_option linter.unusedSimpArgs false
set_option linter.unusedVariables false
set_option linter.unusedSectionVars false
namespace Go.Proofs.YtchfcgilpjkmhaaGreatDoor
open Go.ChangeShapes Go.WideShapes Go.ChangeAt Go.RowKit
attribute [local go_sem] Oper.semAt_some
theorem rng_done{κ:Type}[DecidableEq κ]{x:κ}{ks got:List κ}(hk:memB x ks=true)(h:false=(memB x ks&& !memB x got)):x∈got:=by
 rw[hk]at h
 cases hg:memB x got
 ·rw[hg]at h;cases h
 ·exact memB_iff.1 hg
theorem rng_more{κ:Type}[DecidableEq κ]{x:κ}{ks got:List κ}(h:true=(memB x ks&& !memB x got)):x∈ks∧x∉got:=by
 cases hk:memB x ks
 ·rw[hk]at h;cases h
 ·cases hg:memB x got
  ·exact⟨memB_iff.1 hk,fun hc=>by rw[memB_iff.2 hc]at hg;cases hg⟩
  ·rw[hk,hg]at h;cases h
theorem rng_step{κ:Type}[DecidableEq κ]{x z:κ}{ks got:List κ}{a b:Bool}(h:a=(memB z ks&& !memB z got))(hb:b=decide (z=x)):(a&& !b)=(memB z ks&& !memB z (got++ [x])):=by
 subst h hb;rw[Bool.and_assoc];congr 1;by_cases h1:z∈got<;>by_cases h2:z=x<;>simp[memB,h1,h2]
section
variable {κ:Type} [DecidableEq κ] {M:MKind κ}
def Rng(M:MKind κ)(w:World)(b r:Nat)(ks:List κ)(f:κ→Int)(got:List κ)(cnt:Nat):Prop:=
 ∃n D left,w.ranges Tryz.prog M.k (plainElem Tryz.prog 3) b r n D left cnt∧KeyD M ks f D∧(∀x,M.good x→left (M.lit x)=(memB x ks&& !memB x got))∧got.Nodup∧∀x∈got,x∈ks
variable {w w':World} {b r n:Nat} {ks got:List κ} {f:κ→Int} {cnt:Nat}
theorem Rng.left_eq(h:Rng M w b r ks f got cnt):w.rangeLeft b r=cnt:=let ⟨_,_,_,h,_⟩:=h;h.left_eq
theorem Rng.ne(h:Rng M w b r ks f got cnt):r≠b:=let ⟨_,_,_,h,_⟩:=h;h.ne
theorem Rng.lt(h:Rng M w b r ks f got cnt):r<w.heap.size:=let ⟨_,_,_,h,_⟩:=h;h.lt
theorem Rng.nodup(h:Rng M w b r ks f got cnt):got.Nodup:=let ⟨_,_,_,_,_,_,h,_⟩:=h;h
theorem Rng.sub(h:Rng M w b r ks f got cnt):∀x∈got,x∈ks:=let ⟨_,_,_,_,_,_,_,h⟩:=h;h
theorem Rng.kept{row:Option Nat}(h:Rng M w b r ks f got cnt)(hg:w.grownBy w' row)(hb:some b≠row)(hr:some r≠row):Rng M w' b r ks f got cnt:=let ⟨n,D,left,h1,h2⟩:=h;⟨n,D,left,h1.kept hg hb hr,h2⟩
theorem Rng.alloc(h:Rng M w b r ks f got cnt)(o:Obj):Rng M (w.alloc o) b r ks f got cnt:=let ⟨n,D,left,h1,h2⟩:=h;⟨n,D,left,h1.alloc o,h2⟩
theorem Rng.same(h:Rng M w b r ks f got cnt)(hb:w'.heap[b]?=w.heap[b]?)(hr:w'.heap[r]?=w.heap[r]?):Rng M w' b r ks f got cnt:=by
 obtain⟨n,D,left,⟨es,clock,since,seen,c0,h1,h2,h3,h4,h5,h6⟩,h7⟩:=h;exact⟨n,D,left,⟨es,clock,since,seen,c0,hb.trans h1,h2,h3,h4,hr.trans h5,h6⟩,h7⟩
theorem Rng.obj(h:Rng M w b r ks f got cnt):∃o,w.heap[r]?=some o∧o.isWalk=true:=by
 obtain⟨n,D,left,⟨es,clock,since,seen,c0,h1,h2,h3,h4,h5,h6⟩,h7⟩:=h;exact⟨_,h5,rfl⟩
theorem Rng.objB(h:Rng M w b r ks f got cnt):∃o,w.heap[b]?=some o∧o.isWalk=true:=by
 obtain⟨n,D,left,⟨es,clock,since,seen,c0,h1,h2,h3,h4,h5,h6⟩,h7⟩:=h;exact⟨_,h1,rfl⟩
theorem Rng.keeps(h:Rng M w b r ks f got cnt)(hk:KeepsWalks w w'):Rng M w' b r ks f got cnt:=by
 obtain⟨o,ho,hw⟩:=h.obj;obtain⟨o2,ho2,hw2⟩:=h.objB;exact h.same ((hk.same _ _ ho2 hw2).trans ho2.symm) ((hk.same _ _ ho hw).trans ho.symm)
theorem OnMap.range(h:OnMap M w b n ks f):∃w' cnt,(Instr.range M.t (.map (some b))).run Tryz.prog w= .ok (.pointer (some ⟨w.heap.size,0,none⟩)) w'∧Rng M w' b w.heap.size ks f [] cnt∧w.grownBy w' none∧w'.heap.size=w.heap.size+1:=by
 obtain⟨D,h1,h2⟩:=h;obtain⟨w',hr,r1,r2,r3⟩:=h1.range M.law M.und;refine⟨w',_,hr,⟨n,D,_,r1,h2,fun x hx=> ?_,List.nodup_nil,fun x h=>absurd h (by simp)⟩,r2,r3⟩;rw[h2.has x hx];simp[memB]
theorem Rng.next(h:Rng M w b r ks f got cnt)(ty:TypeId):
 ((∀x∈ks,x∈got)∧(Instr.next (.pointer (some ⟨r,0,none⟩)) false ty).run Tryz.prog w= .ok (.tuple #[.bool false]) w)∨
 ∃x c w' cnt',M.good x∧x∈ks∧x∉got∧(Instr.next (.pointer (some ⟨r,0,none⟩)) false ty).run Tryz.prog w= .ok (.tuple #[.bool true,M.vl x,.int .i64 c]) w'∧Rng M w' b r ks f (got++ [x]) cnt'∧cnt'<cnt∧w.grownBy w' (some r)∧w'.heap.size=w.heap.size∧
  (Instr.entry (.pointer (some ⟨r,0,none⟩))).run Tryz.prog w'= .ok (.tuple #[M.vl x,.int .i64 c]) w':=by
 obtain⟨n,D,left,h1,h2,h3,h4,h5⟩:=h;rcases h1.next M.law ty with⟨h0,hl,hrun⟩ | ⟨key,v,kl,y,w',cnt',hkey,hlk,hv,hat,hrun,hrg,hlt,hgr,hsz,hen⟩
 ·refine .inl ⟨fun x hx=> ?_,hrun⟩
  have h6:=(hl (M.lit x)).symm.trans (h3 x (h2.good x hx));exact rng_done (memB_iff.2 hx) h6
 ·obtain⟨x,hx,rfl⟩:=M.inv key kl hkey
  obtain rfl:M.lit x=kl:=Option.some.inj ((M.key x hx).symm.trans hkey);obtain⟨c,rfl,_⟩:=plainElem_int_inv Tryz.underlying3 hv;have hm2:=rng_more (hlk.symm.trans (h3 x hx));have hxk:=hm2.1;have hxg:=hm2.2;refine .inr ⟨x,c,w',cnt',hx,hxk,hxg,hrun,⟨n,D,_,hrg,h2,fun z hz=> ?_,?_,?_⟩,hlt,hgr,hsz,hen⟩
  ·have hs:(M.lit z).sameKey (M.lit x)=decide (z=x):=by
    rw[Bool.eq_iff_iff,WideAt.sameKey_iff (MKind.isKey hx),decide_eq_true_eq];exact⟨fun e=>MKind.lit_inj hz hx e,fun e=>congrArg M.lit e⟩
   exact rng_step (h3 z hz) hs
  ·rw[List.nodup_append]
   exact⟨h4,by simp,fun a ha b hb=>by simp at hb;subst hb;exact fun e=>hxg (e▸ha)⟩
  ·intro z hz
   rcases List.mem_append.1 hz with hz | hz
   ·exact h5 z hz
   ·simp at hz;subst hz;exact hxk
end
abbrev Rep.encK(r:Rep):Array Value:= #[r.val]
set_option maxHeartbeats 1000000 in
theorem keys_seq(Bm b n m:Nat)(ks:List Rep)(f:Rep→Int)(w:World)(hm:1≤m)(hBm:Blk w Bm 101 #[.map (some b)])(hO:OnMap KR w b n ks f):
 SeqStopsK Fence.wide m Tryz.prog 184 #[.pointer (some ⟨Bm,0,none⟩)] Rep.encK KeepsWalks (fun xs=>xs.Nodup∧∀x,x∈xs↔x∈ks) (fun _=>True) ks.length w:=by
 intro l J Jx W hW hJ hJx hY h0;have hlb:=hO.lt;have hO1:OnMap KR W b n ks f:=hO.below hW hlb;have c0:=(hBm.below hW hBm.lt).cell 0;obtain⟨w1,cnt,hrun,hrg,hg1,hs1⟩:=hO1.range;have hrun:(Instr.range 101 (.map (some b))).run Tryz.prog W= .ok (.pointer (some ⟨W.heap.size,0,none⟩)) w1:=hrun;have H1:Hid (J [] w1):=lz (hJ _ _ _ none h0 hg1 (fun r e=>by cases e));have Hrg:=lz hrg;have HY:=lz hY;have hlbW:b<W.heap.size:=Nat.lt_of_lt_of_le hlb hW.size;clear hO hO1 hrg h0 hBm hW hg1 hY;refine callsIn_of_wp Tryz.func184 rfl trivial ?_ rfl;simp only[Tryz.ntmps184,List.size_toArray,List.length_cons,List.length_nil,Nat.reduceAdd,Nat.reduceSub,Array.replicate_succ,Array.replicate_zero,List.push_toArray,List.append_toArray,List.nil_append,List.cons_append];gi_wp2;gi_loopw [3] (fun _ wr=>∃got cnt,Rng KR wr b W.heap.size ks f got cnt∧J got wr) (fun _ wr=>wr.rangeLeft b W.heap.size)
 case atStart=>exact⟨[],cnt,Hrg.out,H1.out⟩
 case round=>
  clear c0 hrun Hrg H1;obtain⟨got,cnt,hrg,hJg⟩:=hrel;have hle:=hrg.left_eq;rcases hrg.next 0 with⟨hall,hrun⟩ | ⟨x,c,w2,cnt2,hx,hxk,hxg,hrun0,hrg2,hlt,hg2,hs2,hen0⟩
  ·have hend:got.Nodup∧∀x,x∈got↔x∈ks:=⟨hrg.nodup,fun x=>⟨hrg.sub x,hall x⟩⟩
   clear hrg;gi_wp2;go_end0;exact⟨⟨_,rfl⟩,.inl ⟨got,hend,hJg⟩⟩
  ·have hr2:=hrg.lt
   obtain⟨ob,hob,hobw⟩:=hrg.obj;have hJ2:J got w2:=hJ _ _ _ (some W.heap.size) hJg hg2 (fun r e=>by cases e;exact⟨Nat.le_refl _,ob,hob,hobw⟩);have hJ3:J got (w2.alloc (.cells #[.string x.unit,.int .i64 x.code] 41)):=hJ _ _ _ none hJ2 (World.grownBy_alloc _ _ _) (fun r e=>by cases e);have hlen:got.length<ks.length:=by
    have h1:=len_le (got++ [x]) ks hrg2.nodup hrg2.sub;simp at h1;omega
   obtain⟨fn,tmps,assign,body,hy,hR⟩:=HY.out got x (w2.alloc (.cells #[.string x.unit,.int .i64 x.code] 41)) hJ3 hlen;have hrg3:=hrg2.alloc (.cells #[.string x.unit,.int .i64 x.code] 41);have hen:(Instr.entry (.pointer (some ⟨W.heap.size,0,none⟩))).run Tryz.prog w2= .ok (.tuple #[.agg #[.string x.unit,.int .i64 x.code],.int .i64 c]) w2:=hen0;have hrun:(Instr.next (.pointer (some ⟨W.heap.size,0,none⟩)) false 0).run Tryz.prog wr= .ok (.tuple #[.bool true,.agg #[.string x.unit,.int .i64 x.code],.int .i64 c]) w2:=hrun0;dsimp only[Rep.encK,Rep.val]at hy hR;have Hrg3:=lz hrg3;have Hle:=lz hle;clear hrg hrg2 hJ2 hJ3 hrg3 hob hle HY hJg hrun0 hen0;gi_wp2;refine hR.mono ?_;rintro e' W3 (⟨rfl,hJ3,hk3⟩ | ⟨rfl,hJx3⟩)
   ·have hrg4:=Hrg3.out.keeps hk3
    have hle4:=hrg4.left_eq;have HF:=lz (And.intro hJ3 (And.intro hrg4 hle4));clear hJ3 hrg4 hk3 hle4 hR hy hrun hen;gi_wp2;go_roundw
    case rel=>exact⟨_,_,HF.out.2.1,HF.out.1⟩
    case measure=>rw[HF.out.2.2,Hle.out];exact hlt
   ·clear hR hy hrun hen
    gi_wp2;refine bodyPost_ret (results_none rfl _ _ _) rfl ?_;exact⟨⟨_,rfl⟩,.inr ⟨_,trivial,hJx3⟩⟩
theorem keys_c(mv:Option Nat)(w:World):Calls Tryz.prog 106 #[.map mv] w fun e w'=>e= .returned (.func (.func 184) #[] #[.pointer (some ⟨w.heap.size,0,none⟩)])∧w'=w.alloc (.cells #[.map mv] 101):=by
 go_enter Tryz.func106,Tryz.ntmps106;go_wp2;go_ret;exact⟨rfl,rfl⟩
structure ColSt(w:World)(xs:List Rep)(v:Value)(W:World):Prop where
 below:Below w.heap.size w W
 size:w.heap.size+1≤W.heap.size
 box:Blk W w.heap.size 45 #[v]
 own:W.ownsRow (w.heap.size+1) 41 2 v xs.length (xs.flatMap Rep.cells)
theorem ColSt.grow{w W W':World}{xs:List Rep}{v:Value}(h:ColSt w xs v W){row:Option Nat}(hg:W.grownBy W' row)(hr:∀r,row=some r→w.heap.size+1≤r∧(∀o:Obj,W.heap[r]?=some o→o.isCells=false)):ColSt w xs v W':=
 ⟨h.below.grown hg (by have:=h.size;omega) (fun j e=>by have:=(hr j e).1;omega),Nat.le_trans h.size hg.size,h.box.grown hg (fun e=>by have:=(hr _ e.symm).1;omega),own_keep h.own hg (fun r e=>(hr r e).2)⟩
theorem ColSt.step{w W wo:World}{xs:List Rep}{v v':Value}{x:Rep}{o:Obj}(h:ColSt w xs v W)(hown:wo.ownsRow (w.heap.size+1) 41 2 v' (xs.length+1) (xs.flatMap Rep.cells++x.cells))(hg2:(W.alloc o).grownBy wo v.ownBlock):ColSt w (xs++ [x]) v' (wo.setCell ⟨w.heap.size,0,none⟩ v'):=by
 have hs2:=hg2.size;simp at hs2;have hsz:=h.size;have hown1:=h.own.alloc o;have hnb:∀g,g<w.heap.size+1→some g≠v.ownBlock:=fun g hlt e=>by have:=(hown1.lt g e.symm).1;omega
 have hb2:Below w.heap.size w wo:=(h.below.alloc (by omega) o).grown hg2 (by simp;omega) (fun g hg=>by have:=(hown1.lt g hg).1;omega);have b9:Blk wo w.heap.size 45 #[v]:=(h.box.alloc o).grown hg2 (hnb _ (by omega));have b9':=b9.set_ 0 v';refine⟨hb2.setCell (Nat.le_refl _) _,by simp[World.setCell];omega,by simpa using b9',?_⟩;have:wo.ownsRow (w.heap.size+1) 41 2 v' (xs++ [x]).length ((xs++ [x]).flatMap Rep.cells):=by simpa using hown
 exact this.kept (grown_setCell wo ⟨w.heap.size,0,none⟩ v') (.inr (own_blk_ne this b9 (by decide)))
theorem keepsO_below{W W':World}(h:Below W.heap.size W W'):KeepsOthers W W':=⟨h.size,fun k o hk _=>(h.block k (Array.getElem?_eq_some_iff.1 hk).1).trans hk⟩
theorem keepsO_own{base:Nat}{e:TypeId}{size n:Nat}{v:Value}{xs:List Value}{X Y:World}(hown:X.ownsRow base e size v n xs)(hg:X.grownBy Y v.ownBlock):KeepsOthers X Y:=
 ⟨hg.size,fun k o hk ho=>(hg.block k (Array.getElem?_eq_some_iff.1 hk).1 (fun e=>own_blk_def hown hk ho e.symm)).trans hk⟩
theorem keepsO_set{g:Nat}{t:TypeId}{cs:Array Value}{X:World}(hb:Blk X g t cs)(u:Value):KeepsOthers X (X.setCell ⟨g,0,none⟩ u):=
 ⟨by simp[World.setCell],fun k o hk ho=>(Below.heap_setCell X ⟨g,0,none⟩ u k (fun e=>by
  have e:k=g:=e;subst e;rw[show X.heap[k]?=_ from hb]at hk
  cases hk;cases ho)).trans hk⟩
theorem keepsW_of{W W':World}(h:KeepsOthers W W'):KeepsWalks W W':=⟨h.size,fun k o hk ho=>h.same k o hk (by cases o<;>first | rfl | cases ho)⟩
theorem own_shut{W W':World}{B b e s n:Nat}{v:Value}{xs:List Value}(h:W.ownsRow b e s v n xs)(hs:Shut B W W'):W'.ownsRow b e s v n xs:=by
 refine⟨h.1,?_⟩;rcases h.2 with h2 | ⟨g,cap,cur,h1,h2,h3,h4⟩
 ·exact .inl h2
 ·exact .inr ⟨g,cap,cur,h1,h2,hs.cells _ _ h3 rfl,h4⟩
set_option maxHeartbeats 1000000 in
theorem appendSeq_c(Bm b n:Nat)(ks:List Rep)(f:Rep→Int)(w:World)(hBm:Blk w Bm 101 #[.map (some b)])(hO:OnMap KR w b n ks f)(hl:ks.length≤100000000):
 Calls Tryz.prog 240 #[.slice none 0 0,.func (.func 184) #[] #[.pointer (some ⟨Bm,0,none⟩)]] w fun e w'=>∃(v:Value) (xs:List Rep),e= .returned v∧(xs.Nodup∧∀x,x∈xs↔x∈ks)∧w'.ownsRow (w.heap.size+1) 41 2 v xs.length (xs.flatMap Rep.cells)∧Below w.heap.size w w':=by
 have hz:(w.alloc (.cells #[.slice none 0 0] 45)).heap.size=w.heap.size+1:=by simp
 have H0:Hid (ColSt w [] (.slice none 0 0) (w.alloc (.cells #[.slice none 0 0] 45))):=lz (⟨(Below.refl _ w).alloc (Nat.le_refl _) _,by simp,Blk.new w _ _,World.ownsRow_nil _ _ _ _⟩);have Hseq:=lz (keys_seq Bm b n (9-1) ks f (w.alloc (.cells #[.slice none 0 0] 45)) (by omega) (hBm.alloc _) (hO.alloc _));clear hBm hO;refine(callsIn_wide (n:=9)).1 ?_;refine callsIn_of_wp_marks Tryz.func240 rfl trivial ?_ rfl;simp only[Tryz.ntmps240,List.size_toArray,List.length_cons,List.length_nil,Nat.reduceAdd,Nat.reduceSub,Array.replicate_succ,Array.replicate_zero,List.push_toArray,List.append_toArray,List.nil_append,List.cons_append];refine wpIn_wide.2 ?_;go_wp2_with fail;refine(wpIn_wide (n:=9)).1 ?_;generalize w.alloc (.cells #[.slice none 0 0] 45)=w4 at *;refine wpIn_rangeFunc_ownH (F:=Fence.wide) rfl (by omega) (gf:=184) (lb:= #[.pointer (some ⟨Bm,0,none⟩)]) rfl trivial (enters_of Tryz.func184 kz rfl)
  (encs:=Rep.encK) Hseq.out
  (fun h1 h2=>h1.trans h2) (fun W l o o' _ hh _ hw=>KeepsWalks.putObj o' hh hw) (Below.refl _ _) (fun _=>rfl)
  (fun pre W=>∃v,ColSt w pre v W) (fun _ _ _=>False)
  (fun _ X Y row hs hg hr=>by
   obtain⟨v,h1⟩:=hs;exact⟨v,h1.grow hg (fun r e=>by obtain⟨q1,o,q2,q3⟩:=hr r e;exact⟨by omega,fun o' ho'=>by rw[q2]at ho';cases ho';exact q3⟩)⟩)
  (fun _ _ X Y row hs _ _=>hs)
  ⟨_,H0.out⟩
  (fun y a' W=>∃Bx,w4.heap.size≤Bx∧Blk W Bx 41 #[.string y.unit,.int .i64 y.code]∧a'={tmps:= #[.slice none 0 0,.func (.func 184) #[] #[.pointer (some ⟨Bm,0,none⟩)],.pointer (some ⟨w.heap.size,0,none⟩),undef,.slice none 0 0,.pointer (some ⟨Bx,0,none⟩),.func (.func 184) #[] #[.pointer (some ⟨Bm,0,none⟩)],y.val,undef,undef,undef,undef,undef],defers:= []})
  (fun y a' s X Y row hs hg hr=>by obtain⟨Bx,h1,h2,h3⟩:=hs;exact⟨Bx,h1,ownFrom_blk (β:=Unit) w4.heap.size _ _ _ s X Y row h2 hg hr,h3⟩) ?assign ?body ?done ?stop
 case assign=>
  rintro l pre y W K ⟨v,hI⟩ hK;have hs4:=hI.size;dsimp only[Rep.encK,Rep.val];gi_wp2;exact hK _ _ ((KeepsOthers.alloc _ _).from _) (KeepsWalks.alloc _ _) ⟨v,hI.grow (World.grownBy_alloc _ _ none) (fun r e=>by cases e)⟩ ⟨W.heap.size,by omega,by simpa using Blk.new W 41 _,rfl⟩
 case body=>
  rintro l pre y a' W hl' ⟨r,hr⟩ ⟨v,hI⟩ ⟨Bx,hBx,hbx,rfl⟩ hlt2;have c2:=hI.box.cell 0;have c5:=hbx.cell 0;have c6:=hbx.cell 1;obtain⟨i0,hi0,hz0,hz1,hz2⟩:=info_parts info46;have HI:=lz hI;have hsI:=hI.size;have hlen64:pre.length≤100000000:=by omega
  clear hI hbx Hseq;gi_wp2_with (gi_at_builtin;refine wpListIn_append_own _ rfl _ _ 45 rfl (w.heap.size+1) 41 i0 (.agg #[.string ⟨#[]⟩,.int .i64 0]) 2 24 Tryz.underlying45 hi0 hz0 hz1 hz2 rfl (by decide) _ _ _ rfl (HI.out.own.alloc _) ⟨W.heap.size,0,none⟩ 1 1 [.string y.unit,.int .i64 y.code] rfl rfl ?c1 ?c2 ?c3 ?c4 ?c5 ?_)
  case c1=>
   intro j u' hj;rw[addr_add_none,Nat.zero_add,(Blk.new W 41 #[.string y.unit,.int .i64 y.code]).cell j];simpa using hj
  case c2=>intro u' hu';simp at hu';rcases hu' with rfl | rfl<;>rfl
  case c3=>unfold maxLen;omega
  case c4=>omega
  case c5=>simp;omega
  intro v5 wo hown5 hg5 _;obtain⟨g5,cp5,rfl,_⟩:=hown5.form (by omega);have hown1:=HI.out.own.alloc (.cells #[.string y.unit,.int .i64 y.code] 41);have b9o:=(HI.out.box.alloc (.cells #[.string y.unit,.int .i64 y.code] 41)).grown hg5 (fun e=>by have:=(hown1.lt _ e.symm).1;omega);have f9:=b9o.frozen 0;have c9:=b9o.cell 0;have hst:=HI.out.step (x:=y) hown5 hg5;have hKO:KeepsOthers W (wo.setCell ⟨w.heap.size,0,none⟩ (.slice (some ⟨g5,0,none⟩) (pre.length+1) cp5)):=(KeepsOthers.alloc _ _).trans ((keepsO_own hown1 hg5).trans (keepsO_set b9o _));have HR:=lz (And.intro (hKO.from w4.heap.size) (And.intro (keepsW_of hKO) hst));clear hst hKO b9o hown1 hown5 hg5;gi_wp2_with fail;exact⟨HR.out.1,HR.out.2.1,_,HR.out.2.2⟩
 case done=>
  rintro D ys W hD hys ⟨v,hI⟩ hK;have c2:=hI.box.cell 0;obtain⟨Av,cv,rfl,_⟩:=own_caps hI.own;have HI:=lz hI;clear hI Hseq;go_wp2_with fail;refine leaves_marks [D] W (w.heap.size+1) (by simp) (fun E hE=>by simp at hE;subst hE;exact⟨by omega,hK⟩) fun W' hSh=> ?_
  refine⟨.slice Av ys.length cv,by simp[results,Tryz.f240,go_sem],_,ys,rfl,hys,?_,HI.out.below.trans (hSh.below.mono (by omega))⟩;exact own_shut HI.out.own hSh
 case stop=>
  intro D c' pre W _ _ h _;exact h.elim
end Go.Proofs.YtchfcgilpjkmhaaGreatDoor
namespace Go.Proofs
open Go.Shelf
def Tryz.sortReps_ren:Go.Shelf.Ren:=⟨fun | 6=>183 | 15=>242 | 14=>241 | 28=>286 | 29=>287 | 20=>278 | 21=>279 | 22=>280 | 23=>281 | 24=>282 | 25=>283 | 26=>284 | 27=>285 | 46=>305 | 47=>306 | 48=>307 | 49=>308 | 50=>309 | 57=>325 | n=>n,fun | 22=>45 | 24=>41 | 25=>196 | 3=>3 | 39=>241 | 0=>0 | 53=>300 | 55=>302 | 4=>4 | 46=>294 | 45=>293 | 50=>265 | 5=>5 | 9=>9 | 66=>320 | 70=>324 | 76=>341 | 77=>342 | n=>n,fun | n=>n⟩
theorem Tryz.sortReps:Go.Proofs.SlLaysF0.n6 Tryz.prog Tryz.sortReps_ren:={
 mixed:=by kernel_rfl
 f6:=⟨Tryz.f183.name,by decide,Tryz.func183.trans (congrArg some (by kernel_rfl))⟩
 f14:=⟨Tryz.f241.name,by decide,Tryz.func241.trans (congrArg some (by kernel_rfl))⟩
 f15:=Tryz.func242.trans (congrArg some (by kernel_rfl))
 f20:=⟨Tryz.f278.name,by decide,Tryz.func278.trans (congrArg some (by kernel_rfl))⟩
 f21:=⟨Tryz.f279.name,by decide,Tryz.func279.trans (congrArg some (by kernel_rfl))⟩
 f22:=⟨Tryz.f280.name,by decide,Tryz.func280.trans (congrArg some (by kernel_rfl))⟩
 f23:=⟨Tryz.f281.name,by decide,Tryz.func281.trans (congrArg some (by kernel_rfl))⟩
 f24:=⟨Tryz.f282.name,by decide,Tryz.func282.trans (congrArg some (by kernel_rfl))⟩
 f25:=⟨Tryz.f283.name,by decide,Tryz.func283.trans (congrArg some (by kernel_rfl))⟩
 f26:=⟨Tryz.f284.name,by decide,Tryz.func284.trans (congrArg some (by kernel_rfl))⟩
 f27:=⟨Tryz.f285.name,by decide,Tryz.func285.trans (congrArg some (by kernel_rfl))⟩
 f28:=Tryz.func286.trans (congrArg some (by kernel_rfl))
 f29:=Tryz.func287.trans (congrArg some (by kernel_rfl))
 f46:=⟨Tryz.f305.name,by decide,Tryz.func305.trans (congrArg some (by kernel_rfl))⟩
 f47:=Tryz.func306.trans (congrArg some (by kernel_rfl))
 f48:=Tryz.func307.trans (congrArg some (by kernel_rfl))
 f49:=⟨Tryz.f308.name,by decide,Tryz.func308.trans (congrArg some (by kernel_rfl))⟩
 f50:=⟨Tryz.f309.name,by decide,Tryz.func309.trans (congrArg some (by kernel_rfl))⟩
 f57:=⟨Tryz.f325.name,by decide,Tryz.func325.trans (congrArg some (by kernel_rfl))⟩
 t0:=Tryz.underlying0
 a0:=Tryz.isAgg0
 z0:=Tryz.sizeOf0
 v0:=Tryz.zeroValue0
 t3:=Tryz.underlying3
 a3:=Tryz.isAgg3
 z3:=Tryz.sizeOf3
 v3:=Tryz.zeroValue3
 t4:=Tryz.underlying4
 a4:=Tryz.isAgg4
 z4:=Tryz.sizeOf4
 v4:=Tryz.zeroValue4
 t5:=Tryz.underlying5
 a5:=Tryz.isAgg5
 z5:=Tryz.sizeOf5
 v5:=Tryz.zeroValue5
 t9:=Tryz.underlying9
 a9:=Tryz.isAgg9
 z9:=Tryz.sizeOf9
 v9:=Tryz.zeroValue9
 t22:=Tryz.underlying45
 a22:=Tryz.isAgg45
 z22:=Tryz.sizeOf45
 v22:=Tryz.zeroValue45
 t25:=Tryz.underlying196
 a25:=Tryz.isAgg196
 z25:=Tryz.sizeOf196
 v25:=Tryz.zeroValue196
 t39:=Tryz.underlying241
 a39:=Tryz.isAgg241
 z39:=Tryz.sizeOf241
 v39:=Tryz.zeroValue241
 t45:=Tryz.underlying293
 a45:=Tryz.isAgg293
 z45:=Tryz.sizeOf293
 v45:=Tryz.zeroValue293
 t46:=Tryz.underlying294
 a46:=Tryz.isAgg294
 z46:=Tryz.sizeOf294
 v46:=Tryz.zeroValue294
 t50:=Tryz.underlying265
 a50:=Tryz.isAgg265
 z50:=Tryz.sizeOf265
 v50:=Tryz.zeroValue265
 t53:=Tryz.underlying300
 a53:=Tryz.isAgg300
 z53:=Tryz.sizeOf300
 v53:=Tryz.zeroValue300
 t55:=Tryz.underlying302
 a55:=Tryz.isAgg302
 z55:=Tryz.sizeOf302
 v55:=Tryz.zeroValue302
 t66:=Tryz.underlying320
 a66:=Tryz.isAgg320
 z66:=Tryz.sizeOf320
 v66:=Tryz.zeroValue320
 t70:=Tryz.underlying324
 a70:=Tryz.isAgg324
 z70:=Tryz.sizeOf324
 v70:=Tryz.zeroValue324
 t76:=Tryz.underlying341
 a76:=Tryz.isAgg341
 z76:=Tryz.sizeOf341
 v76:=Tryz.zeroValue341
 t77:=Tryz.underlying342
 a77:=Tryz.isAgg342
 z77:=Tryz.sizeOf342
 v77:=Tryz.zeroValue342}
end Go.Proofs
namespace Go.Proofs.YtchfcgilpjkmhaaGreatDoor
open Go.ChangeShapes Go.WideShapes Go.ChangeAt Go.RowKit Go.Sort
attribute [local go_sem] Oper.semAt_some
open Go.Act renaming put → zP
open List renaming setIfInBounds_toArray → zA, set_cons_zero → zB, set_cons_succ → zC
theorem bl_irrefl:∀l:List UInt8,Op.bytesLess l l=false
 | []=>rfl
 | a :: l=>by simp[Op.bytesLess,bl_irrefl l]
theorem bl_trans:∀a b c:List UInt8,Op.bytesLess a b=true→Op.bytesLess b c=true→Op.bytesLess a c=true
 | _,[],_,h,_=>by simp[Op.bytesLess]at h
 | _,_ :: _,[],_,h=>by simp[Op.bytesLess]at h
 | [],_ :: _,_ :: _,_,_=>rfl
 | a :: x,b :: y,c :: z,h1,h2=>by
   simp only[Op.bytesLess,Bool.or_eq_true,decide_eq_true_eq,Bool.and_eq_true,beq_iff_eq]at h1 h2⊢
   rcases h1 with h1 | ⟨rfl,h1⟩
   ·rcases h2 with h2 | ⟨rfl,h2⟩
    ·exact .inl (UInt8.lt_trans h1 h2)
    ·exact .inl h1
   ·rcases h2 with h2 | ⟨rfl,h2⟩
    ·exact .inl h2
    ·exact .inr ⟨rfl,bl_trans x y z h1 h2⟩
theorem bl_tri:∀a b:List UInt8,Op.bytesLess a b=false→Op.bytesLess b a=false→a=b
 | [],[],_,_=>rfl
 | [],_ :: _,h,_=>by simp[Op.bytesLess]at h
 | _ :: _,[],_,h=>by simp[Op.bytesLess]at h
 | a :: x,b :: y,h1,h2=>by
   simp only[Op.bytesLess,Bool.or_eq_false_iff,decide_eq_false_iff_not,Bool.and_eq_false_iff]at h1 h2
   have hab:a=b:=UInt8.le_antisymm (UInt8.not_lt.1 h2.1) (UInt8.not_lt.1 h1.1)
   subst hab
   have h3:Op.bytesLess x y=false:=by rcases h1.2 with h | h;·simp at h
                                      ·exact h
   have h4:Op.bytesLess y x=false:=by rcases h2.2 with h | h;·simp at h
                                      ·exact h
   rw[bl_tri x y h3 h4]
def ltS(x y:ByteArray):Bool:=Op.bytesLess x.toList y.toList
def cmpS(x y:ByteArray):Int:=if ltS x y then-1 else if x=y then 0 else 1
def cmpI(x y:Int):Int:=if x<y then-1 else if x=y then 0 else 1
def repLt(x y:Rep):Bool:=ltS x.unit y.unit||(decide (x.unit=y.unit)&&decide (x.code<y.code))
def repCmp(x y:Rep):Int:=if cmpS x.unit y.unit≠0 then cmpS x.unit y.unit else cmpI x.code y.code
theorem ltS_irrefl(x:ByteArray):ltS x x=false:=bl_irrefl _
theorem ltS_trans{x y z:ByteArray}(h:ltS x y=true)(k:ltS y z=true):ltS x z=true:=bl_trans _ _ _ h k
theorem ltS_tri{x y:ByteArray}(h:ltS x y=false)(k:ltS y x=false):x=y:=by
 have e:=bl_tri _ _ h k
 rw[ByteArray.toList_eq,ByteArray.toList_eq]at e
 exact ByteArray.ext (Array.toList_inj.1 e)
theorem repCmp_lt(x y:Rep):decide (repCmp x y<0)=repLt x y:=by
 unfold repCmp repLt cmpS cmpI
 by_cases h1:ltS x.unit y.unit=true
 ·simp[h1]
 ·by_cases h2:x.unit=y.unit
  ·by_cases h3:x.code<y.code
   ·simp[h1,h2,h3,ltS_irrefl]
   ·by_cases h4:x.code=y.code<;>simp[h1,h2,h3,h4,ltS_irrefl]
  ·simp[h1,h2]
theorem repLt_irrefl(x:Rep):repLt x x=false:=by simp[repLt,ltS_irrefl]
theorem repLt_trans{x y z:Rep}(h:repLt x y=true)(k:repLt y z=true):repLt x z=true:=by
 simp only[repLt,Bool.or_eq_true,Bool.and_eq_true,decide_eq_true_eq]at h k⊢
 rcases h with h | ⟨h,h'⟩
 ·rcases k with k | ⟨k,k'⟩
  ·exact .inl (ltS_trans h k)
  ·exact .inl (k▸h)
 ·rcases k with k | ⟨k,k'⟩
  ·exact .inl (h▸k)
  ·exact .inr ⟨h.trans k,by omega⟩
theorem repLt_tri{x y:Rep}(h:repLt x y=false)(k:repLt y x=false):x=y:=by
 simp only[repLt,Bool.or_eq_false_iff,Bool.and_eq_false_iff,decide_eq_false_iff_not]at h k
 have hu:=ltS_tri h.1 k.1
 obtain⟨xu,xc⟩:=x
 obtain⟨yu,yc⟩:=y
 simp only at h k hu
 subst hu
 have h2:¬xc<yc:=by rcases h.2 with h | h;·exact absurd rfl h
                    ·exact h
 have k2:¬yc<xc:=by rcases k.2 with h | h;·exact absurd rfl h
                    ·exact h
 rw[show xc=yc by omega]
theorem ltOf_rep:Go.Proofs.ltOf repCmp=repLt:=by
 funext x y
 exact repCmp_lt x y
theorem swo_rep:SWO (Go.Proofs.ltOf repCmp):=by
 rw[ltOf_rep]
 refine⟨repLt_irrefl,fun x y z=>repLt_trans,fun x y z h k=> ?_⟩
 cases hxz:repLt x z with
 | false=>rfl
 | true=>
   cases hyx:repLt y x with
   | true=>rw[repLt_trans hyx hxz]at k;cases k
   | false=>
     obtain rfl:=repLt_tri h hyx
     rw[hxz]at k;cases k
theorem nan9_c(s:ByteArray)(w:World):Calls Tryz.prog 185 #[.string s] w fun e w'=>e= .returned (.bool false)∧w=w':=by
 go_enter Tryz.func185,Tryz.ntmps185
 go_wp2
 go_ret
 exact⟨rfl,rfl⟩
theorem nan3_c(x:Int)(w:World):Calls Tryz.prog 186 #[.int .i64 x] w fun e w'=>e= .returned (.bool false)∧w=w':=by
 have e1:(x !=x)=false:=by simp
 go_enter Tryz.func186,Tryz.ntmps186
 go_wp2
 go_ret
 exact⟨rfl,rfl⟩
theorem cmpS_c(x y:ByteArray)(w:World):Calls Tryz.prog 109 #[.string x,.string y] w fun e w'=>e= .returned (.int .i64 (cmpS x y))∧w=w':=by
 by_cases h1:Op.bytesLess x.toList y.toList=true
 ·have hx:Hid (cmpS x y= -1):=by simp[cmpS,Hid,ltS,h1]
  go_enter Tryz.func109,Tryz.ntmps109
  go_wp2_with (go_at_call 185;refine(nan9_c _ _).mono ?_;rintro e w' ⟨rfl,rfl⟩)
  go_ret
  exact⟨ret_int hx.out.symm,rfl⟩
 ·have h1:Op.bytesLess x.toList y.toList=false:=by simpa using h1
  by_cases h2:x=y
  ·have hx:Hid (cmpS x y=0):=by simp[cmpS,Hid,ltS,h1,h2,bl_irrefl]
   have h3:=str_eq h2
   clear h2
   go_enter Tryz.func109,Tryz.ntmps109
   go_wp2_with (go_at_call 185;refine(nan9_c _ _).mono ?_;rintro e w' ⟨rfl,rfl⟩)
   go_ret
   exact⟨ret_int hx.out.symm,rfl⟩
  ·have hx:Hid (cmpS x y=1):=by simp[cmpS,Hid,ltS,h1,h2]
   have h3:=str_ne h2
   clear h2
   go_enter Tryz.func109,Tryz.ntmps109
   go_wp2_with (go_at_call 185;refine(nan9_c _ _).mono ?_;rintro e w' ⟨rfl,rfl⟩)
   go_ret
   exact⟨ret_int hx.out.symm,rfl⟩
theorem cmpI_c(x y:Int)(w:World):Calls Tryz.prog 110 #[.int .i64 x,.int .i64 y] w fun e w'=>e= .returned (.int .i64 (cmpI x y))∧w=w':=by
 by_cases h1:x<y
 ·have hx:Hid (cmpI x y= -1):=by simp[cmpI,Hid,h1]
  go_enter Tryz.func110,Tryz.ntmps110
  go_wp2_with (go_at_call 186;refine(nan3_c _ _).mono ?_;rintro e w' ⟨rfl,rfl⟩)
  go_ret
  exact⟨ret_int hx.out.symm,rfl⟩
 ·by_cases h2:x=y
  ·subst h2
   have hx:Hid (cmpI x x=0):=by simp[cmpI,Hid]
   go_enter Tryz.func110,Tryz.ntmps110
   go_wp2_with (go_at_call 186;refine(nan3_c _ _).mono ?_;rintro e w' ⟨rfl,rfl⟩)
   go_ret
   exact⟨ret_int hx.out.symm,rfl⟩
  ·have hx:Hid (cmpI x y=1):=by simp[cmpI,Hid,h1,h2]
   have e3:y<x:=by omega
   go_enter Tryz.func110,Tryz.ntmps110
   go_wp2_with (go_at_call 186;refine(nan3_c _ _).mono ?_;rintro e w' ⟨rfl,rfl⟩)
   go_ret
   exact⟨ret_int hx.out.symm,rfl⟩
theorem or_c(a b:Int)(g:Nat)(w:World)(ha:w.cell? ⟨g,0,none⟩=some (.int .i64 a))(hb:w.cell? ⟨g,1,none⟩=some (.int .i64 b)):
 Calls Tryz.prog 108 #[.slice (some ⟨g,0,none⟩) 2 2] w fun e w'=>e= .returned (.int .i64 (if a≠0 then a else b))∧w=w':=by
 obtain⟨r,hr⟩:∃r,r=if a≠0 then a else b:=⟨_,rfl⟩
 rw[←hr]
 have hra:a≠0→r=a:=fun h=>by rw[hr,if_pos h]
 have hrb:a=0→r=b:=fun h=>by rw[hr,if_neg (fun hn=>hn h)]
 have Ha:=lz hra
 have Hb:=lz hrb
 clear hr hra hrb
 go_enter Tryz.func108,Tryz.ntmps108
 go_wp2
 go_loopw [8] (fun t wr=>∃k:Nat,k≤2∧t= .int .i64 k∧wr=w∧(0<k→a=0)∧(1<k→b=0)) (fun t wr=>2-(intOf t).toNat)
 case atStart=>exact⟨0,by omega,rfl,rfl,fun h=>absurd h (by omega),fun h=>absurd h (by omega)⟩
 case round=>
  obtain⟨k,hk,rfl,rfl,ka,kb⟩:=hrel
  have Ka:=lz ka
  have Kb:=lz kb
  clear ka kb
  have h3:k=0∨k=1∨k=2:=by omega
  rcases h3 with rfl | rfl | rfl
  ·by_cases h1:a=0
   ·subst h1
    go_wp2
    go_roundw
    case rel=>exact⟨1,by omega,by simp⟩
    case measure=>simp[intOf]
   ·have h2:(a !=0)=true:=by simpa using h1
    have hh:=lz (Ha.out h1)
    clear h1
    go_wp2
    go_ret
    exact⟨ret_int hh.out.symm,rfl⟩
  ·by_cases h1:b=0
   ·subst h1
    go_wp2
    go_roundw
    case rel=>have:=Ka.out (by omega);exact⟨2,by omega,by simp[this]⟩
    case measure=>simp[intOf]
   ·have h2:(b !=0)=true:=by simpa using h1
    have hh:=lz (Hb.out (Ka.out (by omega)))
    clear h1
    go_wp2
    go_ret
    exact⟨ret_int hh.out.symm,rfl⟩
  ·have hh:=lz ((Hb.out (Ka.out (by omega))).trans (Kb.out (by omega)))
   go_wp2
   go_ret
   exact⟨ret_int hh.out.symm,rfl⟩
theorem grow_three(w:World)(a b c:Obj):((w.alloc a).alloc b).drew.alloc c=grow (w.drewN 1) #[a,b,c]:=by
 rw[alloc_eq_grow,show((w.alloc a).alloc b).drew=grow (w.drewN 1) #[a,b]from by rw[alloc_eq_grow,alloc_eq_grow,grow_grow];rfl,grow_grow];rfl
theorem repCmp_c(r s:Rep)(W:World):Calls Tryz.prog 107 #[.agg #[.string r.unit,.int .i64 r.code],.agg #[.string s.unit,.int .i64 s.code]] W fun e w'=>e= .returned (.int .i64 (repCmp r s))∧∃q os',w'=grow (W.drewN q) os':=by
 have hs:=fun W'=>cmpS_c r.unit s.unit W'
 have hi:=fun W'=>cmpI_c r.code s.code W'
 have ho:=fun g W' h1 h2=>or_c (cmpS r.unit s.unit) (cmpI r.code s.code) g W' h1 h2
 unfold repCmp
 generalize cmpS r.unit s.unit=c1 at*
 generalize cmpI r.code s.code=c2 at*
 obtain⟨c3,hc3⟩:∃c3,c3=if c1≠0 then c1 else c2:=⟨_,rfl⟩
 rw[←hc3]at ho⊢
 clear hc3
 obtain⟨W1,hW1⟩:∃W1,W1=(W.alloc (.cells #[.string r.unit,.int .i64 r.code] 41)).alloc (.cells #[.string s.unit,.int .i64 s.code] 41):=⟨_,rfl⟩
 have b0:Blk W1 W.heap.size 41 #[.string r.unit,.int .i64 r.code]:=by rw[hW1];exact(Blk.new W _ _).alloc _
 have b1:Blk W1 (W.heap.size+1) 41 #[.string s.unit,.int .i64 s.code]:=by
  rw[hW1]
  have:=Blk.new (W.alloc (.cells #[.string r.unit,.int .i64 r.code] 41)) 41 #[.string s.unit,.int .i64 s.code]
  rwa[World.size_alloc]at this
 have hHeld:W1.drew.cell? ⟨W.heap.size,0,none⟩=some (.string r.unit)∧W1.drew.cell? ⟨W.heap.size,1,none⟩=some (.int .i64 r.code)∧W1.drew.cell? ⟨W.heap.size+1,0,none⟩=some (.string s.unit)∧W1.drew.cell? ⟨W.heap.size+1,1,none⟩=some (.int .i64 s.code):=⟨b0.cell 0,b0.cell 1,b1.cell 0,b1.cell 1⟩
 have HW1:=lz hW1
 clear b0 b1
 go_enter Tryz.func107,Tryz.ntmps107
 go_wp2_with fail
 rw[←hW1]
 clear hW1
 refine wp_region_S (fun W'=>W'.cell? ⟨W.heap.size,0,none⟩=some (.string r.unit)∧W'.cell? ⟨W.heap.size,1,none⟩=some (.int .i64 r.code)∧W'.cell? ⟨W.heap.size+1,0,none⟩=some (.string s.unit)∧W'.cell? ⟨W.heap.size+1,1,none⟩=some (.int .i64 s.code)) 12 kz hHeld (fun hHeld=> ?_)
 refine wpAnyS_take (i:=0) (v:= ?_) rfl kz kz kz kz (fun c a w h=>h) (Or.inl ⟨by rfl,?_⟩) hHeld ?_
 rotate_left
 ·intro w hSw
  (try obtain⟨hSw1,hSw2,hSw3,hSw4⟩:=hSw)
  go_simp
  first | done | with_reducible rfl
 simp only[zP,zA,zB,zC]
 refine wpAnyS_take (i:=1) (v:= ?_) rfl kz kz kz kz (fun c a w h=>h) (Or.inl ⟨by rfl,?_⟩) hHeld ?_
 rotate_left
 ·intro w hSw
  (try obtain⟨hSw1,hSw2,hSw3,hSw4⟩:=hSw)
  go_simp
  first | done | with_reducible rfl
 simp only[zP,zA,zB,zC]
 refine wpAnyS_take (i:=2) (v:= ?_) rfl kz kz kz kz (fun c a w h=>h) (Or.inl ⟨by rfl,?_⟩) hHeld ?_
 rotate_left
 ·intro w hSw
  (try obtain⟨hSw1,hSw2,hSw3,hSw4⟩:=hSw)
  go_simp
  first | done | with_reducible rfl
 simp only[zP,zA,zB,zC]
 refine wpAnyS_take (i:=3) (v:= ?_) rfl kz kz kz kz (fun c a w h=>h) (Or.inl ⟨by rfl,?_⟩) hHeld ?_
 rotate_left
 ·intro w hSw
  (try obtain⟨hSw1,hSw2,hSw3,hSw4⟩:=hSw)
  go_simp
  first | done | with_reducible rfl
 simp only[zP,zA,zB,zC]
 refine wpAnyS_take (i:=5) (v:= ?_) rfl kz kz kz kz (fun c a w h=>h) (Or.inl ⟨by rfl,?_⟩) hHeld ?_
 rotate_left
 ·intro w hSw
  (try obtain⟨hSw1,hSw2,hSw3,hSw4⟩:=hSw)
  go_simp
  first | done | with_reducible rfl
 simp only[zP,zA,zB,zC]
 refine wpAnyS_take (i:=6) (v:= ?_) rfl kz kz kz kz (fun c a w h=>h) (Or.inl ⟨by rfl,?_⟩) hHeld ?_
 rotate_left
 ·intro w hSw
  (try obtain⟨hSw1,hSw2,hSw3,hSw4⟩:=hSw)
  go_simp
  first | done | with_reducible rfl
 simp only[zP,zA,zB,zC]
 refine wpAnyS_take (i:=7) (v:= ?_) rfl kz kz kz kz (fun c a w h=>h) (Or.inl ⟨by rfl,?_⟩) hHeld ?_
 rotate_left
 ·intro w hSw
  (try obtain⟨hSw1,hSw2,hSw3,hSw4⟩:=hSw)
  go_simp
  first | done | with_reducible rfl
 simp only[zP,zA,zB,zC]
 refine wpAnyS_take (i:=8) (v:= ?_) rfl kz kz kz kz (fun c a w h=>h) (Or.inl ⟨by rfl,?_⟩) hHeld ?_
 rotate_left
 ·intro w hSw
  (try obtain⟨hSw1,hSw2,hSw3,hSw4⟩:=hSw)
  go_simp
  first | done | with_reducible rfl
 simp only[zP,zA,zB,zC]
 have hz1:(W1.drew).heap.size=W1.heap.size:=rfl
 have n0:(W1.drew.alloc (.cells #[.int .i64 c1,.int .i64 c2] 3)).cell? ⟨W1.heap.size,0,none⟩=some (.int .i64 c1):=(Blk.new W1.drew 3 #[.int .i64 c1,.int .i64 c2]).cell 0
 have n1:(W1.drew.alloc (.cells #[.int .i64 c1,.int .i64 c2] 3)).cell? ⟨W1.heap.size,1,none⟩=some (.int .i64 c2):=(Blk.new W1.drew 3 #[.int .i64 c1,.int .i64 c2]).cell 1
 have hal:=fun(p:Addr) (x:Value) (hp:W1.drew.cell? p=some x)=>(World.cell?_alloc_lt W1.drew (.cells #[.int .i64 c1,.int .i64 c2] 3) p (World.block_lt_of_cell? _ _ hp)).trans hp
 have hHeld2:=And.intro (hal _ _ hHeld.1) (And.intro (hal _ _ hHeld.2.1) (And.intro (hal _ _ hHeld.2.2.1) (hal _ _ hHeld.2.2.2)))
 clear hal
 refine wpAnyS_ready (rs:= [4]) kz (by simp) ?_
 refine AllReadyS.cons rfl (fun K hK=> ?_) AllReadyS.nil
 go_simp
 refine(hs _).mono ?_
 rintro e w' ⟨rfl,hw'⟩
 subst hw'
 refine hK.out _ _ (fun _=>hHeld) ?_
 clear hK
 refine wpAnyS_ready (rs:= [9]) kz (by simp) ?_
 refine AllReadyS.cons rfl (fun K hK=> ?_) AllReadyS.nil
 go_simp
 refine(hi _).mono ?_
 rintro e w' ⟨rfl,hw'⟩
 subst hw'
 refine hK.out _ _ (fun _=>hHeld) ?_
 clear hK
 refine wpAnyS_ready (rs:= [10]) kz (by simp) ?_
 refine AllReadyS.cons rfl (fun K hK=> ?_) AllReadyS.nil
 go_simp
 refine hK.out _ _ (fun _=>hHeld2) ?_
 clear hK
 refine wpAnyS_ready (rs:= [11]) kz (by simp) ?_
 refine AllReadyS.cons rfl (fun K hK=> ?_) AllReadyS.nil
 go_simp
 refine(ho _ _ n0 n1).mono ?_
 rintro e w' ⟨rfl,hw'⟩
 subst hw'
 refine hK.out _ _ (fun _=>hHeld2) ?_
 clear hK
 refine wpAnyS_ready (rs:= [12]) kz (by simp) ?_
 refine AllReadyS.cons rfl (fun K hK=> ?_) AllReadyS.nil
 go_simp
 refine hK.out _ _ (fun h=>absurd h (by decide)) ?_
 refine wpAnyS_done kz ?_ _
 clear hK
 go_wp2_with fail
 go_ret
 exact⟨rfl,1,#[.cells #[.string r.unit,.int .i64 r.code] 41,.cells #[.string s.unit,.int .i64 s.code] 41,.cells #[.int .i64 c1,.int .i64 c2] 3],by rw[HW1.out];exact grow_three _ _ _ _⟩
instance:Inhabited Rep:=⟨⟨⟨#[]⟩,0⟩⟩
theorem flat2_get(l:List Rep)(t:Nat)(ht:t<l.length*2):(l.flatMap Rep.cells)[t]?=some ((flatK Rep.cells 2 l.toArray)[t]!):=by
 rw[get_flatK Rep.cells 2 l.toArray t (by simpa using ht)];have h1:t/2<l.length:=by omega
 rw[show(l.toArray)[t/2]! =l[t/2]from by simp[h1]];obtain⟨q0,q1⟩:=cells2_get l (t/2) h1;have h3:t%2=0∨t%2=1:=by omega
 rcases h3 with e | e
 ·have:t=t/2*2:=by omega
  rw[e]
  conv=>lhs;rw[this]
  rw[q0];rfl
 ·have:t=t/2*2+1:=by omega
  rw[e]
  conv=>lhs;rw[this]
  rw[q1];rfl
theorem own_holds{w:World}{base g cap:Nat}{l:List Rep}(h:w.ownsRow base 41 2 (.slice (some ⟨g,0,none⟩) l.length cap) l.length (l.flatMap Rep.cells)):HoldsK Rep.cells 2 w g 0 l.toArray:=by
 intro t ht;have ht':t<l.length*2:=by simpa using ht
 rw[Nat.zero_add];have hc:=h.cells (g:=g) rfl t _ (flat2_get l t ht');rw[add_none]at hc;refine⟨by simpa using hc,?_⟩;have:=h.frozenAt t;simpa using this
theorem own_sorted{w:World}{base g cap:Nat}{l:List Rep}(h:w.ownsRow base 41 2 (.slice (some ⟨g,0,none⟩) l.length cap) l.length (l.flatMap Rep.cells))(n:Nat)(d:Array Rep)(hd:d.size=l.length)(os:Array Obj):
 (sortWorldK Rep.cells 2 w g 0 n d os).ownsRow base 41 2 (.slice (some ⟨g,0,none⟩) l.length cap) l.length (d.toList.flatMap Rep.cells)∧w.grownBy (sortWorldK Rep.cells 2 w g 0 n d os) (some g):=by
 rcases h.2 with⟨h0,_⟩ | ⟨g',cap',cur,hv,hb,hh,hlc,hcm,hsz,htk⟩
 ·cases h0
 injection hv with hv1 hv2 hv3
 injection hv1 with hv1
 injection hv1 with hv1
 subst hv1 hv3;have hg:g<w.heap.size:=Blk.lt (t:=41) hh;have hW:(sortWorldK Rep.cells 2 w g 0 n d os).heap=(w.heap.modify g (onCells (putCells id 0 (flatK Rep.cells 2 d))))++os:=rfl;refine⟨⟨by rw[cells2_length];simp[hd],.inr ⟨g,cap,putCells id 0 (flatK Rep.cells 2 d) cur,rfl,hb,?_,hlc,hcm,?_,?_⟩⟩,⟨rfl,rfl,rfl,?_,?_⟩⟩
 ·rw[hW,Array.getElem?_append_left (by simpa using hg),Array.getElem?_modify]
  simp[hh,onCells]
 ·simp[putCells,hsz]
 ·have key:∀t,t<d.size*2→(putCells id 0 (flatK Rep.cells 2 d) cur)[t]?=some ((flatK Rep.cells 2 d)[t]!):=by
   intro t ht;have htc:t<cur.size:=by rw[hsz];exact Nat.lt_of_lt_of_le ht (Nat.mul_le_mul_right 2 (by omega))
   simp[putCells,htc,ht]
  apply List.ext_getElem?;intro t;by_cases ht:t<l.length*2
  ·rw[List.getElem?_take_of_lt ht,Array.getElem?_toList,key t (by omega)]
   have:=flat2_get d.toList t (by simpa [hd]using ht);rw[this]
  ·rw[List.getElem?_eq_none (by simp;omega),List.getElem?_eq_none (by rw[cells2_length];simp[hd];omega)]
 ·rw[hW];simp
 ·intro k hk hne
  rw[hW,Array.getElem?_append_left (by simpa using hk),Array.getElem?_modify];rw[if_neg (fun e=>hne (by rw[e]))]
def Asc(l:List Rep):Prop:=∀i j (h:i<j) (hj:j<l.length),repLt l[j] l[i]=false
theorem sort_c(base g cap:Nat)(l:List Rep)(w:World)(h:w.ownsRow base 41 2 (.slice (some ⟨g,0,none⟩) l.length cap) l.length (l.flatMap Rep.cells))(hl:l.length≤100000000):
 Calls Tryz.prog 183 #[.slice (some ⟨g,0,none⟩) l.length cap,.func (.func 107) #[] #[]] w fun e w'=>e= .returned (.tuple #[])∧∃l':List Rep,l'.Perm l∧Asc l'∧w'.ownsRow base 41 2 (.slice (some ⟨g,0,none⟩) l.length cap) l.length (l'.flatMap Rep.cells)∧w.grownBy w' (some g):=by
 have hg:g<w.heap.size:=(h.lt g rfl).2;have hp:=Go.Proofs.AnyQ.slices_SortFunc Go.Proofs.Tryz.sortReps 2 Go.Proofs.Tryz.isAgg41 Go.Proofs.Tryz.sizeOf41 Rep.cells (fun _=>rfl) (fun x v hv=>by simp[Rep.cells]at hv;rcases hv with rfl | rfl<;>rfl) repCmp swo_rep 107 #[] g 0 cap l.toArray w
  (enters_of Tryz.func107 kz rfl) (fun m os dk _ x y=>repCmp_c x y _) (own_holds h) hg (by simp;omega)
 simp only[List.size_toArray]at hp;refine hp.mono ?_;rintro e w' ⟨rfl,d,n,os,⟨hsz,_,hperm⟩,hsort,rfl⟩;have hsz':d.size=l.length:=by simpa using hsz
 obtain⟨h1,h2⟩:=own_sorted h n d hsz' os;refine⟨rfl,d.toList,?_,?_,h1,h2⟩
 ·have e:d.extract 0 l.length=d:=by rw[←hsz'];simp
  have e2:(l.toArray.extract 0 l.length).toList=l:=by simp
  rw[e,e2]at hperm;exact hperm
 ·intro i j hij hj
  have hj':j<d.size:=by simpa using hj
  have:=hsort i j (Nat.zero_le _) hij (by omega);rw[getElem!_pos d i (by omega),getElem!_pos d j hj',ltOf_rep]at this;simpa using this
end Go.Proofs.YtchfcgilpjkmhaaGreatDoor
