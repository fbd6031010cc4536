import Derived.StillTailTactics
import Derived.BigQuiet
import Derived.Test.YtchfcgilpjkmhaaGreatDoorY14
import Derived.Test.YtchfcgilpjkmhaaGreatDoorY10
import Derived.Test.YtchfcgilpjkmhaaGreatDoorY0
set_option maxRecDepth 100000
set_option linter.unusedSimpArgs false
set_option linter.unusedVariables false
set_option linter.unusedSectionVars false
namespace Go.Proofs.YtchfcgilpjkmhaaGreatDoor
open Go.ChangeShapes Go.WideShapes Go.ChangeAt Go.RowKit
attribute [local go_sem] Oper.semAt_some
def eqL{α:Type}[DecidableEq α](a b:List α):Bool:=decide (a=b)
theorem eqL_true{α:Type}[DecidableEq α]{a b:List α}(h:a=b):eqL a b=true:=decide_eq_true h
theorem eqL_false{α:Type}[DecidableEq α]{a b:List α}(h:a≠b):eqL a b=false:=decide_eq_false h
theorem eqL_len{α:Type}[DecidableEq α]{a b:List α}(h:((a.length:Int) !=b.length)=true):eqL a b=false:=eqL_false fun e=>by rw[e]at h;simp at h
theorem eqL_all{α:Type}[DecidableEq α]{a b:List α}(hl:a.length=b.length)(h:∀j (h1:j<a.length) (h2:j<b.length),a[j]=b[j]):eqL a b=true:=eqL_true (List.ext_getElem hl h)
theorem eqL_at{α:Type}[DecidableEq α]{a b:List α}{k:Nat}(h1:k<a.length)(h2:k<b.length)(h:a[k]≠b[k]):eqL a b=false:=eqL_false fun e=>h (by subst e;rfl)
theorem sameTexts_c(a b:List ByteArray)(A1 A2:Option Addr)(c1 c2:Nat)(w:World)(ha:RdStr w w.heap.size A1 a)(hb:RdStr w w.heap.size A2 b)(hl:a.length≤100000):
 CU 18 #[.slice A1 a.length c1,.slice A2 b.length c2] w (.bool (eqL a b)):=by
 have Ha:=lz ha
 have Hb:=lz hb
 clear ha hb
 cases hne:((a.length:Int) !=b.length)with
 | true=>
   have Hr:=lz (eqL_len hne)
   go_enter Tryz.func18,Tryz.ntmps18
   go_wp2_with fail
   go_ret
   exact⟨ret_bool Hr.out.symm,Below.refl _ _⟩
 | false=>
   have hab:a.length=b.length:=by have:(a.length:Int)=b.length:=by simpa using hne
                                  omega
   have Hab:=lz hab
   clear hab
   go_enter Tryz.func18,Tryz.ntmps18
   go_wp2_with fail
   go_loopw [5] (fun t wr=>∃k:Nat,k≤a.length∧t= .int .i64 k∧Below w.heap.size w wr∧Hid (∀j (h1:j<a.length) (h2:j<b.length),j<k→a[j]=b[j])) (fun t wr=>a.length-(intOf t).toNat)
   case atStart=>exact⟨0,Nat.zero_le _,rfl,Below.refl _ _,fun j _ _ h=>absurd h (by omega)⟩
   case round=>
    obtain⟨k,hk,rfl,hB,hall⟩:=hrel
    by_cases hlt:k<a.length
    ·have hlt2:k<b.length:=by have:=Hab.out;omega
     obtain⟨g1,o1,rfl,hg1,d1⟩:=(Ha.out.keep hB).at_ hlt
     obtain⟨g2,o2,rfl,hg2,d2⟩:=(Hb.out.keep hB).at_ hlt2
     have hmiss:=eqL_at hlt hlt2
     have Hmiss:=lz hmiss
     have hnx:a[k]=b[k]→∀j (h1:j<a.length) (h2:j<b.length),j<k+1→a[j]=b[j]:=fun e j h1 h2 hj=>by
      by_cases ej:j=k
      ·subst ej;exact e
      ·exact hall.out j h1 h2 (by omega)
     have Hnx:=lz hnx
     have HB:=lz hB
     clear hmiss hnx hall hB
     generalize a[k]=x at*
     generalize b[k]=y at*
     by_cases e:x=y
     ·have he:=str_eq e
      have hn:=lz (Hnx.out e)
      clear Hnx Hmiss e
      go_wp2_with fail
      go_quiet (fail)
      go_wp2_with fail
      go_roundw
      case rel=>exact⟨k+1,by omega,by go_num,only_below HB.out,hn⟩
      case measure=>simp[intOf];omega
     ·have he:=str_ne e
      have hn:=lz (Hmiss.out e)
      clear Hnx Hmiss e
      go_wp2_with fail
      go_quiet (fail)
      go_wp2_with fail
      go_ret
      exact⟨ret_bool hn.out.symm,only_below HB.out⟩
    ·have hn:=lz (eqL_all Hab.out fun j h1 h2=>hall.out j h1 h2 (by omega))
     clear hall
     go_wp2_with fail
     go_ret
     exact⟨ret_bool hn.out.symm,hB⟩
theorem rep_neq(r x:Rep)(W:World):(binOp .neq 41 (.agg #[.string r.unit,.int .i64 r.code]) (.agg #[.string x.unit,.int .i64 x.code])).run Tryz.prog W= .ok (.bool (!decide (r=x))) W:=by
 have h:=rep_eql r x W
 rw[run_eql_struct]at h
 rw[run_neq_struct]
 generalize (Op.equalIn 10000 41 (.agg #[.string r.unit,.int .i64 r.code]) (.agg #[.string x.unit,.int .i64 x.code])).run Tryz.prog W=q at*
 cases q with
 | ok v w'=>
   simp only[Result.andThen_ok]at h⊢
   obtain⟨h1,h2⟩:=ok_inj h
   injection h1 with h1
   rw[h1,h2]
 | halt x w'=>cases h
theorem rep_guardN(r x:Rep)(a b:Operand)(W:World):(eqGuard .neq 41 a b (.agg #[.string r.unit,.int .i64 r.code]) (.agg #[.string x.unit,.int .i64 x.code])).run Tryz.prog W= .ok () W:=run_eqGuard_agg W .neq 41 a b _ _ kz
theorem sameReports_c(a b:List Rep)(A1 A2:Option Addr)(c1 c2:Nat)(w:World)(ha:RdRep w w.heap.size A1 a)(hb:RdRep w w.heap.size A2 b)(hl:a.length≤100000):
 CU 19 #[.slice A1 a.length c1,.slice A2 b.length c2] w (.bool (eqL a b)):=by
 have Ha:=lz ha
 have Hb:=lz hb
 clear ha hb
 cases hne:((a.length:Int) !=b.length)with
 | true=>
   have Hr:=lz (eqL_len hne)
   go_enter Tryz.func19,Tryz.ntmps19
   go_wp2_with fail
   go_ret
   exact⟨ret_bool Hr.out.symm,Below.refl _ _⟩
 | false=>
   have hab:a.length=b.length:=by have:(a.length:Int)=b.length:=by simpa using hne
                                  omega
   have Hab:=lz hab
   clear hab
   go_enter Tryz.func19,Tryz.ntmps19
   go_wp2_with fail
   go_loopw [5] (fun t wr=>∃k:Nat,k≤a.length∧t= .int .i64 k∧Below w.heap.size w wr∧Hid (∀j (h1:j<a.length) (h2:j<b.length),j<k→a[j]=b[j])) (fun t wr=>a.length-(intOf t).toNat)
   case atStart=>exact⟨0,Nat.zero_le _,rfl,Below.refl _ _,fun j _ _ h=>absurd h (by omega)⟩
   case round=>
    obtain⟨k,hk,rfl,hB,hall⟩:=hrel
    by_cases hlt:k<a.length
    ·have hlt2:k<b.length:=by have:=Hab.out;omega
     obtain⟨g1,o1,rfl,hg1,hc1⟩:=(Ha.out.keep hB) (by omega)
     obtain⟨g2,o2,rfl,hg2,hc2⟩:=(Hb.out.keep hB) (by omega)
     obtain⟨d1,d2⟩:=hc1 k hlt
     obtain⟨d3,d4⟩:=hc2 k hlt2
     have hq:=fun W=>rep_neq a[k] b[k] W
     have hg:=fun x y W=>rep_guardN a[k] b[k] x y W
     clear hc1 hc2
     have hmiss:=eqL_at hlt hlt2
     have Hmiss:=lz hmiss
     have hnx:a[k]=b[k]→∀j (h1:j<a.length) (h2:j<b.length),j<k+1→a[j]=b[j]:=fun e j h1 h2 hj=>by
      by_cases ej:j=k
      ·subst ej;exact e
      ·exact hall.out j h1 h2 (by omega)
     have Hnx:=lz hnx
     have HB:=lz hB
     clear hmiss hnx hall hB
     generalize a[k]=x at*
     generalize b[k]=y at*
     by_cases e:x=y
     ·have he:decide (x=y)=true:=decide_eq_true e
      rw[he]at hq
      have hn:=lz (Hnx.out e)
      clear Hnx Hmiss e he
      go_wp2_with fail
      go_quiet (fail)
      go_wp2_with fail
      go_roundw
      case rel=>exact⟨k+1,by omega,by go_num,only_below HB.out,hn⟩
      case measure=>simp[intOf];omega
     ·have he:decide (x=y)=false:=decide_eq_false e
      rw[he]at hq
      have hn:=lz (Hmiss.out e)
      clear Hnx Hmiss e he
      go_wp2_with fail
      go_quiet (fail)
      go_wp2_with fail
      go_ret
      exact⟨ret_bool hn.out.symm,only_below HB.out⟩
    ·have hn:=lz (eqL_all Hab.out fun j h1 h2=>hall.out j h1 h2 (by omega))
     clear hall
     go_wp2_with fail
     go_ret
     exact⟨ret_bool hn.out.symm,hB⟩
def rX:Rep:=⟨⟨#[120]⟩,1⟩
def rY:Rep:=⟨⟨#[121]⟩,2⟩
def sU:ByteArray:=⟨#[117]⟩
def sW:ByteArray:=⟨#[119]⟩
def sZ:ByteArray:=⟨#[122]⟩
def exL:List Cs:= [⟨sU,[rX,rY],[sZ]⟩,⟨sZ,[rX],[]⟩,⟨sW,[rY],[sU]⟩]
def exV(s:Nat):List CsV:= [⟨⟨sU,[rX,rY],[sZ]⟩,⟨some ⟨s+2,0,none⟩,2,2⟩,⟨some ⟨s+3,0,none⟩,1,1⟩⟩,⟨⟨sZ,[rX],[]⟩,⟨some ⟨s+4,0,none⟩,1,1⟩,⟨none,0,0⟩⟩,⟨⟨sW,[rY],[sU]⟩,⟨some ⟨s+5,0,none⟩,1,1⟩,⟨some ⟨s+6,0,none⟩,1,1⟩⟩]
theorem blk_at(w:World)(s:Nat)(t:TypeId)(cs:Array Value)(h:w.heap.size=s):Blk (w.alloc (.cells cs t)) s t cs:=by subst h;exact Blk.new w t cs
theorem example_c(w:World):Calls Tryz.prog 12 #[] w fun e w'=>e= .returned (.slice (some ⟨w.heap.size+7,0,none⟩) 3 3)∧RdCs w' w'.heap.size (some ⟨w.heap.size+7,0,none⟩) (exV w.heap.size)∧Below w.heap.size w w':=by
 go_enter Tryz.func12,Tryz.ntmps12;go_wp2;go_ret;obtain⟨s,hs⟩:∃s,s=w.heap.size:=⟨_,rfl⟩;rw[←hs];have k2:=((((blk_at ((w.alloc (.cells #[.string ⟨#[120]⟩,.int .i64 1] 41)).alloc (.cells #[.string ⟨#[121]⟩,.int .i64 2] 41)) (s+2) 41 #[.string ⟨#[120]⟩,.int .i64 1,.string ⟨#[121]⟩,.int .i64 2] (by simp[hs])).alloc (.cells #[.string ⟨#[122]⟩] 9)).alloc (.cells #[.string ⟨#[120]⟩,.int .i64 1] 41)).alloc (.cells #[.string ⟨#[121]⟩,.int .i64 2] 41)).alloc (.cells #[.string ⟨#[117]⟩] 9);have k3:=(((blk_at (((w.alloc (.cells #[.string ⟨#[120]⟩,.int .i64 1] 41)).alloc (.cells #[.string ⟨#[121]⟩,.int .i64 2] 41)).alloc (.cells #[.string ⟨#[120]⟩,.int .i64 1,.string ⟨#[121]⟩,.int .i64 2] 41)) (s+3) 9 #[.string ⟨#[122]⟩] (by simp[hs])).alloc (.cells #[.string ⟨#[120]⟩,.int .i64 1] 41)).alloc (.cells #[.string ⟨#[121]⟩,.int .i64 2] 41)).alloc (.cells #[.string ⟨#[117]⟩] 9);have k4:=((blk_at ((((w.alloc (.cells #[.string ⟨#[120]⟩,.int .i64 1] 41)).alloc (.cells #[.string ⟨#[121]⟩,.int .i64 2] 41)).alloc (.cells #[.string ⟨#[120]⟩,.int .i64 1,.string ⟨#[121]⟩,.int .i64 2] 41)).alloc (.cells #[.string ⟨#[122]⟩] 9)) (s+4) 41 #[.string ⟨#[120]⟩,.int .i64 1] (by simp[hs])).alloc (.cells #[.string ⟨#[121]⟩,.int .i64 2] 41)).alloc (.cells #[.string ⟨#[117]⟩] 9);have k5:=(blk_at (((((w.alloc (.cells #[.string ⟨#[120]⟩,.int .i64 1] 41)).alloc (.cells #[.string ⟨#[121]⟩,.int .i64 2] 41)).alloc (.cells #[.string ⟨#[120]⟩,.int .i64 1,.string ⟨#[121]⟩,.int .i64 2] 41)).alloc (.cells #[.string ⟨#[122]⟩] 9)).alloc (.cells #[.string ⟨#[120]⟩,.int .i64 1] 41)) (s+5) 41 #[.string ⟨#[121]⟩,.int .i64 2] (by simp[hs])).alloc (.cells #[.string ⟨#[117]⟩] 9);have k6:=blk_at ((((((w.alloc (.cells #[.string ⟨#[120]⟩,.int .i64 1] 41)).alloc (.cells #[.string ⟨#[121]⟩,.int .i64 2] 41)).alloc (.cells #[.string ⟨#[120]⟩,.int .i64 1,.string ⟨#[121]⟩,.int .i64 2] 41)).alloc (.cells #[.string ⟨#[122]⟩] 9)).alloc (.cells #[.string ⟨#[120]⟩,.int .i64 1] 41)).alloc (.cells #[.string ⟨#[121]⟩,.int .i64 2] 41)) (s+6) 9 #[.string ⟨#[117]⟩] (by simp[hs]);have hB:Below w.heap.size w (((((((w.alloc (.cells #[.string ⟨#[120]⟩,.int .i64 1] 41)).alloc (.cells #[.string ⟨#[121]⟩,.int .i64 2] 41)).alloc (.cells #[.string ⟨#[120]⟩,.int .i64 1,.string ⟨#[121]⟩,.int .i64 2] 41)).alloc (.cells #[.string ⟨#[122]⟩] 9)).alloc (.cells #[.string ⟨#[120]⟩,.int .i64 1] 41)).alloc (.cells #[.string ⟨#[121]⟩,.int .i64 2] 41)).alloc (.cells #[.string ⟨#[117]⟩] 9)):=
  ((((((((Below.refl _ w).alloc (Nat.le_refl _) _).alloc (by simp) _).alloc (by simp;omega) _).alloc (by simp;omega) _).alloc (by simp;omega) _).alloc (by simp;omega) _).alloc (by simp;omega) _)
 have hz:(((((((w.alloc (.cells #[.string ⟨#[120]⟩,.int .i64 1] 41)).alloc (.cells #[.string ⟨#[121]⟩,.int .i64 2] 41)).alloc (.cells #[.string ⟨#[120]⟩,.int .i64 1,.string ⟨#[121]⟩,.int .i64 2] 41)).alloc (.cells #[.string ⟨#[122]⟩] 9)).alloc (.cells #[.string ⟨#[120]⟩,.int .i64 1] 41)).alloc (.cells #[.string ⟨#[121]⟩,.int .i64 2] 41)).alloc (.cells #[.string ⟨#[117]⟩] 9)).heap.size=s+7:=by simp[hs]
 generalize (((((((w.alloc (.cells #[.string ⟨#[120]⟩,.int .i64 1] 41)).alloc (.cells #[.string ⟨#[121]⟩,.int .i64 2] 41)).alloc (.cells #[.string ⟨#[120]⟩,.int .i64 1,.string ⟨#[121]⟩,.int .i64 2] 41)).alloc (.cells #[.string ⟨#[122]⟩] 9)).alloc (.cells #[.string ⟨#[120]⟩,.int .i64 1] 41)).alloc (.cells #[.string ⟨#[121]⟩,.int .i64 2] 41)).alloc (.cells #[.string ⟨#[117]⟩] 9))=W at *;have k7:=blk_at W (s+7) 48 #[.string ⟨#[117]⟩,.slice (some ⟨s+2,0,none⟩) 2 2,.slice (some ⟨s+3,0,none⟩) 1 1,.string ⟨#[122]⟩,.slice (some ⟨s+4,0,none⟩) 1 1,.slice none 0 0,.string ⟨#[119]⟩,.slice (some ⟨s+5,0,none⟩) 1 1,.slice (some ⟨s+6,0,none⟩) 1 1] hz
 replace k2:=k2.alloc (.cells #[.string ⟨#[117]⟩,.slice (some ⟨s+2,0,none⟩) 2 2,.slice (some ⟨s+3,0,none⟩) 1 1,.string ⟨#[122]⟩,.slice (some ⟨s+4,0,none⟩) 1 1,.slice none 0 0,.string ⟨#[119]⟩,.slice (some ⟨s+5,0,none⟩) 1 1,.slice (some ⟨s+6,0,none⟩) 1 1] 48)
 replace k3:=k3.alloc (.cells #[.string ⟨#[117]⟩,.slice (some ⟨s+2,0,none⟩) 2 2,.slice (some ⟨s+3,0,none⟩) 1 1,.string ⟨#[122]⟩,.slice (some ⟨s+4,0,none⟩) 1 1,.slice none 0 0,.string ⟨#[119]⟩,.slice (some ⟨s+5,0,none⟩) 1 1,.slice (some ⟨s+6,0,none⟩) 1 1] 48)
 replace k4:=k4.alloc (.cells #[.string ⟨#[117]⟩,.slice (some ⟨s+2,0,none⟩) 2 2,.slice (some ⟨s+3,0,none⟩) 1 1,.string ⟨#[122]⟩,.slice (some ⟨s+4,0,none⟩) 1 1,.slice none 0 0,.string ⟨#[119]⟩,.slice (some ⟨s+5,0,none⟩) 1 1,.slice (some ⟨s+6,0,none⟩) 1 1] 48)
 replace k5:=k5.alloc (.cells #[.string ⟨#[117]⟩,.slice (some ⟨s+2,0,none⟩) 2 2,.slice (some ⟨s+3,0,none⟩) 1 1,.string ⟨#[122]⟩,.slice (some ⟨s+4,0,none⟩) 1 1,.slice none 0 0,.string ⟨#[119]⟩,.slice (some ⟨s+5,0,none⟩) 1 1,.slice (some ⟨s+6,0,none⟩) 1 1] 48)
 replace k6:=k6.alloc (.cells #[.string ⟨#[117]⟩,.slice (some ⟨s+2,0,none⟩) 2 2,.slice (some ⟨s+3,0,none⟩) 1 1,.string ⟨#[122]⟩,.slice (some ⟨s+4,0,none⟩) 1 1,.slice none 0 0,.string ⟨#[119]⟩,.slice (some ⟨s+5,0,none⟩) 1 1,.slice (some ⟨s+6,0,none⟩) 1 1] 48)
 rw[←hs]at hB;have hB8:=hB.alloc (by omega) (.cells #[.string ⟨#[117]⟩,.slice (some ⟨s+2,0,none⟩) 2 2,.slice (some ⟨s+3,0,none⟩) 1 1,.string ⟨#[122]⟩,.slice (some ⟨s+4,0,none⟩) 1 1,.slice none 0 0,.string ⟨#[119]⟩,.slice (some ⟨s+5,0,none⟩) 1 1,.slice (some ⟨s+6,0,none⟩) 1 1] 48);have hlt:=k7.lt;have m1:1≤maxLen:=by simp[maxLen]
 have m2:2≤maxLen:=by simp[maxLen]
 refine⟨rfl,fun _=>⟨s+7,0,rfl,hlt,fun i hi=> ?_⟩,hB8⟩;have hi3:i=0∨i=1∨i=2:=by simp[exV]at hi;omega
 rcases hi3 with rfl | rfl | rfl
 ·refine⟨k7.cell 0,k7.cell 1,k7.cell 2,rfl,Nat.le_refl _,m2,fun _=>⟨s+2,0,rfl,k2.lt,fun j hj=> ?_⟩,rfl,Nat.le_refl _,m1,fun _=>⟨s+3,0,rfl,k3.lt,fun j hj=> ?_⟩⟩
  ·have:j=0∨j=1:=by have:j<2:=hj;omega
   rcases this with rfl | rfl
   ·exact⟨k2.cell 0,k2.cell 1⟩
   ·exact⟨k2.cell 2,k2.cell 3⟩
  ·have:j=0:=by have:j<1:=hj;omega
   subst this;exact k3.cell 0
 ·refine⟨k7.cell 3,k7.cell 4,k7.cell 5,rfl,Nat.le_refl _,m1,fun _=>⟨s+4,0,rfl,k4.lt,fun j hj=> ?_⟩,rfl,Nat.le_refl _,Nat.zero_le _,fun h=>absurd h (by simp[exV])⟩
  have:j=0:=by have:j<1:=hj;omega
  subst this;exact⟨k4.cell 0,k4.cell 1⟩
 ·refine⟨k7.cell 6,k7.cell 7,k7.cell 8,rfl,Nat.le_refl _,m1,fun _=>⟨s+5,0,rfl,k5.lt,fun j hj=> ?_⟩,rfl,Nat.le_refl _,m1,fun _=>⟨s+6,0,rfl,k6.lt,fun j hj=> ?_⟩⟩
  ·have:j=0:=by have:j<1:=hj;omega
   subst this;exact⟨k5.cell 0,k5.cell 1⟩
  ·have:j=0:=by have:j<1:=hj;omega
   subst this;exact k6.cell 0

def CkB(w:World)(g:Nat)(A:Option Addr)(n c:Nat):Prop:=Blk w g 106 #[.slice none 0 0,.slice none 0 0,.slice none 0 0,.slice none 0 0,.slice none 0 0,.slice none 0 0,.slice A n c,.slice none 0 0]
theorem CkB.cell{w:World}{g:Nat}{A:Option Addr}{n c:Nat}(h:CkB w g A n c)(i:Nat):w.cell? ⟨g,i,none⟩=(#[.slice none 0 0,.slice none 0 0,.slice none 0 0,.slice none 0 0,.slice none 0 0,.slice none 0 0,.slice A n c,.slice none 0 0]:Array Value)[i]?:=Blk.cell h i

theorem parts96(g:Nat)(w:World):Calls Tryz.prog 65 #[.pointer (some ⟨g,0,none⟩)] w fun e w'=>e= .returned (.func (.func 152) #[] #[.pointer (some ⟨w.heap.size,0,none⟩)])∧w'=w.alloc (.cells #[.pointer (some ⟨g,0,none⟩)] 104):=by
 go_enter Tryz.func65,Tryz.ntmps65;go_wp2;go_ret;exact⟨rfl,rfl⟩
theorem conns91(g:Nat)(w:World):Calls Tryz.prog 60 #[.pointer (some ⟨g,0,none⟩)] w fun e w'=>e= .returned (.func (.func 144) #[] #[.pointer (some ⟨w.heap.size,0,none⟩)])∧w'=w.alloc (.cells #[.pointer (some ⟨g,0,none⟩)] 104):=by
 go_enter Tryz.func60,Tryz.ntmps60;go_wp2;go_ret;exact⟨rfl,rfl⟩



def seqB(a b:ByteArray):Bool:=a.toList==b.toList
def hasU(R:List CsV)(u:ByteArray):Bool:=R.any fun x=>seqB x.c.unit u
theorem is127(Bu:Nat)(u:ByteArray)(x:CsV)(w:World)(hb:Blk w Bu 9 #[.string u]):CU 96 #[x.val,.pointer (some ⟨Bu,0,none⟩)] w (.bool (seqB x.c.unit u)):=by
 have c0:=hb.cell 0;have hlt:=hb.lt;unfold seqB;clear hb;dsimp only[CsV.val];go_enter Tryz.func96,Tryz.ntmps96;go_wp2;go_ret;exact⟨rfl,(Below.refl _ w).alloc (Nat.le_refl _) _⟩
theorem is129(Bu:Nat)(u:ByteArray)(x:CsV)(w:World)(hb:Blk w Bu 9 #[.string u]):CU 98 #[x.val,.pointer (some ⟨Bu,0,none⟩)] w (.bool (seqB x.c.unit u)):=by
 have c0:=hb.cell 0;have hlt:=hb.lt;unfold seqB;clear hb;dsimp only[CsV.val];go_enter Tryz.func98,Tryz.ntmps98;go_wp2;go_ret;exact⟨rfl,(Below.refl _ w).alloc (Nat.le_refl _) _⟩
structure ClsIn(w:World)(g Br Bk B5 B6:Nat)(A:Option Addr)(L:List CsV)(c:Nat)(AR:Option Addr)(R:List CsV)(cR:Nat):Prop where
 k:Blk w Bk 104 #[.pointer (some ⟨g,0,none⟩)]
 ck:CkB w g A L.length c
 rl:RdCs w w.heap.size A L
 br:Blk w Br 28 #[.slice AR R.length cR]
 rr:RdCs w w.heap.size AR R
 b5:Blk w B5 185 #[.func (.func 94) #[] #[.pointer (some ⟨Br,0,none⟩)]]
 b6:Blk w B6 185 #[.func (.func 97) #[] #[.pointer (some ⟨Bk,0,none⟩)]]
 ll:L.length≤1000
 lr:R.length≤1000
section
variable {w w':World} {g Br Bk B5 B6:Nat} {A:Option Addr} {L:List CsV} {c:Nat} {AR:Option Addr} {R:List CsV} {cR:Nat}
theorem ClsIn.below(h:ClsIn w g Br Bk B5 B6 A L c AR R cR)(hb:Below w.heap.size w w'):ClsIn w' g Br Bk B5 B6 A L c AR R cR:=
 ⟨h.k.below hb h.k.lt,Blk.below h.ck hb (Blk.lt h.ck),h.rl.below hb,h.br.below hb h.br.lt,h.rr.below hb,h.b5.below hb h.b5.lt,h.b6.below hb h.b6.lt,h.ll,h.lr⟩
def fineV(L R:List CsV)(y:CsV):Bool:=y.c.excl.all fun u=>hasU L u&& !hasU R u
def openV(L R:List CsV)(x y:CsV):Bool:=seqB y.c.unit x.c.unit&& !fineV L R y
def staysV(L R:List CsV)(x:CsV):Bool:=R.any fun y=>openV L R x y
end
def runC(L:List CsV):Nat→Int→List CsV→Bool
 | 0,_,_=>false
 | f+1,n,R=>if n=R.length then decide (R.length=0)else runC L f R.length (R.filter (staysV L R))
theorem runC_end{L R:List CsV}{f:Nat}{n:Int}(h:runC L f n R=true)(hn:n=R.length):R.length=0:=by
 cases f with
 | zero=>cases h
 | succ f=>simpa [runC,hn]using h
theorem runC_next{L R:List CsV}{f:Nat}{n:Int}(h:runC L f n R=true)(hn:¬n=R.length):∃f',f=f'+1∧runC L f' R.length (R.filter (staysV L R))=true:=by
 cases f with
 | zero=>cases h
 | succ f=>
  rw[runC,if_neg hn]at h;exact⟨f,rfl,h⟩
def runO(L:List CsV):Nat→Int→List CsV→Option Bool
 | 0,_,_=>none
 | f+1,n,R=>if n=R.length then some (decide (R.length=0))else runO L f R.length (R.filter (staysV L R))
theorem runO_end{L R:List CsV}{f:Nat}{n:Int}{b:Bool}(h:runO L f n R=some b)(hn:n=R.length):decide (R.length=0)=b:=by
 cases f with
 | zero=>cases h
 | succ f=>rw[runO,if_pos hn]at h;exact Option.some.inj h
theorem runO_next{L R:List CsV}{f:Nat}{n:Int}{b:Bool}(h:runO L f n R=some b)(hn:¬n=R.length):∃f',f=f'+1∧runO L f' R.length (R.filter (staysV L R))=some b:=by
 cases f with
 | zero=>cases h
 | succ f=>
  rw[runO,if_neg hn]at h;exact⟨f,rfl,h⟩
theorem runO_of{L:List CsV}:∀(f:Nat) (n:Int) (R:List CsV),runC L f n R=true→runO L f n R=some true
 | 0,_,_,h=>by cases h
 | f+1,n,R,h=>by
  by_cases hn:n=R.length
  ·rw[runO,if_pos hn,decide_eq_true (runC_end h hn)]
  ·obtain⟨f',e,h2⟩:=runC_next h hn
   have e':f=f':=by omega
   subst e';rw[runO,if_neg hn];exact runO_of f _ _ h2
theorem rdCs_own{W:World}{base c:Nat}{A:Option Addr}{L:List CsV}(h:W.ownsRow base 48 3 (.slice A L.length c) L.length (L.flatMap CsV.cells))(hx:∀x∈L,x.rd W W.heap.size):RdCs W W.heap.size A L:=fun hn=>by
 obtain⟨g,cap,hv,_,hlt⟩:=h.form hn;have hA:A=some ⟨g,0,none⟩:=by injection hv
 subst hA;refine⟨g,0,rfl,hlt,fun i hi=> ?_⟩;obtain⟨q0,q1,q2⟩:=cellsC_get L i hi;have c0:=h.cells (g:=g) rfl _ _ q0;have c1:=h.cells (g:=g) rfl _ _ q1;have c2:=h.cells (g:=g) rfl _ _ q2;rw[add_none]at c0 c1 c2;exact⟨by simpa using c0,by simpa using c1,by simpa using c2,hx _ (List.getElem_mem hi)⟩
theorem filt_yes{p:CsV→Bool}{R:List CsV}{k:Nat}(hk:k<R.length)(h:p R[k]=true):(R.take (k+1)).filter p=(R.take k).filter p++ [R[k]]:=by
 rw[List.take_succ_eq_append_getElem hk,List.filter_append];simp[h]
theorem filt_no{p:CsV→Bool}{R:List CsV}{k:Nat}(hk:k<R.length)(h:p R[k]=false):(R.take (k+1)).filter p=(R.take k).filter p:=by
 rw[List.take_succ_eq_append_getElem hk,List.filter_append];simp[h]
theorem filt_len{p:CsV→Bool}{R:List CsV}{k:Nat}:((R.take k).filter p).length≤R.length:=Nat.le_trans (List.length_filter_le _ _) (by simp;omega)
def mesC(a:Value)(b:Option Value):Nat:=match b with
 | some (.slice _ n _)=>2*n+(match a with | .int _ i=>if i=n then 0 else 1 | _=>0)
 | _=>0
theorem mesC_eq(k:IntKind)(i:Int)(A:Option Addr)(n c:Nat):mesC (.int k i) (some (.slice A n c))=2*n+if i=n then 0 else 1:=rfl

end Go.Proofs.YtchfcgilpjkmhaaGreatDoor
