import Derived.Test.YtchfcgilpjkmhaaGreatDoorProg
import Derived.Shelf.Strconv.ErrVarAll
import Derived.Shelf.Strconv.Itoa3
import Derived.Shelf.Strings.SplitShaped
import Derived.Shelf.Strings.Prefix
import Derived.Shelf.Strings.Cut
import Derived.Ground.NamesProg
import Derived.Lib.AtoiAllCases
import Derived.Lib.SmallJoins
import Derived.Lib.AppendIntMem
import Derived.Test.YtchfcgilpjkmhaaGreatDoorY10
import Derived.Test.YtchfcgilpjkmhaaGreatDoorY0
set_option maxRecDepth 100000
set_option linter.unusedSimpArgs false
set_option linter.unusedVariables false
set_option linter.unusedSectionVars false
namespace Go.Proofs.YtchfcgilpjkmhaaGreatDoor
open Go.ChangeShapes Go.WideShapes Go.ChangeAt Go.RowKit
attribute [local go_sem] Oper.semAt_some
def letP(b:Int):Bool:=betP 97 122 b||(betP 65 90 b||false)
def digP(b:Int):Bool:=betP 48 57 b
def sgnP(b:Int):Bool:=amoP ⟨#[123,125,59,44,46,58]⟩ b
structure StartsG(W:World)(v1 v2 v3:Value):Prop where
 ex:∃Be Bd Bd2 Bs,v1= .func (.func 327) #[] #[.pointer (some ⟨Be,0,none⟩)]∧v2= .func (.func 328) #[] #[.pointer (some ⟨Bd,0,none⟩),.pointer (some ⟨Bd2,0,none⟩)]∧v3= .func (.func 329) #[] #[.pointer (some ⟨Bs,0,none⟩)]∧
  ∀g W',W.heap.size≤g→Below W.heap.size W W'→TestG g W' 327 #[.pointer (some ⟨Be,0,none⟩)] letP∧TestG g W' 328 #[.pointer (some ⟨Bd,0,none⟩),.pointer (some ⟨Bd2,0,none⟩)] digP∧TestG g W' 329 #[.pointer (some ⟨Bs,0,none⟩)] sgnP
set_option maxHeartbeats 1000000 in
theorem starts_g(w:World):Calls Tryz.prog 293 #[] w fun e w'=>∃v1 v2 v3,e= .returned (.agg #[.nilFunc,v1,v2,v3])∧StartsG w' v1 v2 v3∧Below w.heap.size w w':=by
 go_enter Tryz.func293,Tryz.ntmps293;go_wp2_with (first | (go_at_call 313;refine(between_c _ _ _).mono ?_;rintro e w' ⟨rfl,rfl⟩) | (go_at_call 312;refine(either_c _ _ _ _).mono ?_;rintro e w' ⟨rfl,rfl⟩) | (go_at_call 314;refine(among_c _ _).mono ?_;rintro e w' ⟨rfl,rfl⟩));have h0:=((((((((((blk_at' w (w.heap.size) 311 #[.nilFunc,.func (.func 327) #[] #[.pointer (some ⟨w.heap.size+1+1+1+1+1+1,0,none⟩)],.func (.func 328) #[] #[.pointer (some ⟨w.heap.size+1+1+1+1+1+1+1,0,none⟩),.pointer (some ⟨w.heap.size+1+1+1+1+1+1+1+1,0,none⟩)],.func (.func 329) #[] #[.pointer (some ⟨w.heap.size+1+1+1+1+1+1+1+1+1,0,none⟩)]] (by simp)).alloc (.cells #[.int .u8 97] 5)).alloc (.cells #[.int .u8 122] 5)).alloc (.cells #[.int .u8 65] 5)).alloc (.cells #[.int .u8 90] 5)).alloc (.cells #[.func (.func 328) #[] #[.pointer (some ⟨w.heap.size+1,0,none⟩),.pointer (some ⟨w.heap.size+1+1,0,none⟩)],.func (.func 328) #[] #[.pointer (some ⟨w.heap.size+1+1+1,0,none⟩),.pointer (some ⟨w.heap.size+1+1+1+1,0,none⟩)]] 262)).alloc (.cells #[.slice (some ⟨w.heap.size+1+1+1+1+1,0,none⟩) 2 2] 344)).alloc (.cells #[.int .u8 48] 5)).alloc (.cells #[.int .u8 57] 5)).alloc (.cells #[.string ⟨#[123,125,59,44,46,58]⟩] 9));have h1:=(((((((((blk_at' (w.alloc (.cells #[.nilFunc,.func (.func 327) #[] #[.pointer (some ⟨w.heap.size+1+1+1+1+1+1,0,none⟩)],.func (.func 328) #[] #[.pointer (some ⟨w.heap.size+1+1+1+1+1+1+1,0,none⟩),.pointer (some ⟨w.heap.size+1+1+1+1+1+1+1+1,0,none⟩)],.func (.func 329) #[] #[.pointer (some ⟨w.heap.size+1+1+1+1+1+1+1+1+1,0,none⟩)]] 311)) (w.heap.size+1) 5 #[.int .u8 97] (by simp)).alloc (.cells #[.int .u8 122] 5)).alloc (.cells #[.int .u8 65] 5)).alloc (.cells #[.int .u8 90] 5)).alloc (.cells #[.func (.func 328) #[] #[.pointer (some ⟨w.heap.size+1,0,none⟩),.pointer (some ⟨w.heap.size+1+1,0,none⟩)],.func (.func 328) #[] #[.pointer (some ⟨w.heap.size+1+1+1,0,none⟩),.pointer (some ⟨w.heap.size+1+1+1+1,0,none⟩)]] 262)).alloc (.cells #[.slice (some ⟨w.heap.size+1+1+1+1+1,0,none⟩) 2 2] 344)).alloc (.cells #[.int .u8 48] 5)).alloc (.cells #[.int .u8 57] 5)).alloc (.cells #[.string ⟨#[123,125,59,44,46,58]⟩] 9));have h2:=((((((((blk_at' ((w.alloc (.cells #[.nilFunc,.func (.func 327) #[] #[.pointer (some ⟨w.heap.size+1+1+1+1+1+1,0,none⟩)],.func (.func 328) #[] #[.pointer (some ⟨w.heap.size+1+1+1+1+1+1+1,0,none⟩),.pointer (some ⟨w.heap.size+1+1+1+1+1+1+1+1,0,none⟩)],.func (.func 329) #[] #[.pointer (some ⟨w.heap.size+1+1+1+1+1+1+1+1+1,0,none⟩)]] 311)).alloc (.cells #[.int .u8 97] 5)) (w.heap.size+1+1) 5 #[.int .u8 122] (by simp)).alloc (.cells #[.int .u8 65] 5)).alloc (.cells #[.int .u8 90] 5)).alloc (.cells #[.func (.func 328) #[] #[.pointer (some ⟨w.heap.size+1,0,none⟩),.pointer (some ⟨w.heap.size+1+1,0,none⟩)],.func (.func 328) #[] #[.pointer (some ⟨w.heap.size+1+1+1,0,none⟩),.pointer (some ⟨w.heap.size+1+1+1+1,0,none⟩)]] 262)).alloc (.cells #[.slice (some ⟨w.heap.size+1+1+1+1+1,0,none⟩) 2 2] 344)).alloc (.cells #[.int .u8 48] 5)).alloc (.cells #[.int .u8 57] 5)).alloc (.cells #[.string ⟨#[123,125,59,44,46,58]⟩] 9));have h3:=(((((((blk_at' (((w.alloc (.cells #[.nilFunc,.func (.func 327) #[] #[.pointer (some ⟨w.heap.size+1+1+1+1+1+1,0,none⟩)],.func (.func 328) #[] #[.pointer (some ⟨w.heap.size+1+1+1+1+1+1+1,0,none⟩),.pointer (some ⟨w.heap.size+1+1+1+1+1+1+1+1,0,none⟩)],.func (.func 329) #[] #[.pointer (some ⟨w.heap.size+1+1+1+1+1+1+1+1+1,0,none⟩)]] 311)).alloc (.cells #[.int .u8 97] 5)).alloc (.cells #[.int .u8 122] 5)) (w.heap.size+1+1+1) 5 #[.int .u8 65] (by simp)).alloc (.cells #[.int .u8 90] 5)).alloc (.cells #[.func (.func 328) #[] #[.pointer (some ⟨w.heap.size+1,0,none⟩),.pointer (some ⟨w.heap.size+1+1,0,none⟩)],.func (.func 328) #[] #[.pointer (some ⟨w.heap.size+1+1+1,0,none⟩),.pointer (some ⟨w.heap.size+1+1+1+1,0,none⟩)]] 262)).alloc (.cells #[.slice (some ⟨w.heap.size+1+1+1+1+1,0,none⟩) 2 2] 344)).alloc (.cells #[.int .u8 48] 5)).alloc (.cells #[.int .u8 57] 5)).alloc (.cells #[.string ⟨#[123,125,59,44,46,58]⟩] 9));have h4:=((((((blk_at' ((((w.alloc (.cells #[.nilFunc,.func (.func 327) #[] #[.pointer (some ⟨w.heap.size+1+1+1+1+1+1,0,none⟩)],.func (.func 328) #[] #[.pointer (some ⟨w.heap.size+1+1+1+1+1+1+1,0,none⟩),.pointer (some ⟨w.heap.size+1+1+1+1+1+1+1+1,0,none⟩)],.func (.func 329) #[] #[.pointer (some ⟨w.heap.size+1+1+1+1+1+1+1+1+1,0,none⟩)]] 311)).alloc (.cells #[.int .u8 97] 5)).alloc (.cells #[.int .u8 122] 5)).alloc (.cells #[.int .u8 65] 5)) (w.heap.size+1+1+1+1) 5 #[.int .u8 90] (by simp)).alloc (.cells #[.func (.func 328) #[] #[.pointer (some ⟨w.heap.size+1,0,none⟩),.pointer (some ⟨w.heap.size+1+1,0,none⟩)],.func (.func 328) #[] #[.pointer (some ⟨w.heap.size+1+1+1,0,none⟩),.pointer (some ⟨w.heap.size+1+1+1+1,0,none⟩)]] 262)).alloc (.cells #[.slice (some ⟨w.heap.size+1+1+1+1+1,0,none⟩) 2 2] 344)).alloc (.cells #[.int .u8 48] 5)).alloc (.cells #[.int .u8 57] 5)).alloc (.cells #[.string ⟨#[123,125,59,44,46,58]⟩] 9));have h5:=(((((blk_at' (((((w.alloc (.cells #[.nilFunc,.func (.func 327) #[] #[.pointer (some ⟨w.heap.size+1+1+1+1+1+1,0,none⟩)],.func (.func 328) #[] #[.pointer (some ⟨w.heap.size+1+1+1+1+1+1+1,0,none⟩),.pointer (some ⟨w.heap.size+1+1+1+1+1+1+1+1,0,none⟩)],.func (.func 329) #[] #[.pointer (some ⟨w.heap.size+1+1+1+1+1+1+1+1+1,0,none⟩)]] 311)).alloc (.cells #[.int .u8 97] 5)).alloc (.cells #[.int .u8 122] 5)).alloc (.cells #[.int .u8 65] 5)).alloc (.cells #[.int .u8 90] 5)) (w.heap.size+1+1+1+1+1) 262 #[.func (.func 328) #[] #[.pointer (some ⟨w.heap.size+1,0,none⟩),.pointer (some ⟨w.heap.size+1+1,0,none⟩)],.func (.func 328) #[] #[.pointer (some ⟨w.heap.size+1+1+1,0,none⟩),.pointer (some ⟨w.heap.size+1+1+1+1,0,none⟩)]] (by simp)).alloc (.cells #[.slice (some ⟨w.heap.size+1+1+1+1+1,0,none⟩) 2 2] 344)).alloc (.cells #[.int .u8 48] 5)).alloc (.cells #[.int .u8 57] 5)).alloc (.cells #[.string ⟨#[123,125,59,44,46,58]⟩] 9));have h6:=((((blk_at' ((((((w.alloc (.cells #[.nilFunc,.func (.func 327) #[] #[.pointer (some ⟨w.heap.size+1+1+1+1+1+1,0,none⟩)],.func (.func 328) #[] #[.pointer (some ⟨w.heap.size+1+1+1+1+1+1+1,0,none⟩),.pointer (some ⟨w.heap.size+1+1+1+1+1+1+1+1,0,none⟩)],.func (.func 329) #[] #[.pointer (some ⟨w.heap.size+1+1+1+1+1+1+1+1+1,0,none⟩)]] 311)).alloc (.cells #[.int .u8 97] 5)).alloc (.cells #[.int .u8 122] 5)).alloc (.cells #[.int .u8 65] 5)).alloc (.cells #[.int .u8 90] 5)).alloc (.cells #[.func (.func 328) #[] #[.pointer (some ⟨w.heap.size+1,0,none⟩),.pointer (some ⟨w.heap.size+1+1,0,none⟩)],.func (.func 328) #[] #[.pointer (some ⟨w.heap.size+1+1+1,0,none⟩),.pointer (some ⟨w.heap.size+1+1+1+1,0,none⟩)]] 262)) (w.heap.size+1+1+1+1+1+1) 344 #[.slice (some ⟨w.heap.size+1+1+1+1+1,0,none⟩) 2 2] (by simp)).alloc (.cells #[.int .u8 48] 5)).alloc (.cells #[.int .u8 57] 5)).alloc (.cells #[.string ⟨#[123,125,59,44,46,58]⟩] 9));have h7:=(((blk_at' (((((((w.alloc (.cells #[.nilFunc,.func (.func 327) #[] #[.pointer (some ⟨w.heap.size+1+1+1+1+1+1,0,none⟩)],.func (.func 328) #[] #[.pointer (some ⟨w.heap.size+1+1+1+1+1+1+1,0,none⟩),.pointer (some ⟨w.heap.size+1+1+1+1+1+1+1+1,0,none⟩)],.func (.func 329) #[] #[.pointer (some ⟨w.heap.size+1+1+1+1+1+1+1+1+1,0,none⟩)]] 311)).alloc (.cells #[.int .u8 97] 5)).alloc (.cells #[.int .u8 122] 5)).alloc (.cells #[.int .u8 65] 5)).alloc (.cells #[.int .u8 90] 5)).alloc (.cells #[.func (.func 328) #[] #[.pointer (some ⟨w.heap.size+1,0,none⟩),.pointer (some ⟨w.heap.size+1+1,0,none⟩)],.func (.func 328) #[] #[.pointer (some ⟨w.heap.size+1+1+1,0,none⟩),.pointer (some ⟨w.heap.size+1+1+1+1,0,none⟩)]] 262)).alloc (.cells #[.slice (some ⟨w.heap.size+1+1+1+1+1,0,none⟩) 2 2] 344)) (w.heap.size+1+1+1+1+1+1+1) 5 #[.int .u8 48] (by simp)).alloc (.cells #[.int .u8 57] 5)).alloc (.cells #[.string ⟨#[123,125,59,44,46,58]⟩] 9));have h8:=((blk_at' ((((((((w.alloc (.cells #[.nilFunc,.func (.func 327) #[] #[.pointer (some ⟨w.heap.size+1+1+1+1+1+1,0,none⟩)],.func (.func 328) #[] #[.pointer (some ⟨w.heap.size+1+1+1+1+1+1+1,0,none⟩),.pointer (some ⟨w.heap.size+1+1+1+1+1+1+1+1,0,none⟩)],.func (.func 329) #[] #[.pointer (some ⟨w.heap.size+1+1+1+1+1+1+1+1+1,0,none⟩)]] 311)).alloc (.cells #[.int .u8 97] 5)).alloc (.cells #[.int .u8 122] 5)).alloc (.cells #[.int .u8 65] 5)).alloc (.cells #[.int .u8 90] 5)).alloc (.cells #[.func (.func 328) #[] #[.pointer (some ⟨w.heap.size+1,0,none⟩),.pointer (some ⟨w.heap.size+1+1,0,none⟩)],.func (.func 328) #[] #[.pointer (some ⟨w.heap.size+1+1+1,0,none⟩),.pointer (some ⟨w.heap.size+1+1+1+1,0,none⟩)]] 262)).alloc (.cells #[.slice (some ⟨w.heap.size+1+1+1+1+1,0,none⟩) 2 2] 344)).alloc (.cells #[.int .u8 48] 5)) (w.heap.size+1+1+1+1+1+1+1+1) 5 #[.int .u8 57] (by simp)).alloc (.cells #[.string ⟨#[123,125,59,44,46,58]⟩] 9));have h9:=(blk_at' (((((((((w.alloc (.cells #[.nilFunc,.func (.func 327) #[] #[.pointer (some ⟨w.heap.size+1+1+1+1+1+1,0,none⟩)],.func (.func 328) #[] #[.pointer (some ⟨w.heap.size+1+1+1+1+1+1+1,0,none⟩),.pointer (some ⟨w.heap.size+1+1+1+1+1+1+1+1,0,none⟩)],.func (.func 329) #[] #[.pointer (some ⟨w.heap.size+1+1+1+1+1+1+1+1+1,0,none⟩)]] 311)).alloc (.cells #[.int .u8 97] 5)).alloc (.cells #[.int .u8 122] 5)).alloc (.cells #[.int .u8 65] 5)).alloc (.cells #[.int .u8 90] 5)).alloc (.cells #[.func (.func 328) #[] #[.pointer (some ⟨w.heap.size+1,0,none⟩),.pointer (some ⟨w.heap.size+1+1,0,none⟩)],.func (.func 328) #[] #[.pointer (some ⟨w.heap.size+1+1+1,0,none⟩),.pointer (some ⟨w.heap.size+1+1+1+1,0,none⟩)]] 262)).alloc (.cells #[.slice (some ⟨w.heap.size+1+1+1+1+1,0,none⟩) 2 2] 344)).alloc (.cells #[.int .u8 48] 5)).alloc (.cells #[.int .u8 57] 5)) (w.heap.size+1+1+1+1+1+1+1+1+1) 9 #[.string ⟨#[123,125,59,44,46,58]⟩] (by simp));have hB:Below w.heap.size w ((((((((((w.alloc (.cells #[.nilFunc,.func (.func 327) #[] #[.pointer (some ⟨w.heap.size+1+1+1+1+1+1,0,none⟩)],.func (.func 328) #[] #[.pointer (some ⟨w.heap.size+1+1+1+1+1+1+1,0,none⟩),.pointer (some ⟨w.heap.size+1+1+1+1+1+1+1+1,0,none⟩)],.func (.func 329) #[] #[.pointer (some ⟨w.heap.size+1+1+1+1+1+1+1+1+1,0,none⟩)]] 311)).alloc (.cells #[.int .u8 97] 5)).alloc (.cells #[.int .u8 122] 5)).alloc (.cells #[.int .u8 65] 5)).alloc (.cells #[.int .u8 90] 5)).alloc (.cells #[.func (.func 328) #[] #[.pointer (some ⟨w.heap.size+1,0,none⟩),.pointer (some ⟨w.heap.size+1+1,0,none⟩)],.func (.func 328) #[] #[.pointer (some ⟨w.heap.size+1+1+1,0,none⟩),.pointer (some ⟨w.heap.size+1+1+1+1,0,none⟩)]] 262)).alloc (.cells #[.slice (some ⟨w.heap.size+1+1+1+1+1,0,none⟩) 2 2] 344)).alloc (.cells #[.int .u8 48] 5)).alloc (.cells #[.int .u8 57] 5)).alloc (.cells #[.string ⟨#[123,125,59,44,46,58]⟩] 9)):=(((((((((((Below.refl w.heap.size w).alloc (by simp<;>omega) (.cells #[.nilFunc,.func (.func 327) #[] #[.pointer (some ⟨w.heap.size+1+1+1+1+1+1,0,none⟩)],.func (.func 328) #[] #[.pointer (some ⟨w.heap.size+1+1+1+1+1+1+1,0,none⟩),.pointer (some ⟨w.heap.size+1+1+1+1+1+1+1+1,0,none⟩)],.func (.func 329) #[] #[.pointer (some ⟨w.heap.size+1+1+1+1+1+1+1+1+1,0,none⟩)]] 311)).alloc (by simp<;>omega) (.cells #[.int .u8 97] 5)).alloc (by simp<;>omega) (.cells #[.int .u8 122] 5)).alloc (by simp<;>omega) (.cells #[.int .u8 65] 5)).alloc (by simp<;>omega) (.cells #[.int .u8 90] 5)).alloc (by simp<;>omega) (.cells #[.func (.func 328) #[] #[.pointer (some ⟨w.heap.size+1,0,none⟩),.pointer (some ⟨w.heap.size+1+1,0,none⟩)],.func (.func 328) #[] #[.pointer (some ⟨w.heap.size+1+1+1,0,none⟩),.pointer (some ⟨w.heap.size+1+1+1+1,0,none⟩)]] 262)).alloc (by simp<;>omega) (.cells #[.slice (some ⟨w.heap.size+1+1+1+1+1,0,none⟩) 2 2] 344)).alloc (by simp<;>omega) (.cells #[.int .u8 48] 5)).alloc (by simp<;>omega) (.cells #[.int .u8 57] 5)).alloc (by simp<;>omega) (.cells #[.string ⟨#[123,125,59,44,46,58]⟩] 9));have hz:((((((((((w.alloc (.cells #[.nilFunc,.func (.func 327) #[] #[.pointer (some ⟨w.heap.size+1+1+1+1+1+1,0,none⟩)],.func (.func 328) #[] #[.pointer (some ⟨w.heap.size+1+1+1+1+1+1+1,0,none⟩),.pointer (some ⟨w.heap.size+1+1+1+1+1+1+1+1,0,none⟩)],.func (.func 329) #[] #[.pointer (some ⟨w.heap.size+1+1+1+1+1+1+1+1+1,0,none⟩)]] 311)).alloc (.cells #[.int .u8 97] 5)).alloc (.cells #[.int .u8 122] 5)).alloc (.cells #[.int .u8 65] 5)).alloc (.cells #[.int .u8 90] 5)).alloc (.cells #[.func (.func 328) #[] #[.pointer (some ⟨w.heap.size+1,0,none⟩),.pointer (some ⟨w.heap.size+1+1,0,none⟩)],.func (.func 328) #[] #[.pointer (some ⟨w.heap.size+1+1+1,0,none⟩),.pointer (some ⟨w.heap.size+1+1+1+1,0,none⟩)]] 262)).alloc (.cells #[.slice (some ⟨w.heap.size+1+1+1+1+1,0,none⟩) 2 2] 344)).alloc (.cells #[.int .u8 48] 5)).alloc (.cells #[.int .u8 57] 5)).alloc (.cells #[.string ⟨#[123,125,59,44,46,58]⟩] 9)).heap.size=w.heap.size+10:=by simp
 generalize ((((((((((w.alloc (.cells #[.nilFunc,.func (.func 327) #[] #[.pointer (some ⟨w.heap.size+1+1+1+1+1+1,0,none⟩)],.func (.func 328) #[] #[.pointer (some ⟨w.heap.size+1+1+1+1+1+1+1,0,none⟩),.pointer (some ⟨w.heap.size+1+1+1+1+1+1+1+1,0,none⟩)],.func (.func 329) #[] #[.pointer (some ⟨w.heap.size+1+1+1+1+1+1+1+1+1,0,none⟩)]] 311)).alloc (.cells #[.int .u8 97] 5)).alloc (.cells #[.int .u8 122] 5)).alloc (.cells #[.int .u8 65] 5)).alloc (.cells #[.int .u8 90] 5)).alloc (.cells #[.func (.func 328) #[] #[.pointer (some ⟨w.heap.size+1,0,none⟩),.pointer (some ⟨w.heap.size+1+1,0,none⟩)],.func (.func 328) #[] #[.pointer (some ⟨w.heap.size+1+1+1,0,none⟩),.pointer (some ⟨w.heap.size+1+1+1+1,0,none⟩)]] 262)).alloc (.cells #[.slice (some ⟨w.heap.size+1+1+1+1+1,0,none⟩) 2 2] 344)).alloc (.cells #[.int .u8 48] 5)).alloc (.cells #[.int .u8 57] 5)).alloc (.cells #[.string ⟨#[123,125,59,44,46,58]⟩] 9))=W at *;have z0:=h0.cell 0;have z1:=h0.cell 1;have z2:=h0.cell 2;have z3:=h0.cell 3;refine bodyPost_ret (v:= .agg #[.nilFunc,.func (.func 327) #[] #[.pointer (some ⟨w.heap.size+1+1+1+1+1+1,0,none⟩)],.func (.func 328) #[] #[.pointer (some ⟨w.heap.size+1+1+1+1+1+1+1,0,none⟩),.pointer (some ⟨w.heap.size+1+1+1+1+1+1+1+1,0,none⟩)],.func (.func 329) #[] #[.pointer (some ⟨w.heap.size+1+1+1+1+1+1+1+1+1,0,none⟩)]]) (by simp[results,Tryz.results293,go_sem,z0,z1,z2,z3]) rfl ⟨_,_,_,rfl,⟨_,_,_,_,rfl,rfl,rfl,fun g W' hg hW=> ?_⟩,hB⟩;have g1:=Blk.below h1 hW h1.lt;have g2:=Blk.below h2 hW h2.lt;have g3:=Blk.below h3 hW h3.lt;have g4:=Blk.below h4 hW h4.lt;have g5:=Blk.below h5 hW h5.lt;have g6:=Blk.below h6 hW h6.lt;have g7:=Blk.below h7 hW h7.lt;have g8:=Blk.below h8 hW h8.lt;have g9:=Blk.below h9 hW h9.lt;have eB:∀args w,(callFunc 328 args).run Tryz.prog w= .ok (.enter 328 args) w:=enters_of Tryz.func328 kz rfl;refine⟨?_,between_g g7 g8 (by omega) (by omega),among_g g9 (by omega)⟩;refine either_g [(328,#[.pointer (some ⟨w.heap.size+1,0,none⟩),.pointer (some ⟨w.heap.size+1+1,0,none⟩)],betP 97 122),(328,#[.pointer (some ⟨w.heap.size+1+1+1,0,none⟩),.pointer (some ⟨w.heap.size+1+1+1+1,0,none⟩)],betP 65 90)] g6 (by omega) (by omega) g5.lt (fun i hi=> ?_) (by simp);have hi2:i=0∨i=1:=by simp at hi;omega
 rcases hi2 with rfl | rfl
 ·exact⟨g5.cell 0,eB,between_g g1 g2 (by omega) (by omega)⟩
 ·exact⟨g5.cell 1,eB,between_g g3 g4 (by omega) (by omega)⟩
end Go.Proofs.YtchfcgilpjkmhaaGreatDoor
namespace Go.Proofs
open Go.Shelf
def Tryz.laysAtoiM_ren:Go.Shelf.Ren:=⟨fun | 172=>345 | 244=>354 | 245=>355 | 247=>358 | 279=>359 | 280=>360 | 281=>361 | 282=>362 | 287=>363 | 316=>364 | 171=>271 | 205=>365 | 321=>366 | 322=>367 | 243=>301 | 246=>321 | 283=>336 | 284=>337 | 285=>338 | 286=>339 | 129=>287 | 317=>348 | 318=>349 | 319=>350 | 320=>351 | 337=>356 | 338=>357 | n=>n,fun | 9=>9 | 3=>3 | 75=>287 | 76=>288 | 4=>4 | 5=>5 | 167=>379 | 37=>283 | 0=>0 | 85=>380 | 2=>2 | 168=>382 | 53=>302 | 175=>387 | 46=>241 | 210=>391 | 127=>319 | 145=>396 | 143=>394 | 21=>21 | 171=>353 | 173=>355 | 212=>372 | 51=>300 | 20=>20 | 213=>373 | 232=>385 | 233=>386 | 80=>233 | n=>n,fun | 15=>6 | 16=>7 | 17=>3 | 18=>4 | 19=>5 | n=>n⟩
theorem Tryz.laysAtoiM:Go.Proofs.LaysC.n172 Tryz.prog Tryz.laysAtoiM_ren:={
 mixed:=by kernel_rfl
 f129:=Tryz.func287.trans (congrArg some (by kernel_rfl))
 f171:=Tryz.func271.trans (congrArg some (by kernel_rfl))
 f172:=Tryz.func345.trans (congrArg some (by kernel_rfl))
 f205:=Tryz.func365.trans (congrArg some (by kernel_rfl))
 f243:=Tryz.func301.trans (congrArg some (by kernel_rfl))
 f244:=Tryz.func354.trans (congrArg some (by kernel_rfl))
 f245:=Tryz.func355.trans (congrArg some (by kernel_rfl))
 f246:=Tryz.func321.trans (congrArg some (by kernel_rfl))
 f247:=Tryz.func358.trans (congrArg some (by kernel_rfl))
 f279:=Tryz.func359.trans (congrArg some (by kernel_rfl))
 f280:=Tryz.func360.trans (congrArg some (by kernel_rfl))
 f281:=Tryz.func361.trans (congrArg some (by kernel_rfl))
 f282:=Tryz.func362.trans (congrArg some (by kernel_rfl))
 f283:=Tryz.func336.trans (congrArg some (by kernel_rfl))
 f284:=Tryz.func337.trans (congrArg some (by kernel_rfl))
 f285:=Tryz.func338.trans (congrArg some (by kernel_rfl))
 f286:=Tryz.func339.trans (congrArg some (by kernel_rfl))
 f287:=Tryz.func363.trans (congrArg some (by kernel_rfl))
 f316:=Tryz.func364.trans (congrArg some (by kernel_rfl))
 f317:=Tryz.func348.trans (congrArg some (by kernel_rfl))
 f318:=Tryz.func349.trans (congrArg some (by kernel_rfl))
 f319:=Tryz.func350.trans (congrArg some (by kernel_rfl))
 f320:=Tryz.func351.trans (congrArg some (by kernel_rfl))
 f321:=Tryz.func366.trans (congrArg some (by kernel_rfl))
 f322:=Tryz.func367.trans (congrArg some (by kernel_rfl))
 f337:=Tryz.func356.trans (congrArg some (by kernel_rfl))
 f338:=Tryz.func357.trans (congrArg some (by kernel_rfl))
 t0:=Tryz.underlying0
 a0:=Tryz.isAgg0
 z0:=Tryz.sizeOf0
 v0:=Tryz.zeroValue0
 t2:=Tryz.underlying2
 a2:=Tryz.isAgg2
 z2:=Tryz.sizeOf2
 v2:=Tryz.zeroValue2
 t3:=Tryz.underlying3
 a3:=Tryz.isAgg3
 z3:=Tryz.sizeOf3
 v3:=Tryz.zeroValue3
 t4:=Tryz.underlying4
 a4:=Tryz.isAgg4
 z4:=Tryz.sizeOf4
 v4:=Tryz.zeroValue4
 t5:=Tryz.underlying5
 a5:=Tryz.isAgg5
 z5:=Tryz.sizeOf5
 v5:=Tryz.zeroValue5
 t9:=Tryz.underlying9
 a9:=Tryz.isAgg9
 z9:=Tryz.sizeOf9
 v9:=Tryz.zeroValue9
 t20:=Tryz.underlying20
 a20:=Tryz.isAgg20
 z20:=Tryz.sizeOf20
 v20:=Tryz.zeroValue20
 t21:=Tryz.underlying21
 a21:=Tryz.isAgg21
 z21:=Tryz.sizeOf21
 v21:=Tryz.zeroValue21
 t37:=Tryz.underlying283
 a37:=Tryz.isAgg283
 z37:=Tryz.sizeOf283
 v37:=Tryz.zeroValue283
 t46:=Tryz.underlying241
 a46:=Tryz.isAgg241
 z46:=Tryz.sizeOf241
 v46:=Tryz.zeroValue241
 t51:=Tryz.underlying300
 a51:=Tryz.isAgg300
 z51:=Tryz.sizeOf300
 v51:=Tryz.zeroValue300
 t53:=Tryz.underlying302
 a53:=Tryz.isAgg302
 z53:=Tryz.sizeOf302
 v53:=Tryz.zeroValue302
 t75:=Tryz.underlying287
 a75:=Tryz.isAgg287
 z75:=Tryz.sizeOf287
 v75:=Tryz.zeroValue287
 t76:=Tryz.underlying288
 a76:=Tryz.isAgg288
 z76:=Tryz.sizeOf288
 v76:=Tryz.zeroValue288
 t85:=Tryz.underlying380
 a85:=Tryz.isAgg380
 z85:=Tryz.sizeOf380
 v85:=Tryz.zeroValue380
 t127:=Tryz.underlying319
 a127:=Tryz.isAgg319
 z127:=Tryz.sizeOf319
 v127:=Tryz.zeroValue319
 t143:=Tryz.underlying394
 a143:=Tryz.isAgg394
 z143:=Tryz.sizeOf394
 v143:=Tryz.zeroValue394
 t145:=Tryz.underlying396
 a145:=Tryz.isAgg396
 z145:=Tryz.sizeOf396
 v145:=Tryz.zeroValue396
 t167:=Tryz.underlying379
 a167:=Tryz.isAgg379
 z167:=Tryz.sizeOf379
 v167:=Tryz.zeroValue379
 t168:=Tryz.underlying382
 a168:=Tryz.isAgg382
 z168:=Tryz.sizeOf382
 v168:=Tryz.zeroValue382
 t171:=Tryz.underlying353
 a171:=Tryz.isAgg353
 z171:=Tryz.sizeOf353
 v171:=Tryz.zeroValue353
 t173:=Tryz.underlying355
 a173:=Tryz.isAgg355
 z173:=Tryz.sizeOf355
 v173:=Tryz.zeroValue355
 t175:=Tryz.underlying387
 a175:=Tryz.isAgg387
 z175:=Tryz.sizeOf387
 v175:=Tryz.zeroValue387
 t210:=Tryz.underlying391
 a210:=Tryz.isAgg391
 z210:=Tryz.sizeOf391
 v210:=Tryz.zeroValue391
 t212:=Tryz.underlying372
 a212:=Tryz.isAgg372
 z212:=Tryz.sizeOf372
 v212:=Tryz.zeroValue372
 t213:=Tryz.underlying373
 a213:=Tryz.isAgg373
 z213:=Tryz.sizeOf373
 t232:=Tryz.underlying385
 a232:=Tryz.isAgg385
 z232:=Tryz.sizeOf385
 v232:=Tryz.zeroValue385
 t233:=Tryz.underlying386
 a233:=Tryz.isAgg386
 z233:=Tryz.sizeOf386
 v233:=Tryz.zeroValue386
 g15:=by kernel_rfl
 g16:=by kernel_rfl
 g17:=by kernel_rfl
 g18:=by kernel_rfl
 g19:=by kernel_rfl
 t80:=Tryz.underlying233
 a80:=Tryz.isAgg233
 z80:=Tryz.sizeOf233
 v80:=Tryz.zeroValue233
 i0:=by kernel_rfl
 i2:=by kernel_rfl
 i3:=by kernel_rfl
 i4:=by kernel_rfl
 i5:=by kernel_rfl
 i9:=by kernel_rfl
 i20:=by kernel_rfl
 i21:=by kernel_rfl
 i37:=by kernel_rfl
 i46:=by kernel_rfl
 i51:=by kernel_rfl
 i53:=by kernel_rfl
 i75:=by kernel_rfl
 i76:=by kernel_rfl
 i80:=by kernel_rfl
 i85:=by kernel_rfl
 i127:=by kernel_rfl
 i143:=by kernel_rfl
 i145:=by kernel_rfl
 i167:=by kernel_rfl
 i168:=by kernel_rfl
 i171:=by kernel_rfl
 i173:=by kernel_rfl
 i175:=by kernel_rfl
 i210:=by kernel_rfl
 i212:=by kernel_rfl
 i232:=by kernel_rfl
 i233:=by kernel_rfl
 m15:=by kernel_rfl
 m16:=by kernel_rfl
 m17:=by kernel_rfl
 m18:=by kernel_rfl
 m19:=by kernel_rfl
 c0:=by kernel_rfl
 c2:=by kernel_rfl
 c3:=by kernel_rfl
 c4:=by kernel_rfl
 c5:=by kernel_rfl
 c9:=by kernel_rfl
 c20:=by kernel_rfl
 c21:=by kernel_rfl
 c37:=by kernel_rfl
 c46:=by kernel_rfl
 c51:=by kernel_rfl
 c53:=by kernel_rfl
 c75:=by kernel_rfl
 c76:=by kernel_rfl
 c80:=by kernel_rfl
 c85:=by kernel_rfl
 c127:=by kernel_rfl
 c143:=by kernel_rfl
 c145:=by kernel_rfl
 c167:=by kernel_rfl
 c168:=by kernel_rfl
 c171:=by kernel_rfl
 c173:=by kernel_rfl
 c175:=by kernel_rfl
 c210:=by kernel_rfl
 c212:=by kernel_rfl
 c213:=by kernel_rfl
 c232:=by kernel_rfl
 c233:=by kernel_rfl}
def Tryz.laysItoa_ren:Go.Shelf.Ren:=⟨fun | 171=>271 | 243=>301 | 246=>321 | 283=>336 | 284=>337 | 285=>338 | 286=>339 | 129=>287 | 317=>348 | 318=>349 | 319=>350 | 320=>351 | 337=>356 | 338=>357 | n=>n,fun | 3=>3 | 9=>9 | 2=>2 | 4=>4 | 171=>353 | 0=>0 | 53=>302 | 37=>283 | 5=>5 | 173=>355 | 212=>372 | 51=>300 | 20=>20 | 213=>373 | 46=>241 | 232=>385 | 233=>386 | n=>n,fun | 17=>3 | 18=>4 | 19=>5 | n=>n⟩
theorem Tryz.laysItoa:Go.Proofs.LaysM.n171 Tryz.prog Tryz.laysItoa_ren:={
 mixed:=by kernel_rfl
 f129:=Tryz.func287.trans (congrArg some (by kernel_rfl))
 f171:=Tryz.func271.trans (congrArg some (by kernel_rfl))
 f243:=Tryz.func301.trans (congrArg some (by kernel_rfl))
 f246:=Tryz.func321.trans (congrArg some (by kernel_rfl))
 f283:=Tryz.func336.trans (congrArg some (by kernel_rfl))
 f284:=Tryz.func337.trans (congrArg some (by kernel_rfl))
 f285:=Tryz.func338.trans (congrArg some (by kernel_rfl))
 f286:=Tryz.func339.trans (congrArg some (by kernel_rfl))
 f317:=Tryz.func348.trans (congrArg some (by kernel_rfl))
 f318:=Tryz.func349.trans (congrArg some (by kernel_rfl))
 f319:=Tryz.func350.trans (congrArg some (by kernel_rfl))
 f320:=Tryz.func351.trans (congrArg some (by kernel_rfl))
 f337:=Tryz.func356.trans (congrArg some (by kernel_rfl))
 f338:=Tryz.func357.trans (congrArg some (by kernel_rfl))
 t0:=Tryz.underlying0
 a0:=Tryz.isAgg0
 z0:=Tryz.sizeOf0
 v0:=Tryz.zeroValue0
 t2:=Tryz.underlying2
 a2:=Tryz.isAgg2
 z2:=Tryz.sizeOf2
 v2:=Tryz.zeroValue2
 t3:=Tryz.underlying3
 a3:=Tryz.isAgg3
 z3:=Tryz.sizeOf3
 v3:=Tryz.zeroValue3
 t4:=Tryz.underlying4
 a4:=Tryz.isAgg4
 z4:=Tryz.sizeOf4
 v4:=Tryz.zeroValue4
 t5:=Tryz.underlying5
 a5:=Tryz.isAgg5
 z5:=Tryz.sizeOf5
 v5:=Tryz.zeroValue5
 t9:=Tryz.underlying9
 a9:=Tryz.isAgg9
 z9:=Tryz.sizeOf9
 v9:=Tryz.zeroValue9
 t20:=Tryz.underlying20
 a20:=Tryz.isAgg20
 z20:=Tryz.sizeOf20
 v20:=Tryz.zeroValue20
 t37:=Tryz.underlying283
 a37:=Tryz.isAgg283
 z37:=Tryz.sizeOf283
 v37:=Tryz.zeroValue283
 t46:=Tryz.underlying241
 a46:=Tryz.isAgg241
 z46:=Tryz.sizeOf241
 v46:=Tryz.zeroValue241
 t51:=Tryz.underlying300
 a51:=Tryz.isAgg300
 z51:=Tryz.sizeOf300
 v51:=Tryz.zeroValue300
 t53:=Tryz.underlying302
 a53:=Tryz.isAgg302
 z53:=Tryz.sizeOf302
 v53:=Tryz.zeroValue302
 t171:=Tryz.underlying353
 a171:=Tryz.isAgg353
 z171:=Tryz.sizeOf353
 v171:=Tryz.zeroValue353
 t173:=Tryz.underlying355
 a173:=Tryz.isAgg355
 z173:=Tryz.sizeOf355
 v173:=Tryz.zeroValue355
 t212:=Tryz.underlying372
 a212:=Tryz.isAgg372
 z212:=Tryz.sizeOf372
 v212:=Tryz.zeroValue372
 t213:=Tryz.underlying373
 a213:=Tryz.isAgg373
 z213:=Tryz.sizeOf373
 t232:=Tryz.underlying385
 a232:=Tryz.isAgg385
 z232:=Tryz.sizeOf385
 v232:=Tryz.zeroValue385
 t233:=Tryz.underlying386
 a233:=Tryz.isAgg386
 z233:=Tryz.sizeOf386
 v233:=Tryz.zeroValue386
 g17:=by kernel_rfl
 g18:=by kernel_rfl
 g19:=by kernel_rfl
 i0:=by kernel_rfl
 i2:=by kernel_rfl
 i3:=by kernel_rfl
 i4:=by kernel_rfl
 i5:=by kernel_rfl
 i9:=by kernel_rfl
 i20:=by kernel_rfl
 i37:=by kernel_rfl
 i46:=by kernel_rfl
 i51:=by kernel_rfl
 i53:=by kernel_rfl
 i171:=by kernel_rfl
 i173:=by kernel_rfl
 i212:=by kernel_rfl
 i232:=by kernel_rfl
 i233:=by kernel_rfl
 m17:=by kernel_rfl
 m18:=by kernel_rfl
 m19:=by kernel_rfl}
def Tryz.laysFields_ren:Go.Shelf.Ren:=⟨fun | 157=>299 | 229=>319 | 199=>320 | 261=>335 | 311=>346 | 312=>347 | n=>n,fun | 9=>9 | 31=>46 | 3=>3 | 5=>5 | 4=>4 | 119=>334 | 0=>0 | 40=>336 | 152=>348 | 21=>21 | 154=>350 | 51=>300 | 141=>352 | 196=>363 | 193=>360 | 198=>366 | 49=>364 | 194=>361 | 201=>369 | 226=>377 | 46=>241 | 227=>378 | n=>n,fun | 0=>0 | 6=>1 | n=>n⟩
theorem Tryz.laysFields:Go.Proofs.LaysM.n157 Tryz.prog Tryz.laysFields_ren:={
 mixed:=by kernel_rfl
 f157:=Tryz.func299.trans (congrArg some (by kernel_rfl))
 f199:=Tryz.func320.trans (congrArg some (by kernel_rfl))
 f229:=Tryz.func319.trans (congrArg some (by kernel_rfl))
 f261:=Tryz.func335.trans (congrArg some (by kernel_rfl))
 f311:=Tryz.func346.trans (congrArg some (by kernel_rfl))
 f312:=Tryz.func347.trans (congrArg some (by kernel_rfl))
 t0:=Tryz.underlying0
 a0:=Tryz.isAgg0
 z0:=Tryz.sizeOf0
 v0:=Tryz.zeroValue0
 t3:=Tryz.underlying3
 a3:=Tryz.isAgg3
 z3:=Tryz.sizeOf3
 v3:=Tryz.zeroValue3
 t4:=Tryz.underlying4
 a4:=Tryz.isAgg4
 z4:=Tryz.sizeOf4
 v4:=Tryz.zeroValue4
 t5:=Tryz.underlying5
 a5:=Tryz.isAgg5
 z5:=Tryz.sizeOf5
 v5:=Tryz.zeroValue5
 t9:=Tryz.underlying9
 a9:=Tryz.isAgg9
 z9:=Tryz.sizeOf9
 v9:=Tryz.zeroValue9
 t21:=Tryz.underlying21
 a21:=Tryz.isAgg21
 z21:=Tryz.sizeOf21
 v21:=Tryz.zeroValue21
 t31:=Tryz.underlying46
 a31:=Tryz.isAgg46
 z31:=Tryz.sizeOf46
 v31:=Tryz.zeroValue46
 t40:=Tryz.underlying336
 a40:=Tryz.isAgg336
 z40:=Tryz.sizeOf336
 v40:=Tryz.zeroValue336
 t46:=Tryz.underlying241
 a46:=Tryz.isAgg241
 z46:=Tryz.sizeOf241
 v46:=Tryz.zeroValue241
 t49:=Tryz.underlying364
 a49:=Tryz.isAgg364
 z49:=Tryz.sizeOf364
 v49:=Tryz.zeroValue364
 t51:=Tryz.underlying300
 a51:=Tryz.isAgg300
 z51:=Tryz.sizeOf300
 v51:=Tryz.zeroValue300
 t119:=Tryz.underlying334
 a119:=Tryz.isAgg334
 z119:=Tryz.sizeOf334
 t141:=Tryz.underlying352
 a141:=Tryz.isAgg352
 z141:=Tryz.sizeOf352
 v141:=Tryz.zeroValue352
 t152:=Tryz.underlying348
 a152:=Tryz.isAgg348
 z152:=Tryz.sizeOf348
 v152:=Tryz.zeroValue348
 t154:=Tryz.underlying350
 a154:=Tryz.isAgg350
 z154:=Tryz.sizeOf350
 v154:=Tryz.zeroValue350
 t193:=Tryz.underlying360
 a193:=Tryz.isAgg360
 z193:=Tryz.sizeOf360
 v193:=Tryz.zeroValue360
 t194:=Tryz.underlying361
 a194:=Tryz.isAgg361
 z194:=Tryz.sizeOf361
 v194:=Tryz.zeroValue361
 t196:=Tryz.underlying363
 a196:=Tryz.isAgg363
 z196:=Tryz.sizeOf363
 v196:=Tryz.zeroValue363
 t198:=Tryz.underlying366
 a198:=Tryz.isAgg366
 z198:=Tryz.sizeOf366
 v198:=Tryz.zeroValue366
 t201:=Tryz.underlying369
 a201:=Tryz.isAgg369
 z201:=Tryz.sizeOf369
 v201:=Tryz.zeroValue369
 t226:=Tryz.underlying377
 a226:=Tryz.isAgg377
 z226:=Tryz.sizeOf377
 v226:=Tryz.zeroValue377
 t227:=Tryz.underlying378
 a227:=Tryz.isAgg378
 z227:=Tryz.sizeOf378
 v227:=Tryz.zeroValue378
 g0:=by kernel_rfl
 g6:=by kernel_rfl
 i0:=by kernel_rfl
 i3:=by kernel_rfl
 i4:=by kernel_rfl
 i5:=by kernel_rfl
 i9:=by kernel_rfl
 i21:=by kernel_rfl
 i31:=by kernel_rfl
 i40:=by kernel_rfl
 i46:=by kernel_rfl
 i49:=by kernel_rfl
 i51:=by kernel_rfl
 i141:=by kernel_rfl
 i152:=by kernel_rfl
 i154:=by kernel_rfl
 i193:=by kernel_rfl
 i194:=by kernel_rfl
 i196:=by kernel_rfl
 i198:=by kernel_rfl
 i201:=by kernel_rfl
 i226:=by kernel_rfl
 i227:=by kernel_rfl
 m0:=by kernel_rfl
 m6:=by kernel_rfl}
def Tryz.laysCut_ren:Go.Shelf.Ren:=⟨fun | 145=>275 | 220=>304 | 219=>324 | 217=>340 | 225=>341 | 224=>342 | 267=>343 | 266=>352 | 314=>353 | n=>n,fun | 9=>9 | 4=>4 | 59=>290 | 3=>3 | 5=>5 | 46=>241 | 146=>374 | 51=>300 | n=>n,fun | 1=>2 | n=>n⟩
theorem Tryz.laysCut:Go.Proofs.Lays.n145 Tryz.prog Tryz.laysCut_ren:={
 mixed:=by kernel_rfl
 f145:=Tryz.func275.trans (congrArg some (by kernel_rfl))
 f217:=Tryz.func340.trans (congrArg some (by kernel_rfl))
 f219:=Tryz.func324.trans (congrArg some (by kernel_rfl))
 f220:=Tryz.func304.trans (congrArg some (by kernel_rfl))
 f224:=Tryz.func342.trans (congrArg some (by kernel_rfl))
 f225:=Tryz.func341.trans (congrArg some (by kernel_rfl))
 f266:=Tryz.func352.trans (congrArg some (by kernel_rfl))
 f267:=Tryz.func343.trans (congrArg some (by kernel_rfl))
 f314:=Tryz.func353.trans (congrArg some (by kernel_rfl))
 t3:=Tryz.underlying3
 a3:=Tryz.isAgg3
 z3:=Tryz.sizeOf3
 v3:=Tryz.zeroValue3
 t4:=Tryz.underlying4
 a4:=Tryz.isAgg4
 z4:=Tryz.sizeOf4
 v4:=Tryz.zeroValue4
 t5:=Tryz.underlying5
 a5:=Tryz.isAgg5
 z5:=Tryz.sizeOf5
 v5:=Tryz.zeroValue5
 t9:=Tryz.underlying9
 a9:=Tryz.isAgg9
 z9:=Tryz.sizeOf9
 v9:=Tryz.zeroValue9
 t46:=Tryz.underlying241
 a46:=Tryz.isAgg241
 z46:=Tryz.sizeOf241
 v46:=Tryz.zeroValue241
 t51:=Tryz.underlying300
 a51:=Tryz.isAgg300
 z51:=Tryz.sizeOf300
 v51:=Tryz.zeroValue300
 t59:=Tryz.underlying290
 a59:=Tryz.isAgg290
 z59:=Tryz.sizeOf290
 v59:=Tryz.zeroValue290
 t146:=Tryz.underlying374
 a146:=Tryz.isAgg374
 z146:=Tryz.sizeOf374
 v146:=Tryz.zeroValue374
 g1:=by kernel_rfl}
end Go.Proofs
namespace Go.Proofs.YtchfcgilpjkmhaaGreatDoor
open Go.ChangeShapes Go.WideShapes Go.ChangeAt Go.RowKit
attribute [local go_sem] Oper.semAt_some
theorem var_low{P:Program}{w:World}{n:String}{cs:Array Value}(h:w.var? P n=some cs):∃g,P.globalNamed n=some g∧g<w.heap.size:=by
 unfold World.var? at h
 cases hg:P.globalNamed n with
 | none=>rw[hg]at h;cases h
 | some g=>
  rw[hg]at h;simp only[Option.bind_some]at h
  cases ho:w.heap[g]? with
  | none=>rw[ho]at h;cases h
  | some o=>exact⟨g,rfl,(Array.getElem?_eq_some_iff.1 ho).1⟩
theorem var_below{P:Program}{w w':World}{n:String}{cs:Array Value}(h:w.var? P n=some cs)(hb:Below w.heap.size w w'):w'.var? P n=some cs:=by
 obtain⟨g,hg,hl⟩:=var_low h;exact var?_below hb hg hl h
structure LaidN(w:World):Prop where
 syn:∃tp p,w.var? Tryz.prog "strconv.ErrSyntax" =some #[.iface tp p]
 ran:∃tp p,w.var? Tryz.prog "strconv.ErrRange" =some #[.iface tp p]
 tab:Lib.TabIs Tryz.prog w "internal/strconv.uint64pow10" .u64 Lib.pow10Tab
 asc:Lib.TabIs Tryz.prog w "strings.asciiSpace" .u8 Lib.asciiSpaceTab
 mx:∃m,w.cell? ⟨Tryz.laysCut_ren.g 1,0,none⟩=some (.int .i64 m)
theorem LaidN.below{w w':World}(h:LaidN w)(hb:Below w.heap.size w w'):LaidN w':=by
 obtain⟨⟨t1,p1,h1⟩,⟨t2,p2,h2⟩,h3,h4,m,h5⟩:=h;exact⟨⟨t1,p1,var_below h1 hb⟩,⟨t2,p2,var_below h2 hb⟩,var_below (by exact h3) hb,var_below (by exact h4) hb,m,(hb.cell (p:=⟨_,0,none⟩) (World.block_lt_of_cell? w _ h5)).trans h5⟩
def numB(s:ByteArray):Bool:=
 match Lib.atoiAll s.data.toList with
 | .ok v=>decide (v≤1073741824)&&(Lib.itoa v==s.toList)
 | _=>false
theorem number_g(s:ByteArray)(w:World)(hs:s.size≤65536)(hL:LaidN w):CU 334 #[.string s] w (.bool (numB s)):=by
 obtain⟨⟨ts,ps,hsyn⟩,⟨tr,pr,hran⟩,htab,-,-⟩:=hL;rcases he:Lib.atoiAll s.data.toList with v | _ | _
 rotate_left
 ·have hc:=Any.strconv_Atoi_syntax_var Tryz.laysAtoiM s (by omega) he ts ps w hsyn
  have Hc:=lz hc;have Hr:=lz (show numB s=false by unfold numB;rw[he]);clear hc hsyn hran htab he;go_enter Tryz.func334,Tryz.ntmps334;go_wp2_with (go_at_call 345;refine Hc.out.mono ?_;rintro e w' ⟨N,rfl,-,-,hb⟩);go_ret;exact⟨by rw[Hr.out];rfl,hb⟩
 ·have hc:=Any.strconv_Atoi_range_var Tryz.laysAtoiM s (by omega) he tr pr w hran
  have Hc:=lz hc;have Hr:=lz (show numB s=false by unfold numB;rw[he]);clear hc hsyn hran htab he;go_enter Tryz.func334,Tryz.ntmps334;go_wp2_with (go_at_call 345;refine Hc.out.mono ?_;rintro e w' ⟨N,rfl,-,-,hb⟩);go_ret;exact⟨by rw[Hr.out];rfl,hb⟩
 ·have hv:=Lib.atoiAll_bounds he
  have hc:=Any.strconv_Atoi_ok Tryz.laysAtoiM s (by omega) v he w;have hi:=fun(W:World) (hb:Below w.heap.size w W)=>Any.strconv_Itoa Tryz.laysItoa v hv.1 hv.2 W (var_below htab hb)
  have Hc:=lz hc;have Hi:=lz hi;have Hr:=lz (show numB s=(decide (v≤1073741824)&&(Lib.itoa v==s.toList))by unfold numB;rw[he]);clear hc hsyn hran htab he hi hv
  cases hd:decide (v≤1073741824)with
  | false=>
   rw[hd]at Hr;go_enter Tryz.func334,Tryz.ntmps334;go_wp2_with (go_at_call 345;refine Hc.out.mono ?_;rintro e w' ⟨rfl,hw⟩);go_ret;refine⟨by rw[Hr.out];rfl,?_⟩;rcases hw with rfl | ⟨t,rfl⟩
   ·exact Below.refl _ _
   ·exact Joins.below_bytesWorld _ _ _ _ (Nat.le_refl _)
  | true=>
   rw[hd]at Hr;go_enter Tryz.func334,Tryz.ntmps334;go_wp2_with (go_at_call 345;refine Hc.out.mono ?_;rintro e w' ⟨rfl,hw⟩);have hb:Below w.heap.size w w':=by
    rcases hw with rfl | ⟨t,rfl⟩
    ·exact Below.refl _ _
    ·exact Joins.below_bytesWorld _ _ _ _ (Nat.le_refl _)
   clear hw;have Hx:=lz (Hi.out w' hb);have Hb:=lz hb;clear hb Hi;go_wp2_with (go_at_call 271;refine Hx.out.mono ?_;rintro e w2 ⟨rfl,k,os,rfl⟩);go_ret;exact⟨by rw[Hr.out];rfl,Hb.out.trans (Go.Lib.below_grow _ _ Hb.out.size _ _)⟩
end Go.Proofs.YtchfcgilpjkmhaaGreatDoor
