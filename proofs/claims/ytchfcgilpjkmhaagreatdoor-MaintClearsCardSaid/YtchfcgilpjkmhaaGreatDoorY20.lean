import Derived.Test.YtchfcgilpjkmhaaGreatDoorY16
import Derived.Test.YtchfcgilpjkmhaaGreatDoorY17
import Derived.Test.YtchfcgilpjkmhaaGreatDoorY0
set_option maxRecDepth 100000
set_option linter.unusedSimpArgs false
set_option linter.unusedVariables false
set_option linter.unusedSectionVars false
namespace Go.Proofs.YtchfcgilpjkmhaaGreatDoor
open Go.ChangeShapes Go.WideShapes Go.ChangeAt Go.RowKit
attribute [local go_sem] Oper.semAt_some
def vocL(L:List (List UInt8))(n:Int):ByteArray:=if n<1∨n>L.length then⟨#[]⟩else⟨(L.getD (n-1).toNat []).toArray⟩
def vocV(v:ByteArray)(n:Int):ByteArray:=vocL (Lib.fields v.data.toList) n
def asciiB(v:ByteArray):Bool:=v.data.toList.all fun b=>decide (b.toNat<128)
theorem ascii_at{v:ByteArray}(h:asciiB v=true):∀(j:Nat) b,v.data.toList[j]?=some b→b.toNat<128:=fun j b hj=>by
 unfold asciiB at h;rw[List.all_eq_true]at h;exact of_decide_eq_true (h b (List.mem_of_getElem? hj))
set_option maxHeartbeats 1000000 in
theorem voc_c(v:ByteArray)(n:Int)(w:World)(hL:LaidN w)(hv:v.size≤100000)(ha:asciiB v=true)(h0:0≤n)(h1:n≤255):
 CU 264 #[.string v,.int .u8 n] w (.string (vocV v n)):=by
 have hf:Calls Tryz.prog 299 #[.string v] w fun e w'=>e= .returned (.slice (some ⟨w.heap.size,0,none⟩) (Lib.fields v.data.toList).length (Lib.fields v.data.toList).length)∧w'=w.alloc (.cells ((Lib.fields v.data.toList).map fun l=>Value.string ⟨l.toArray⟩).toArray 9):=Any.strings_Fields_laid Tryz.laysFields v w (by omega) (ascii_at ha) hL.asc
 unfold vocV;obtain⟨L,hLL⟩:∃L,L=Lib.fields v.data.toList:=⟨_,rfl⟩;rw[←hLL]at hf ⊢;have Hf:=lz hf;clear hf hLL ha hL;by_cases hlt:n<1
 ·have hr:vocL L n=⟨#[]⟩:=if_pos (.inl hlt)
  have Hr:=lz hr;have hd:decide (n<1)=true:=decide_eq_true hlt;clear hr;go_enter Tryz.func264,Tryz.ntmps264;go_wp2_with (go_at_call 299;refine Hf.out.mono ?_;rintro e w' ⟨rfl,rfl⟩);go_ret;exact⟨by rw[Hr.out];rfl,(Below.refl _ _).alloc (Nat.le_refl _) _⟩
 ·by_cases hgt:n>L.length
  ·have hr:vocL L n=⟨#[]⟩:=if_pos (.inr hgt)
   have Hr:=lz hr;have hd:decide (n<1)=false:=decide_eq_false hlt;have hd2:decide (n>(L.length:Int))=true:=decide_eq_true hgt;have hw:IntKind.i64.wrap n=n:=by unfold IntKind.wrap;simp[IntKind.bits];omega
   clear hr;go_enter Tryz.func264,Tryz.ntmps264;go_wp2_with (go_at_call 299;refine Hf.out.mono ?_;rintro e w' ⟨rfl,rfl⟩);go_ret;exact⟨by rw[Hr.out];rfl,(Below.refl _ _).alloc (Nat.le_refl _) _⟩
  ·have hr:vocL L n=⟨(L.getD (n-1).toNat []).toArray⟩:=if_neg (by rintro(h | h)<;>omega)
   have Hr:=lz hr;have hd:decide (n<1)=false:=decide_eq_false hlt;have hd2:decide (n>(L.length:Int))=false:=decide_eq_false hgt;have hw:IntKind.i64.wrap n=n:=by unfold IntKind.wrap;simp[IntKind.bits];omega
   have hw8:IntKind.u8.wrap (n-1)=n-1:=by unfold IntKind.wrap;simp[IntKind.bits,IntKind.signed];omega
   have hi0:0≤n-1:=by omega
   have hi1:n-1<(L.length:Int):=by omega
   have c0:(w.alloc (.cells (L.map fun l=>Value.string ⟨l.toArray⟩).toArray 9)).cell? ⟨w.heap.size,n.toNat-1,none⟩=some (.string (vocL L n)):=by
    rw[(Blk.new w 9 _).cell,hr,show n.toNat-1=(n-1).toNat by omega];have ht:(n-1).toNat<L.length:=by omega
    simp only[List.getElem?_toArray,List.getElem?_map,List.getD_eq_getElem?_getD,List.getElem?_eq_getElem ht];rfl
   clear hr;go_enter Tryz.func264,Tryz.ntmps264;go_wp2_with (go_at_call 299;refine Hf.out.mono ?_;rintro e w' ⟨rfl,rfl⟩);go_ret;exact⟨rfl,(Below.refl _ _).alloc (Nat.le_refl _) _⟩
theorem vocL_size{L:List (List UInt8)}{m:Nat}(h:(L.all fun l=>decide (l.length≤m))=true)(n:Int):(vocL L n).size≤m:=by
 unfold vocL;split
 ·exact Nat.zero_le _
 ·rename_i hn
  have ht:(n-1).toNat<L.length:=by omega
  rw[List.all_eq_true]at h;have:=of_decide_eq_true (h _ (List.getElem_mem ht));simp only[List.getD_eq_getElem?_getD,List.getElem?_eq_getElem ht,Option.getD_some];simpa [ByteArray.size]using this
theorem voc_size{v:ByteArray}{m:Nat}(h:((Lib.fields v.data.toList).all fun l=>decide (l.length≤m))=true)(n:Int):(vocV v n).size≤m:=vocL_size h n
def faultsV:ByteArray:=⟨#[100,101,97,100,108,105,110,101,32,109,101,109,111,114,121,32,114,97,105,115,101,100,32,110,117,109,101,114,105,99,32,115,116,97,99,107,32,112,111,119,101,114,32,119,105,110,100,111,119]⟩
def levelsV:ByteArray:=⟨#[112,114,111,99,101,115,115,32,112,97,114,116,32,109,111,100,117,108,101]⟩
def actionsV:ByteArray:=⟨#[105,103,110,111,114,101,32,115,116,111,112,32,114,101,115,116,97,114,116,32,119,97,114,109,32,99,111,108,100,32,105,100,108,101,32,114,101,115,101,116,32,104,97,108,116]⟩
theorem fault_c(n:Int)(w:World)(hL:LaidN w)(h0:0≤n)(h1:n≤255):CU 216 #[.int .u8 n] w (.string (vocV faultsV n)):=by
 have Hc:=lz (voc_c faultsV n w hL (by decide) kz h0 h1);go_enter Tryz.func216,Tryz.ntmps216;go_wp2_with (go_at_call 264;refine Hc.out.mono ?_;rintro e w' ⟨rfl,hb⟩);go_ret;exact⟨rfl,hb⟩
theorem level_c(n:Int)(w:World)(hL:LaidN w)(h0:0≤n)(h1:n≤255):CU 217 #[.int .u8 n] w (.string (vocV levelsV n)):=by
 have Hc:=lz (voc_c levelsV n w hL (by decide) kz h0 h1);go_enter Tryz.func217,Tryz.ntmps217;go_wp2_with (go_at_call 264;refine Hc.out.mono ?_;rintro e w' ⟨rfl,hb⟩);go_ret;exact⟨rfl,hb⟩
theorem action_c(n:Int)(w:World)(hL:LaidN w)(h0:0≤n)(h1:n≤255):CU 218 #[.int .u8 n] w (.string (vocV actionsV n)):=by
 have Hc:=lz (voc_c actionsV n w hL (by decide) kz h0 h1);go_enter Tryz.func218,Tryz.ntmps218;go_wp2_with (go_at_call 264;refine Hc.out.mono ?_;rintro e w' ⟨rfl,hb⟩);go_ret;exact⟨rfl,hb⟩
def insV:ByteArray:=⟨(([119,111,114,107,58,119,32,115,101,116,58,114,118,32,97,100,100,58,114,114,32,115,117,98,58,114,114,32,108,111,97,100,58,114,97,114,32,115,116,111,114,101,58,114,97,114,32,115].append [101,110,100,58,111,114,108,32,114,101,99,118,58,105,114,114,32,119,97,105,116,58,115,32,115,105,103,110,97,108,58,115,32,114,97,105,115,101,58,101,32,108,111,119,101,114,58,101]).append ([32,117,110,116,105,108,58,101,32,112,117,116,58,98,114,32,103,101,116,58,98,114,32,115,104,111,119,58,100,114,32,108,111,111,107,58,100,114,32,99,108,101,97,114,58,100,32,110].append [101,120,116,58,32,106,117,109,112,58,106,32,122,101,114,111,58,114,106,32,108,101,115,115,58,114,114,106,32,100,105,118,58,114,114,32,102,97,117,108,116,58,99,32,115,116,111,112,58])).toArray⟩
def insW(n:Int):ByteArray:=⟨(Lib.cut (vocV insV n).data.toList [58]).1.toArray⟩
def insL(n:Int):ByteArray:=⟨(Lib.cut (vocV insV n).data.toList [58]).2.1.toArray⟩
theorem instruction_c(n:Int)(w:World)(hL:LaidN w)(h0:0≤n)(h1:n≤255):CU 234 #[.int .u8 n] w (.tuple #[.string (insW n),.string (insL n)]):=by
 have hc:=voc_c insV n w hL (of_decide_eq_true kz) kz h0 h1;have hz:(vocV insV n).size<4294967281:=Nat.lt_of_le_of_lt (voc_size (m:=10) kz n) (by decide);obtain⟨m,hm⟩:=hL.mx;have hx:=fun(W:World) (hb:Below w.heap.size w W)=>Any.strings_Cut Tryz.laysCut (vocV insV n) ⟨#[58]⟩ m W hz ((hb.cell (p:=⟨_,0,none⟩) (World.block_lt_of_cell? w _ hm)).trans hm)
 have Hc:=lz hc;have Hx:=lz hx;clear hc hx hm;go_enter Tryz.func234,Tryz.ntmps234;go_wp2_with (first | (go_at_call 264;refine Hc.out.mono ?_;rintro e w1 ⟨rfl,hb⟩) | (go_at_call 275;refine(Hx.out _ hb).mono ?_;rintro e w2 ⟨rfl,k,rfl⟩));go_ret2;exact⟨rfl,only_below hb⟩
def numP(n:Int):Bool:=decide (0≤n)&&decide (n≤1073741824)
def witP(lo hi n:Int):Bool:=decide (lo≤n)&&decide (n≤hi)
theorem numF_c(n:Int)(w:World):CU 254 #[.int .i64 n] w (.bool (!numP n)):=by
 by_cases h1:n<0
 ·have hr:numP n=false:=by unfold numP;rw[decide_eq_false (by omega)];rfl
  have d1:decide (n<0)=true:=decide_eq_true h1;rw[hr];clear hr;go_enter Tryz.func254,Tryz.ntmps254;go_wp2;go_ret;exact⟨rfl,Below.refl _ _⟩
 ·have d1:decide (n<0)=false:=decide_eq_false h1
  by_cases h2:n>1073741824
  ·have hr:numP n=false:=by unfold numP;rw[decide_eq_false (p:=n≤1073741824) (by omega),Bool.and_false]
   have d2:decide (n>1073741824)=true:=decide_eq_true h2;rw[hr];clear hr;go_enter Tryz.func254,Tryz.ntmps254;go_wp2;go_ret;exact⟨rfl,Below.refl _ _⟩
  ·have hr:numP n=true:=by unfold numP;rw[decide_eq_true (p:=n≤1073741824) (by omega),decide_eq_true (p:=0≤n) (by omega)];rfl
   have d2:decide (n>1073741824)=false:=decide_eq_false h2;rw[hr];clear hr;go_enter Tryz.func254,Tryz.ntmps254;go_wp2;go_ret;exact⟨rfl,Below.refl _ _⟩
theorem nums_g(l:List Int)(A:Option Addr)(c:Nat)(w:World)(h:RdInt w w.heap.size A l)(hl:l.length≤9223372036854775807):
 CU 204 #[.slice A l.length c] w (.bool (l.all numP)):=by
 have hcon:=contains166 254 #[] (fun n=> !numP n) (enters_of Tryz.func254 kz rfl) l A c w (fun W r hr hW=>numF_c r W) h hl;rw[any_not]at hcon;have Hcon:=lz hcon;generalize l.all numP=q at *;clear hcon h;go_enter Tryz.func204,Tryz.ntmps204;go_wp2_with fail;refine Hcon.out.mono ?_;rintro e w1 ⟨rfl,hb1⟩;go_wp2;go_ret;exact⟨by cases q<;>rfl,hb1⟩
theorem witF_c(lo hi n:Int)(B1 B2:Nat)(w:World)(b1:Blk w B1 3 #[.int .i64 lo])(b2:Blk w B2 3 #[.int .i64 hi]):CU 136 #[.int .i64 n,.pointer (some ⟨B1,0,none⟩),.pointer (some ⟨B2,0,none⟩)] w (.bool (!witP lo hi n)):=by
 have c1:=b1.cell 0;have c2:=b2.cell 0;clear b1 b2;by_cases h1:n<lo
 ·have hr:witP lo hi n=false:=by unfold witP;rw[decide_eq_false (by omega)];rfl
  have d1:decide (n<lo)=true:=decide_eq_true h1;rw[hr];clear hr;go_enter Tryz.func136,Tryz.ntmps136;go_wp2;go_ret;exact⟨rfl,Below.refl _ _⟩
 ·have d1:decide (n<lo)=false:=decide_eq_false h1
  by_cases h2:n>hi
  ·have hr:witP lo hi n=false:=by unfold witP;rw[decide_eq_false (p:=n≤hi) (by omega),Bool.and_false]
   have d2:decide (n>hi)=true:=decide_eq_true h2;rw[hr];clear hr;go_enter Tryz.func136,Tryz.ntmps136;go_wp2;go_ret;exact⟨rfl,Below.refl _ _⟩
  ·have hr:witP lo hi n=true:=by unfold witP;rw[decide_eq_true (p:=n≤hi) (by omega),decide_eq_true (p:=lo≤n) (by omega)];rfl
   have d2:decide (n>hi)=false:=decide_eq_false h2;rw[hr];clear hr;go_enter Tryz.func136,Tryz.ntmps136;go_wp2;go_ret;exact⟨rfl,Below.refl _ _⟩
theorem within_g(lo hi:Int)(l:List Int)(A:Option Addr)(c:Nat)(w:World)(h:RdInt w w.heap.size A l)(hl:l.length≤9223372036854775807):
 CU 48 #[.int .i64 lo,.int .i64 hi,.slice A l.length c] w (.bool (l.all (witP lo hi))):=by
 obtain⟨w1,hw1⟩:∃w1,w1=(w.alloc (.cells #[.int .i64 lo] 3)).alloc (.cells #[.int .i64 hi] 3):=⟨_,rfl⟩;have hB1:Below w.heap.size w w1:=by rw[hw1];exact((Below.refl _ w).alloc (Nat.le_refl _) _).alloc (by simp) _
 have b1:Blk w1 w.heap.size 3 #[.int .i64 lo]:=by rw[hw1];exact(Blk.new w _ _).alloc _
 have b2:Blk w1 (w.heap.size+1) 3 #[.int .i64 hi]:=by rw[hw1];have:=Blk.new (w.alloc (.cells #[.int .i64 lo] 3)) 3 #[.int .i64 hi];rwa[World.size_alloc]at this
 have hcon:=contains166 136 #[.pointer (some ⟨w.heap.size,0,none⟩),.pointer (some ⟨w.heap.size+1,0,none⟩)] (fun n=> !witP lo hi n) (enters_of Tryz.func136 kz rfl) l A c w1
  (fun W r hr hW=>witF_c lo hi r _ _ W (b1.below hW b1.lt) (b2.below hW b2.lt)) (h.below hB1) hl
 rw[any_not]at hcon;have Hcon:=lz hcon;have HB1:=lz hB1;have Hw1:=lz hw1;generalize l.all (witP lo hi)=q at *;clear hcon h hB1 b1 b2 hw1;go_enter Tryz.func48,Tryz.ntmps48;go_wp2_with fail;rw[←Hw1.out];refine Hcon.out.mono ?_;rintro e w2 ⟨rfl,hb2⟩;have HB:=lz (HB1.out.trans (hb2.mono HB1.out.size));clear hb2;go_wp2;go_ret;exact⟨by cases q<;>rfl,HB.out⟩
theorem wordF_c(s:ByteArray)(w:World)(hL:LaidN w):CU 263 #[.string s] w (.bool (!wordP s)):=by
 have Hw:=lz (word_g s w hL);generalize wordP s=q at *;clear hL;go_enter Tryz.func263,Tryz.ntmps263;go_wp2_with fail;refine Hw.out.mono ?_;rintro e w1 ⟨rfl,hb1⟩;go_wp2;go_ret;exact⟨rfl,hb1⟩
theorem words_g(l:List ByteArray)(A:Option Addr)(c:Nat)(w:World)(hL:LaidN w)(h:RdStr w w.heap.size A l)(hl:l.length≤9223372036854775807):
 CU 212 #[.slice A l.length c] w (.bool (l.all wordP)):=by
 have hcon:=containsStr48 263 #[] (fun s=> !wordP s) (enters_of Tryz.func263 kz rfl) l A c w (fun W r hr hW=>wordF_c r W (hL.below hW)) h hl;rw[any_not]at hcon;have Hcon:=lz hcon;generalize l.all wordP=q at *;clear hcon h hL;go_enter Tryz.func212,Tryz.ntmps212;go_wp2_with fail;refine Hcon.out.mono ?_;rintro e w1 ⟨rfl,hb1⟩;go_wp2;go_ret;exact⟨by cases q<;>rfl,hb1⟩
theorem rdInt_row{w:World}{B o:Nat}{l:List Int}(hB:B<w.heap.size)(h:∀i (hi:i<l.length),w.cell? ⟨B,o+i,none⟩=some (.int .i64 l[i])):RdInt w w.heap.size (some ⟨B,o,none⟩) l:=
 fun _=>⟨B,o,rfl,hB,h⟩
theorem zeroF_c(n:Int)(w:World):CU 270 (#[.int .i64 n]++ #[]) w (.bool (decide (n=0))):=by
 by_cases h:n=0
 ·subst h
  go_enter Tryz.func270,Tryz.ntmps270;go_wp2;go_ret;exact⟨rfl,Below.refl _ _⟩
 ·have d:(n==0)=false:=by simpa using h
  rw[decide_eq_false h];go_enter Tryz.func270,Tryz.ntmps270;go_wp2;go_ret;exact⟨rfl,Below.refl _ _⟩
theorem notInt_c(g:Nat)(lb:Array Value)(eg:∀args w,(callFunc g args).run Tryz.prog w= .ok (.enter g args) w)(Bx:Nat)(b:Bool)(x:Int)(W:World)(hb:Blk W Bx 208 #[.func (.func g) #[] lb])
 (hcall:CU g (#[.int .i64 x]++lb) W (.bool b)):
 CU 300 #[.int .i64 x,.pointer (some ⟨Bx,0,none⟩)] W (.bool (!b)):=by
 have c0:=hb.cell 0;have Hc:=lz hcall;clear hcall hb;go_enter Tryz.func300,Tryz.ntmps300;go_wp2_with (go_at_fn g;refine Hc.out.mono ?_;rintro e w' ⟨rfl,hb'⟩);go_ret;exact⟨rfl,hb'⟩
theorem fall_Int(g:Nat)(lb:Array Value)(p:Int→Bool)(eg:∀args w,(callFunc g args).run Tryz.prog w= .ok (.enter g args) w)(l:List Int)(A:Option Addr)(c:Nat)(w:World)
 (hp:PredInt g lb p l w) (h:RdInt w w.heap.size A l) (hl:l.length≤9223372036854775807):
 CU 269 #[.slice A l.length c,.func (.func g) #[] lb] w (.bool (l.all p)):=by
 have h1:=Blk.new w 208 #[.func (.func g) #[] lb];have hB1:Below w.heap.size w (w.alloc (.cells #[.func (.func g) #[] lb] 208)):=(Below.refl _ w).alloc (Nat.le_refl _) _;have hcon:=contains166 300 #[.pointer (some ⟨w.heap.size,0,none⟩)] (fun x=> !p x) (enters_of Tryz.func300 kz rfl) l A c (w.alloc (.cells #[.func (.func g) #[] lb] 208))
  (fun W x hx hW=>notInt_c g lb eg _ (p x) x W (h1.below hW h1.lt) (hp W x hx (hB1.trans (hW.mono hB1.size)))) (h.below hB1) hl
 rw[any_not]at hcon;have Hcon:=lz hcon;generalize l.all p=q at *;clear h1 hB1 hcon hp h;go_enter Tryz.func269,Tryz.ntmps269;go_wp2_with fail;refine Hcon.out.mono ?_;rintro e w1 ⟨rfl,hb1⟩;have HB:=lz (((Below.refl _ w).alloc (Nat.le_refl _) (.cells #[.func (.func g) #[] lb] 208)).trans (hb1.mono (by simp)));clear Hcon hb1;go_wp2;go_ret;exact⟨by cases q<;>rfl,HB.out⟩
theorem word_ins_c(n:Int)(w:World)(hL:LaidN w)(h0:0≤n)(h1:n≤255):CU 267 #[.int .u8 n] w (.string (insW n)):=by
 have Hc:=lz (instruction_c n w hL h0 h1);clear hL;go_enter Tryz.func267,Tryz.ntmps267;go_wp2_with (go_at_call 234;refine Hc.out.mono ?_;rintro e w' ⟨rfl,hb⟩);go_ret;exact⟨rfl,hb⟩
theorem operands_ins_c(n:Int)(w:World)(hL:LaidN w)(h0:0≤n)(h1:n≤255):CU 170 #[.int .u8 n] w (.string (insL n)):=by
 have Hc:=lz (instruction_c n w hL h0 h1);clear hL;go_enter Tryz.func170,Tryz.ntmps170;go_wp2_with (go_at_call 234;refine Hc.out.mono ?_;rintro e w' ⟨rfl,hb⟩);go_ret;exact⟨rfl,hb⟩
theorem insV_len:(Lib.fields insV.data.toList).length=25:=by kernel_rfl
def insLS:List Nat:=(List.range 26).map fun(n:Nat)=>(insL (n:Int)).size
theorem insLS_le:(insLS.all fun k=>decide (k≤3))=true:=by kernel_rfl
theorem insL_far{n:Int}(h:n<1∨n>25):insL n=⟨#[]⟩:=by
 unfold insL vocV vocL;rw[insV_len,if_pos (show n<1∨n>((25:Nat):Int)from h)];rfl
theorem insL_size(n:Int):(insL n).size≤3:=by
 by_cases h:n<1∨n>25
 ·rw[insL_far h];decide
 ·have hn:n.toNat<26:=by omega
  have h1:=List.all_eq_true.1 insLS_le (insL n.toNat).size (List.mem_map.2 ⟨n.toNat,List.mem_range.2 hn,rfl⟩);rw[Int.toNat_of_nonneg (by omega)]at h1;exact of_decide_eq_true h1
theorem not_fall_Module:NotS ModV.val 202 135:=by
 intro g lb eg Bx b x W hb hcall;go_enter Tryz.func202,Tryz.ntmps202;exact pNot
theorem fall_Module:ListA 119 PredModule RdModule:=by
 intro g lb p eg l A c w hp h hl;obtain⟨h1,hB1⟩:=box_new w 135 #[.func (.func g) #[] lb];have hcon:=contains_Module 202 #[.pointer (some ⟨w.heap.size,0,none⟩)] (fun x=> !p x) (enters_of Tryz.func202 kz rfl) l A c _ (fun W x hx hW hrd=>not_fall_Module g lb eg _ (p x) x W (h1.below hW h1.lt) fun W' hW'=>hp W' x hx (bl3 hB1 hW hW') (hrd.below hW')) (h.below hB1) hl;rw[any_not]at hcon;go_enter Tryz.func119,Tryz.ntmps119;exact pAll
theorem not_fall_Channel:NotS ChanV.val 208 206:=by
 intro g lb eg Bx b x W hb hcall;go_enter Tryz.func208,Tryz.ntmps208;exact pNot
theorem fall_Channel:ListA 121 PredChannel RdChannel:=by
 intro g lb p eg l A c w hp h hl;obtain⟨h1,hB1⟩:=box_new w 206 #[.func (.func g) #[] lb];have hcon:=contains_Channel 208 #[.pointer (some ⟨w.heap.size,0,none⟩)] (fun x=> !p x) (enters_of Tryz.func208 kz rfl) l A c _ (fun W x hx hW hrd=>not_fall_Channel g lb eg _ (p x) x W (h1.below hW h1.lt) fun W' hW'=>hp W' x hx (bl3 hB1 hW hW') (hrd.below hW')) (h.below hB1) hl;rw[any_not]at hcon;go_enter Tryz.func121,Tryz.ntmps121;exact pAll
theorem not_fall_Switch:NotS SwV.val 210 136:=by
 intro g lb eg Bx b x W hb hcall;go_enter Tryz.func210,Tryz.ntmps210;exact pNot
theorem fall_Switch:ListA 123 PredSwitch RdSwitch:=by
 intro g lb p eg l A c w hp h hl;obtain⟨h1,hB1⟩:=box_new w 136 #[.func (.func g) #[] lb];have hcon:=contains_Switch 210 #[.pointer (some ⟨w.heap.size,0,none⟩)] (fun x=> !p x) (enters_of Tryz.func210 kz rfl) l A c _ (fun W x hx hW=>not_fall_Switch g lb eg _ (p x) x W (h1.below hW h1.lt) fun W' hW'=>hp W' x hx (bl3 hB1 hW hW')) (h.below hB1) hl;rw[any_not]at hcon;go_enter Tryz.func123,Tryz.ntmps123;exact pAll
theorem not_fall_Link:NotS LinkV.val 211 137:=by
 intro g lb eg Bx b x W hb hcall;go_enter Tryz.func211,Tryz.ntmps211;exact pNot
theorem fall_Link:ListA 125 PredLink RdLink:=by
 intro g lb p eg l A c w hp h hl;obtain⟨h1,hB1⟩:=box_new w 137 #[.func (.func g) #[] lb];have hcon:=contains_Link 211 #[.pointer (some ⟨w.heap.size,0,none⟩)] (fun x=> !p x) (enters_of Tryz.func211 kz rfl) l A c _ (fun W x hx hW=>not_fall_Link g lb eg _ (p x) x W (h1.below hW h1.lt) fun W' hW'=>hp W' x hx (bl3 hB1 hW hW')) (h.below hB1) hl;rw[any_not]at hcon;go_enter Tryz.func125,Tryz.ntmps125;exact pAll
theorem not_fall_VL:NotS VlV.val 213 178:=by
 intro g lb eg Bx b x W hb hcall;go_enter Tryz.func213,Tryz.ntmps213;exact pNot
theorem fall_VL:ListA 127 PredVL RdVL:=by
 intro g lb p eg l A c w hp h hl;obtain⟨h1,hB1⟩:=box_new w 178 #[.func (.func g) #[] lb];have hcon:=contains_VL 213 #[.pointer (some ⟨w.heap.size,0,none⟩)] (fun x=> !p x) (enters_of Tryz.func213 kz rfl) l A c _ (fun W x hx hW hrd=>not_fall_VL g lb eg _ (p x) x W (h1.below hW h1.lt) fun W' hW'=>hp W' x hx (bl3 hB1 hW hW') (hrd.below hW')) (h.below hB1) hl;rw[any_not]at hcon;go_enter Tryz.func127,Tryz.ntmps127;exact pAll
theorem not_fall_Health:NotS HeaV.val 214 181:=by
 intro g lb eg Bx b x W hb hcall;go_enter Tryz.func214,Tryz.ntmps214;exact pNot
theorem fall_Health:ListA 129 PredHealth RdHealth:=by
 intro g lb p eg l A c w hp h hl;obtain⟨h1,hB1⟩:=box_new w 181 #[.func (.func g) #[] lb];have hcon:=contains_Health 214 #[.pointer (some ⟨w.heap.size,0,none⟩)] (fun x=> !p x) (enters_of Tryz.func214 kz rfl) l A c _ (fun W x hx hW hrd=>not_fall_Health g lb eg _ (p x) x W (h1.below hW h1.lt) fun W' hW'=>hp W' x hx (bl3 hB1 hW hW') (hrd.below hW')) (h.below hB1) hl;rw[any_not]at hcon;go_enter Tryz.func129,Tryz.ntmps129;exact pAll
theorem not_fall_Version:NotS VsnV.val 222 182:=by
 intro g lb eg Bx b x W hb hcall;go_enter Tryz.func222,Tryz.ntmps222;exact pNot
theorem fall_Version:ListA 133 PredVersion RdVersion:=by
 intro g lb p eg l A c w hp h hl;obtain⟨h1,hB1⟩:=box_new w 182 #[.func (.func g) #[] lb];have hcon:=contains_Version 222 #[.pointer (some ⟨w.heap.size,0,none⟩)] (fun x=> !p x) (enters_of Tryz.func222 kz rfl) l A c _ (fun W x hx hW=>not_fall_Version g lb eg _ (p x) x W (h1.below hW h1.lt) fun W' hW'=>hp W' x hx (bl3 hB1 hW hW')) (h.below hB1) hl;rw[any_not]at hcon;go_enter Tryz.func133,Tryz.ntmps133;exact pAll
theorem not_fall_Part:NotS PartV.val 255 133:=by
 intro g lb eg Bx b x W hb hcall;go_enter Tryz.func255,Tryz.ntmps255;exact pNot
theorem fall_Part:ListA 205 PredPart RdPart:=by
 intro g lb p eg l A c w hp h hl;obtain⟨h1,hB1⟩:=box_new w 133 #[.func (.func g) #[] lb];have hcon:=contains_Part 255 #[.pointer (some ⟨w.heap.size,0,none⟩)] (fun x=> !p x) (enters_of Tryz.func255 kz rfl) l A c _ (fun W x hx hW hrd=>not_fall_Part g lb eg _ (p x) x W (h1.below hW h1.lt) fun W' hW'=>hp W' x hx (bl3 hB1 hW hW') (hrd.below hW')) (h.below hB1) hl;rw[any_not]at hcon;go_enter Tryz.func205,Tryz.ntmps205;exact pAll
theorem not_fall_Ins:NotS InsV.val 266 169:=by
 intro g lb eg Bx b x W hb hcall;go_enter Tryz.func266,Tryz.ntmps266;exact pNot
theorem fall_Ins:ListA 229 PredIns RdIns:=by
 intro g lb p eg l A c w hp h hl;obtain⟨h1,hB1⟩:=box_new w 169 #[.func (.func g) #[] lb];have hcon:=contains_Ins 266 #[.pointer (some ⟨w.heap.size,0,none⟩)] (fun x=> !p x) (enters_of Tryz.func266 kz rfl) l A c _ (fun W x hx hW hrd=>not_fall_Ins g lb eg _ (p x) x W (h1.below hW h1.lt) fun W' hW'=>hp W' x hx (bl3 hB1 hW hW') (hrd.below hW')) (h.below hB1) hl;rw[any_not]at hcon;go_enter Tryz.func229,Tryz.ntmps229;exact pAll
theorem not_fall_Port:NotS PortV.val 295 129:=by
 intro g lb eg Bx b x W hb hcall;go_enter Tryz.func295,Tryz.ntmps295;exact pNot
theorem fall_Port:ListA 256 PredPort RdPort:=by
 intro g lb p eg l A c w hp h hl;obtain⟨h1,hB1⟩:=box_new w 129 #[.func (.func g) #[] lb];have hcon:=contains_Port 295 #[.pointer (some ⟨w.heap.size,0,none⟩)] (fun x=> !p x) (enters_of Tryz.func295 kz rfl) l A c _ (fun W x hx hW hrd=>not_fall_Port g lb eg _ (p x) x W (h1.below hW h1.lt) fun W' hW'=>hp W' x hx (bl3 hB1 hW hW') (hrd.below hW')) (h.below hB1) hl;rw[any_not]at hcon;go_enter Tryz.func256,Tryz.ntmps256;exact pAll
theorem not_fall_Proc:NotS ProcV.val 296 130:=by
 intro g lb eg Bx b x W hb hcall;go_enter Tryz.func296,Tryz.ntmps296;exact pNot
theorem fall_Proc:ListA 258 PredProc RdProc:=by
 intro g lb p eg l A c w hp h hl;obtain⟨h1,hB1⟩:=box_new w 130 #[.func (.func g) #[] lb];have hcon:=contains_Proc 296 #[.pointer (some ⟨w.heap.size,0,none⟩)] (fun x=> !p x) (enters_of Tryz.func296 kz rfl) l A c _ (fun W x hx hW hrd=>not_fall_Proc g lb eg _ (p x) x W (h1.below hW h1.lt) fun W' hW'=>hp W' x hx (bl3 hB1 hW hW') (hrd.below hW')) (h.below hB1) hl;rw[any_not]at hcon;go_enter Tryz.func258,Tryz.ntmps258;exact pAll
theorem not_fall_Ref:NotS RefV.val 298 277:=by
 intro g lb eg Bx b x W hb hcall;go_enter Tryz.func298,Tryz.ntmps298;exact pNot
theorem fall_Ref:ListA 262 PredRef RdRef:=by
 intro g lb p eg l A c w hp h hl;obtain⟨h1,hB1⟩:=box_new w 277 #[.func (.func g) #[] lb];have hcon:=contains_Ref 298 #[.pointer (some ⟨w.heap.size,0,none⟩)] (fun x=> !p x) (enters_of Tryz.func298 kz rfl) l A c _ (fun W x hx hW=>not_fall_Ref g lb eg _ (p x) x W (h1.below hW h1.lt) fun W' hW'=>hp W' x hx (bl3 hB1 hW hW')) (h.below hB1) hl;rw[any_not]at hcon;go_enter Tryz.func262,Tryz.ntmps262;exact pAll
end Go.Proofs.YtchfcgilpjkmhaaGreatDoor
