import Derived.Lib.ItoaLen
import Derived.Lib.OthersKept
import Derived.Test.YtchfcgilpjkmhaaGreatDoorY33
import Derived.Test.YtchfcgilpjkmhaaGreatDoorY22
import Derived.Test.YtchfcgilpjkmhaaGreatDoorY0
set_option maxRecDepth 100000
set_option linter.unusedSimpArgs false
set_option linter.unusedVariables false
set_option linter.unusedSectionVars false
namespace Go.Proofs.YtchfcgilpjkmhaaGreatDoor
open Go.ChangeShapes Go.WideShapes Go.ChangeAt Go.RowKit
attribute [local go_sem] Oper.semAt_some
def i64ok(v:Int):Prop:= -9223372036854775808≤v∧v≤9223372036854775807
theorem itoa_x(v:Int)(h:i64ok v)(w:World)(hL:LaidN w):Calls Tryz.prog 271 #[.int .i64 v] w fun e w'=>∃s:ByteArray,e= .returned (.string s)∧s.size≤21∧Below w.heap.size w w':=by
 refine(Any.strconv_Itoa Tryz.laysItoa v h.1 h.2 w hL.tab).mono ?_;rintro e w2 ⟨rfl,k,os,rfl⟩;refine⟨_,rfl,?_,Go.Lib.below_grow _ _ (Nat.le_refl _) _ _⟩;have:=Lib.itoa_length_le v h.1 h.2;simpa [ByteArray.size]using this
def insWS:List Nat:=(List.range 26).map fun(n:Nat)=>(insW (n:Int)).size
theorem insWS_le:(insWS.all fun k=>decide (k≤24))=true:=by kernel_rfl
theorem insW_far{n:Int}(h:n<1∨n>25):insW n=⟨#[]⟩:=by
 unfold insW vocV vocL;rw[insV_len,if_pos (show n<1∨n>((25:Nat):Int)from h)];rfl
theorem insW_size(n:Int):(insW n).size≤24:=by
 by_cases h:n<1∨n>25
 ·rw[insW_far h];decide
 ·have hn:n.toNat<26:=by omega
  have h1:=List.all_eq_true.1 insWS_le (insW n.toNat).size (List.mem_map.2 ⟨n.toNat,List.mem_range.2 hn,rfl⟩);rw[Int.toNat_of_nonneg (by omega)]at h1;exact of_decide_eq_true h1
theorem code_g(x:InsV)(w:World)(hL:LaidN w)(h0:0≤x.op∧x.op≤255)(ha:i64ok x.a)(hb:i64ok x.b)(hd:i64ok x.d):
 Calls Tryz.prog 231 #[x.val] w fun e w'=>∃s:ByteArray,e= .returned (.string s)∧s.size≤100∧Below w.heap.size w w':=by
 have hk:=insL_size x.op;have hwz:=insW_size x.op;have hwd:∀W,Below w.heap.size w W→CU 267 #[.int .u8 x.op] W (.string (insW x.op)):=fun W hW=>word_ins_c x.op W (hL.below hW) h0.1 h0.2
 have hop:∀W,Below w.heap.size w W→Calls Tryz.prog 268 #[.agg #[.int .u8 x.op,.int .i64 x.a,.int .i64 x.b,.int .i64 x.d]] W (OpsPost x W):=fun W hW=>operands_g x W (hL.below hW) h0
 have hit:∀W,Below w.heap.size w W→∀k:Nat,(hk:k<3)→Calls Tryz.prog 271 #[.int .i64 ([x.a,x.b,x.d][k])] W fun e w'=>∃s:ByteArray,e= .returned (.string s)∧s.size≤21∧Below W.heap.size W w':=fun W hW k hk=>itoa_x _ (by
  have:k=0∨k=1∨k=2:=by omega
  rcases this with rfl | rfl | rfl<;>assumption) W (hL.below hW)
 obtain⟨y0,hy0⟩:∃y0,y0=w.alloc (.cells #[.int .u8 x.op,.int .i64 x.a,.int .i64 x.b,.int .i64 x.d] 167):=⟨_,rfl⟩;have hB0:Below w.heap.size w y0:=by rw[hy0];exact(Below.refl _ _).alloc (Nat.le_refl _) _
 have hb0:Blk y0 w.heap.size 167 #[.int .u8 x.op,.int .i64 x.a,.int .i64 x.b,.int .i64 x.d]:=by rw[hy0];exact Blk.new w _ _
 have k0:=hy0▸hb0.cell 0;have hf:∀W,Below y0.heap.size y0 W→Blk W w.heap.size 167 #[.int .u8 x.op,.int .i64 x.a,.int .i64 x.b,.int .i64 x.d]:=fun W hW=>hb0.below hW hb0.lt
 have Hf:=lz hf;have HB0:=lz hB0;have Hy0:=lz hy0;have Hwd:=lz hwd;have Hop:=lz hop;have Hit:=lz hit;have HZ:=lz (show y0.heap.size=w.heap.size+1 by rw[hy0];simp);clear hB0 hb0 hy0 hf hwd hop hit hL h0 ha hb hd;go_enter Tryz.func231,Tryz.ntmps231;go_wp2_with fail;rw[←Hy0.out];refine(Hwd.out y0 HB0.out).mono ?_;rintro e y1 ⟨rfl,hb1⟩;have HB1:=lz (HB0.out.trans (hb1.mono HB0.out.size));have hbk:=Hf.out y1 hb1;have c0:=hbk.cell 0;have c1:=hbk.cell 1;have c2:=hbk.cell 2;have c3:=hbk.cell 3;clear hb1 hbk k0;generalize insW x.op=sw at *;go_wp2_with fail;refine(Hop.out y1 HB1.out).mono ?_;rintro e y2 ⟨B,rfl,hb2,hlt,d0,d1,d2⟩;have HB2:=lz (HB1.out.trans (hb2.mono HB1.out.size));clear hb2 c0 c1 c2 c3;generalize (insL x.op).size=m at *;go_wp2_with fail;go_loopw [3,5,12] (fun s _ i wr=>∃k:Nat,∃b:ByteArray,s= .string b∧b.size≤24+22*k∧k≤m∧i= .int .i64 k∧Hid (Below w.heap.size w wr)∧Hid (Below y2.heap.size y2 wr)) (fun _ _ i _=>m-(intOf i).toNat)
 case atStart=>exact⟨0,sw,rfl,by omega,Nat.zero_le _,rfl,HB2,lz (Below.refl _ _)⟩
 case round=>
  obtain⟨k,b,rfl,hbz,hkm,rfl,HW,HY⟩:=hrel;by_cases hlt2:k<m
  ·have hk3:k<3:=by omega
   have hcell:wr.cell? ⟨B,k,none⟩=some (.int .i64 ([x.a,x.b,x.d][k])):=by
    have hh:y2.cell? ⟨B,k,none⟩=some (.int .i64 ([x.a,x.b,x.d][k])):=by
     have:k=0∨k=1∨k=2:=by omega
     rcases this with rfl | rfl | rfl<;>assumption
    exact(HY.out.cell (p:=⟨B,k,none⟩) hlt).trans hh
   have hcall:=Hit.out wr HW.out k hk3;generalize [x.a,x.b,x.d][k]=v at hcell hcall;have Hcall:=lz hcall;clear hcall;go_wp2_with fail;refine Hcall.out.mono ?_;rintro e w3 ⟨s,rfl,hs,hb3⟩;have HW3:=lz (HW.out.trans (hb3.mono HW.out.size));have HY3:=lz (HY.out.trans (hb3.mono HY.out.size));clear hb3 Hcall;go_wp2_with fail;go_roundw
   case rel=>
    have z32:(ByteArray.mk #[32]).size=1:=rfl;exact⟨k+1,_,rfl,by simp[ByteArray.size_append];omega,by omega,by go_num,HW3,HY3⟩
   case measure=>simp[intOf];omega
  ·go_wp2_with fail
   go_ret;have z59:(ByteArray.mk #[59]).size=1:=rfl;exact⟨_,rfl,by simp[ByteArray.size_append];omega,HW.out⟩
theorem join1_c(s sep:ByteArray)(b o c:Nat)(w:World)(h:w.cell? ⟨b,o,none⟩=some (.string s)):CU 233 #[.slice (some ⟨b,o,none⟩) 1 c,.string sep] w (.string s):=by
 go_enter Tryz.func233,Tryz.ntmps233;go_wp2_with fail;go_ret;exact⟨rfl,Below.refl _ _⟩
theorem fits1_c(s:ByteArray)(w:World)(hs:s.size≤65536):CU 232 #[.string s] w (.tuple #[.string s,.int .i64 0]):=by
 have hz:decide (65536<s.size)=false:=decide_eq_false (by omega);have hz2:decide ((65536:Int)<(s.size:Int))=false:=decide_eq_false (by omega);go_enter Tryz.func232,Tryz.ntmps232;go_wp2_with fail;go_ret2;exact⟨rfl,Below.refl _ _⟩
theorem code1_c(x:InsV)(w:World)(hL:LaidN w)(h0:0≤x.op∧x.op≤255)(ha:i64ok x.a)(hb:i64ok x.b)(hd:i64ok x.d):
 Calls Tryz.prog 163 #[.slice (some ⟨w.heap.size,0,none⟩) 1 1] (w.alloc (.cells #[.int .u8 x.op,.int .i64 x.a,.int .i64 x.b,.int .i64 x.d] 167)) fun e w'=>
  (∃(s:ByteArray) (z:Int),e= .returned (.tuple #[.string s,.int .i64 z])∧((z !=0)= !insP x))∧Below w.heap.size w w':=by
 obtain⟨y0,hy0⟩:∃y0,y0=w.alloc (.cells #[.int .u8 x.op,.int .i64 x.a,.int .i64 x.b,.int .i64 x.d] 167):=⟨_,rfl⟩;have hB0:Below w.heap.size w y0:=by rw[hy0];exact(Below.refl _ _).alloc (Nat.le_refl _) _
 have hb0:Blk y0 w.heap.size 167 #[.int .u8 x.op,.int .i64 x.a,.int .i64 x.b,.int .i64 x.d]:=by rw[hy0];exact Blk.new w _ _
 rw[←hy0];have hrd:RdIns y0 y0.heap.size (some ⟨w.heap.size,0,none⟩) [x]:=fun _=>⟨w.heap.size,0,rfl,hb0.lt,fun i hi=>by
  have:i=0:=by simp at hi;omega
  subst this;exact⟨hb0.cell 0,hb0.cell 1,hb0.cell 2,hb0.cell 3,⟨h0⟩⟩⟩
 have hc:=fall_Ins 230 #[] insP (enters_of Tryz.func230 kz rfl) [x] (some ⟨w.heap.size,0,none⟩) 1 y0 (fun W r hx hW hrd=>by simpa using ins_g r W ((hL.below hB0).below hW) hrd.op0) hrd (by simp);rw[show[x].all insP=insP x by simp]at hc;have hcode:∀W,Below w.heap.size w W→Calls Tryz.prog 231 #[.agg #[.int .u8 x.op,.int .i64 x.a,.int .i64 x.b,.int .i64 x.d]] W fun e w'=>∃s:ByteArray,e= .returned (.string s)∧s.size≤100∧Below W.heap.size W w':=fun W hW=>code_g x W (hL.below hW) h0 ha hb hd
 have Hc:=lz hc;have Hcode:=lz hcode;have HB0:=lz hB0;have Hb0:=lz hb0;have HN0:=lz (show w.heap.size<y0.heap.size from hb0.lt);clear hc hcode hB0 hb0 hrd hy0 hL h0 ha hb hd;go_enter Tryz.func163,Tryz.ntmps163;go_wp2_with fail;refine Hc.out.mono ?_;rintro e y1 ⟨rfl,hb1⟩;have HB1:=lz (HB0.out.trans (hb1.mono HB0.out.size));have Hb1:=lz (Hb0.out.below hb1 HN0.out);clear hb1
 cases hq:insP x with
 | false=>
  go_wp2_with fail;go_ret2;exact⟨⟨_,_,rfl,by rw[hq];rfl⟩,HB1.out⟩
 | true=>
  go_wp2_with fail;go_loopw [4,6,12] (fun s _ i wr=>Hid (Below w.heap.size w wr)∧Hid (Blk wr w.heap.size 167 #[.int .u8 x.op,.int .i64 x.a,.int .i64 x.b,.int .i64 x.d])∧((i= .int .i64 0∧s= .slice none 0 0)∨(i= .int .i64 1∧∃(t:ByteArray) (b c:Nat),t.size≤100∧s= .slice (some ⟨b,0,none⟩) 1 c∧wr.cell? ⟨b,0,none⟩=some (.string t)))) (fun _ _ i _=>1-(intOf i).toNat)
  case atStart=>exact⟨HB1,Hb1,.inl ⟨rfl,rfl⟩⟩
  case round=>
   obtain⟨HW,HBk,⟨rfl,rfl⟩ | ⟨rfl,t,b,c,ht,rfl,hcell⟩⟩:=hrel
   ·have c0:=HBk.out.cell 0
    have c1:=HBk.out.cell 1;have c2:=HBk.out.cell 2;have c3:=HBk.out.cell 3;go_wp2_with fail;have HX:=lz (Hcode.out (wr.alloc (.cells #[.int .u8 x.op,.int .i64 x.a,.int .i64 x.b,.int .i64 x.d] 167)) (HW.out.alloc HW.out.size _));have HWa:=lz (HW.out.alloc HW.out.size (.cells #[.int .u8 x.op,.int .i64 x.a,.int .i64 x.b,.int .i64 x.d] 167));have HBa:=lz (HBk.out.below ((Below.refl _ wr).alloc (Nat.le_refl _) (.cells #[.int .u8 x.op,.int .i64 x.a,.int .i64 x.b,.int .i64 x.d] 167)) HBk.out.lt);clear c0 c1 c2 c3;refine HX.out.mono ?_;rintro e w3 ⟨t,rfl,ht,hb3⟩;have HW3:=lz (HWa.out.trans (hb3.mono HWa.out.size));have HB3:=lz (HBa.out.below hb3 HBa.out.lt);clear hb3 HX;go_wp2_with fail;have HWb:=lz ((HW3.out.alloc HW3.out.size (.cells #[.string t] 9)));have HBb:=lz (HB3.out.below ((Below.refl _ w3).alloc (Nat.le_refl _) (.cells #[.string t] 9)) HB3.out.lt);have HZ4:=lz (show(w3.alloc (.cells #[.string t] 9)).heap.size=w3.heap.size+1 by simp);generalize (w3.alloc (.cells #[.string t] 9))=w4 at *;generalize Builtin.zeroCells #[Value.string {data:= #[]}] _=zs at *;have Hzb:=lz ((Blk.new w4 9 (#[Value.string t]++zs)));have Hc0:=lz (show(#[Value.string t]++zs)[0]?=some (.string t)by rw[Array.getElem?_append_left (show 0<(#[Value.string t]:Array Value).size from Nat.one_pos)];rfl);generalize hgz:(#[Value.string t]++zs)=cs at *;have HWc:=lz ((HWb.out.alloc HWb.out.size (.cells cs 9)).drew);have HBc:=lz (HBb.out.below ((Below.refl _ w4).alloc (Nat.le_refl _) (.cells cs 9)).drew HBb.out.lt);go_roundw
    case rel=>
     refine⟨HWc,HBc,.inr ⟨by go_num,t,_,_,ht,rfl,?_⟩⟩;rw[←HZ4.out];exact(Hzb.out.cell 0).trans Hc0.out
    case measure=>simp[intOf]
   ·go_wp2_with fail
    refine(join1_c t ⟨#[32]⟩ b 0 c wr hcell).mono ?_;rintro e w3 ⟨rfl,hb3⟩;have HW3:=lz (HW.out.trans (hb3.mono HW.out.size));clear hb3 hcell;go_wp2_with fail;refine(fits1_c t w3 (by omega)).mono ?_;rintro e w4 ⟨rfl,hb4⟩;have HW4:=lz (HW3.out.trans (hb4.mono HW3.out.size));clear hb4;go_wp2_with fail;go_ret2;exact⟨⟨_,_,rfl,by rw[hq];rfl⟩,HW4.out⟩
theorem getD_false(n i:Nat):(Array.replicate n false).getD i false=false:=by
 rcases Nat.lt_or_ge i n with h' | h'
 ·simp[Array.getD,h']
 ·simp[Array.getD,h']
theorem getD_true{n i:Nat}(h:i<n):(Array.replicate n true).getD i false=true:=by simp[Array.getD,h]
theorem Reg6.first(C:Ctx)(mb:Nat)(hd:C.a0.defers= [])(hz:C.a0.tmps.size=83)(w:World)(hb:Below C.w0.heap.size C.w0 w):Reg6 C mb (Array.replicate 50 false) C.a0 w:=
 ⟨hd,hz,fun _ _ _=>rfl,hb,fun q _ h=>(by rw[getD_false]at h;cases h),fun h=>(by rw[getD_false]at h;cases h)⟩
theorem arr_eq(xs:Array Value)(n:Nat)(h:xs.size=n):xs=((List.range n).map (fun j=>xs.getD j undef)).toArray:=by
 refine Array.ext (by simp[h]) fun i h1 h2=> ?_
 simp[h1]
structure Fns6(C:Ctx)(w:World)(mb:Nat)(D:DataW Value):Prop where
 fw:D.atKey (kI 119) noFn= .held (fnV 168)
 fl:∃v,D.atKey (kI 108) noFn= .held v∧(v= .func (.func 169) #[] #[pt C.g5 0,pt C.g3 0])
 fr:∃v,D.atKey (kI 114) noFn= .held v∧(IsBelow C 4 v w)
 fv:∃v,D.atKey (kI 118) noFn= .held v∧(IsBelow C 256 v w)
 fc:∃v,D.atKey (kI 99) noFn= .held v∧(IsBelow C 256 v w)
 fa:∃v,D.atKey (kI 97) noFn= .held v∧(IsBelow C 4096 v w)
 fo:∃v,D.atKey (kI 111) noFn= .held v∧(IsPort C true v w)
 fi:∃v,D.atKey (kI 105) noFn= .held v∧(IsPort C false v w)
 fs:∃v,D.atKey (kI 115) noFn= .held v∧(IsBelow C (C.p.semas.l.length:Int) v w)
 fb:∃v,D.atKey (kI 98) noFn= .held v∧(IsBelow C (C.p.bufs.l.length:Int) v w)
 fe:∃v,D.atKey (kI 101) noFn= .held v∧(IsBelow C C.p.ev v w)
 fd:∃v,D.atKey (kI 100) noFn= .held v∧(IsBelow C C.p.bo v w)
 fj:∃v,D.atKey (kI 106) noFn= .held v∧(IsBelow C C.n v w)
theorem frame6{C:Ctx}{mb:Nat}{tm:Array Value}{df:List Deferred}{w:World}(h:Reg6 C mb (Array.replicate 50 true) ⟨tm,df⟩ w):
 ∃t25 t26 t27 t28 t29 t30 t31 t32 t33 t34 t35 t36 t37 t38 t39 t40 t41 t42 t43 t44 t45 t46 t47 t48 t49 t50 t51 t52 t53 t54 t55 t56 t57 t58:Value,df= []∧tm= #[sl C.a0 0,sl C.a0 1,sl C.a0 2,sl C.a0 3,sl C.a0 4,sl C.a0 5,sl C.a0 6,sl C.a0 7,sl C.a0 8,sl C.a0 9,sl C.a0 10,.map (some mb),sl C.a0 12,sl C.a0 13,sl C.a0 14,sl C.a0 15,sl C.a0 16,sl C.a0 17,sl C.a0 18,sl C.a0 19,sl C.a0 20,sl C.a0 21,sl C.a0 22,sl C.a0 23,.map (some mb),t25,t26,t27,t28,t29,t30,t31,t32,t33,t34,t35,t36,t37,t38,t39,t40,t41,t42,t43,t44,t45,t46,t47,t48,t49,t50,t51,t52,t53,t54,t55,t56,t57,t58,.map (some mb),sl C.a0 60,sl C.a0 61,sl C.a0 62,sl C.a0 63,sl C.a0 64,sl C.a0 65,sl C.a0 66,sl C.a0 67,sl C.a0 68,sl C.a0 69,sl C.a0 70,sl C.a0 71,sl C.a0 72,sl C.a0 73,sl C.a0 74,sl C.a0 75,sl C.a0 76,sl C.a0 77,sl C.a0 78,sl C.a0 79,sl C.a0 80,sl C.a0 81,sl C.a0 82]∧Below C.w0.heap.size C.w0 w∧∃k D,C.w0.heap.size≤mb∧FnMap w mb k D∧Fns6 C w mb D:=by
 obtain⟨k,D,m1,m2,m3,_,m5⟩:=h.map (getD_true (by decide));have o0:tm.getD 0 undef=sl C.a0 0:=h.old 0 (by decide) (by decide);have o1:tm.getD 1 undef=sl C.a0 1:=h.old 1 (by decide) (by decide);have o2:tm.getD 2 undef=sl C.a0 2:=h.old 2 (by decide) (by decide);have o3:tm.getD 3 undef=sl C.a0 3:=h.old 3 (by decide) (by decide);have o4:tm.getD 4 undef=sl C.a0 4:=h.old 4 (by decide) (by decide);have o5:tm.getD 5 undef=sl C.a0 5:=h.old 5 (by decide) (by decide);have o6:tm.getD 6 undef=sl C.a0 6:=h.old 6 (by decide) (by decide);have o7:tm.getD 7 undef=sl C.a0 7:=h.old 7 (by decide) (by decide);have o8:tm.getD 8 undef=sl C.a0 8:=h.old 8 (by decide) (by decide);have o9:tm.getD 9 undef=sl C.a0 9:=h.old 9 (by decide) (by decide);have o10:tm.getD 10 undef=sl C.a0 10:=h.old 10 (by decide) (by decide);have o12:tm.getD 12 undef=sl C.a0 12:=h.old 12 (by decide) (by decide);have o13:tm.getD 13 undef=sl C.a0 13:=h.old 13 (by decide) (by decide);have o14:tm.getD 14 undef=sl C.a0 14:=h.old 14 (by decide) (by decide);have o15:tm.getD 15 undef=sl C.a0 15:=h.old 15 (by decide) (by decide);have o16:tm.getD 16 undef=sl C.a0 16:=h.old 16 (by decide) (by decide);have o17:tm.getD 17 undef=sl C.a0 17:=h.old 17 (by decide) (by decide);have o18:tm.getD 18 undef=sl C.a0 18:=h.old 18 (by decide) (by decide);have o19:tm.getD 19 undef=sl C.a0 19:=h.old 19 (by decide) (by decide);have o20:tm.getD 20 undef=sl C.a0 20:=h.old 20 (by decide) (by decide);have o21:tm.getD 21 undef=sl C.a0 21:=h.old 21 (by decide) (by decide);have o22:tm.getD 22 undef=sl C.a0 22:=h.old 22 (by decide) (by decide);have o23:tm.getD 23 undef=sl C.a0 23:=h.old 23 (by decide) (by decide);have o60:tm.getD 60 undef=sl C.a0 60:=h.old 60 (by decide) (by decide);have o61:tm.getD 61 undef=sl C.a0 61:=h.old 61 (by decide) (by decide);have o62:tm.getD 62 undef=sl C.a0 62:=h.old 62 (by decide) (by decide);have o63:tm.getD 63 undef=sl C.a0 63:=h.old 63 (by decide) (by decide);have o64:tm.getD 64 undef=sl C.a0 64:=h.old 64 (by decide) (by decide);have o65:tm.getD 65 undef=sl C.a0 65:=h.old 65 (by decide) (by decide);have o66:tm.getD 66 undef=sl C.a0 66:=h.old 66 (by decide) (by decide);have o67:tm.getD 67 undef=sl C.a0 67:=h.old 67 (by decide) (by decide);have o68:tm.getD 68 undef=sl C.a0 68:=h.old 68 (by decide) (by decide);have o69:tm.getD 69 undef=sl C.a0 69:=h.old 69 (by decide) (by decide);have o70:tm.getD 70 undef=sl C.a0 70:=h.old 70 (by decide) (by decide);have o71:tm.getD 71 undef=sl C.a0 71:=h.old 71 (by decide) (by decide);have o72:tm.getD 72 undef=sl C.a0 72:=h.old 72 (by decide) (by decide);have o73:tm.getD 73 undef=sl C.a0 73:=h.old 73 (by decide) (by decide);have o74:tm.getD 74 undef=sl C.a0 74:=h.old 74 (by decide) (by decide);have o75:tm.getD 75 undef=sl C.a0 75:=h.old 75 (by decide) (by decide);have o76:tm.getD 76 undef=sl C.a0 76:=h.old 76 (by decide) (by decide);have o77:tm.getD 77 undef=sl C.a0 77:=h.old 77 (by decide) (by decide);have o78:tm.getD 78 undef=sl C.a0 78:=h.old 78 (by decide) (by decide);have o79:tm.getD 79 undef=sl C.a0 79:=h.old 79 (by decide) (by decide);have o80:tm.getD 80 undef=sl C.a0 80:=h.old 80 (by decide) (by decide);have o81:tm.getD 81 undef=sl C.a0 81:=h.old 81 (by decide) (by decide);have o82:tm.getD 82 undef=sl C.a0 82:=h.old 82 (by decide) (by decide);have o24:tm.getD 24 undef= .map (some mb):=m1;have o59:=h.val (48,59) (by decide) (getD_true (by decide));rw[vs48]at o59;have o11:=h.val (49,11) (by decide) (getD_true (by decide));rw[vs49]at o11;have o59':tm.getD 59 undef= .map (some mb):=o59;have o11':tm.getD 11 undef= .map (some mb):=o11;refine⟨tm.getD 25 undef,tm.getD 26 undef,tm.getD 27 undef,tm.getD 28 undef,tm.getD 29 undef,tm.getD 30 undef,tm.getD 31 undef,tm.getD 32 undef,tm.getD 33 undef,tm.getD 34 undef,tm.getD 35 undef,tm.getD 36 undef,tm.getD 37 undef,tm.getD 38 undef,tm.getD 39 undef,tm.getD 40 undef,tm.getD 41 undef,tm.getD 42 undef,tm.getD 43 undef,tm.getD 44 undef,tm.getD 45 undef,tm.getD 46 undef,tm.getD 47 undef,tm.getD 48 undef,tm.getD 49 undef,tm.getD 50 undef,tm.getD 51 undef,tm.getD 52 undef,tm.getD 53 undef,tm.getD 54 undef,tm.getD 55 undef,tm.getD 56 undef,tm.getD 57 undef,tm.getD 58 undef,h.df,?_,h.bel,k,D,m2,m3,?_⟩
 ·refine(arr_eq tm 83 h.sz).trans ?_
  show #[tm.getD 0 undef,tm.getD 1 undef,tm.getD 2 undef,tm.getD 3 undef,tm.getD 4 undef,tm.getD 5 undef,tm.getD 6 undef,tm.getD 7 undef,tm.getD 8 undef,tm.getD 9 undef,tm.getD 10 undef,tm.getD 11 undef,tm.getD 12 undef,tm.getD 13 undef,tm.getD 14 undef,tm.getD 15 undef,tm.getD 16 undef,tm.getD 17 undef,tm.getD 18 undef,tm.getD 19 undef,tm.getD 20 undef,tm.getD 21 undef,tm.getD 22 undef,tm.getD 23 undef,tm.getD 24 undef,tm.getD 25 undef,tm.getD 26 undef,tm.getD 27 undef,tm.getD 28 undef,tm.getD 29 undef,tm.getD 30 undef,tm.getD 31 undef,tm.getD 32 undef,tm.getD 33 undef,tm.getD 34 undef,tm.getD 35 undef,tm.getD 36 undef,tm.getD 37 undef,tm.getD 38 undef,tm.getD 39 undef,tm.getD 40 undef,tm.getD 41 undef,tm.getD 42 undef,tm.getD 43 undef,tm.getD 44 undef,tm.getD 45 undef,tm.getD 46 undef,tm.getD 47 undef,tm.getD 48 undef,tm.getD 49 undef,tm.getD 50 undef,tm.getD 51 undef,tm.getD 52 undef,tm.getD 53 undef,tm.getD 54 undef,tm.getD 55 undef,tm.getD 56 undef,tm.getD 57 undef,tm.getD 58 undef,tm.getD 59 undef,tm.getD 60 undef,tm.getD 61 undef,tm.getD 62 undef,tm.getD 63 undef,tm.getD 64 undef,tm.getD 65 undef,tm.getD 66 undef,tm.getD 67 undef,tm.getD 68 undef,tm.getD 69 undef,tm.getD 70 undef,tm.getD 71 undef,tm.getD 72 undef,tm.getD 73 undef,tm.getD 74 undef,tm.getD 75 undef,tm.getD 76 undef,tm.getD 77 undef,tm.getD 78 undef,tm.getD 79 undef,tm.getD 80 undef,tm.getD 81 undef,tm.getD 82 undef]=_;rw[o0,o1,o2,o3,o4,o5,o6,o7,o8,o9,o10,o12,o13,o14,o15,o16,o17,o18,o19,o20,o21,o22,o23,o60,o61,o62,o63,o64,o65,o66,o67,o68,o69,o70,o71,o72,o73,o74,o75,o76,o77,o78,o79,o80,o81,o82,o24,o59',o11']
 ·refine⟨?_,?_,?_,?_,?_,?_,?_,?_,?_,?_,?_,?_,?_⟩
  ·exact m5 ⟨1,119,0,0⟩ (by simp[ins6]) (getD_true (by decide))
  ·exact⟨_,m5 ⟨3,108,25,2⟩ (by simp[ins6]) (getD_true (by decide)),by have hv:=h.val (2,25) (by decide) (getD_true (by decide));rw[vs2]at hv;exact hv⟩
  ·exact⟨_,m5 ⟨6,114,27,5⟩ (by simp[ins6]) (getD_true (by decide)),by have hv:=h.val (5,27) (by decide) (getD_true (by decide));rw[vs5]at hv;exact hv⟩
  ·exact⟨_,m5 ⟨9,118,29,8⟩ (by simp[ins6]) (getD_true (by decide)),by have hv:=h.val (8,29) (by decide) (getD_true (by decide));rw[vs8]at hv;exact hv⟩
  ·exact⟨_,m5 ⟨12,99,31,11⟩ (by simp[ins6]) (getD_true (by decide)),by have hv:=h.val (11,31) (by decide) (getD_true (by decide));rw[vs11]at hv;exact hv⟩
  ·exact⟨_,m5 ⟨15,97,33,14⟩ (by simp[ins6]) (getD_true (by decide)),by have hv:=h.val (14,33) (by decide) (getD_true (by decide));rw[vs14]at hv;exact hv⟩
  ·exact⟨_,m5 ⟨18,111,35,17⟩ (by simp[ins6]) (getD_true (by decide)),by have hv:=h.val (17,35) (by decide) (getD_true (by decide));rw[vs17]at hv;exact hv⟩
  ·exact⟨_,m5 ⟨21,105,37,20⟩ (by simp[ins6]) (getD_true (by decide)),by have hv:=h.val (20,37) (by decide) (getD_true (by decide));rw[vs20]at hv;exact hv⟩
  ·exact⟨_,m5 ⟨27,115,42,26⟩ (by simp[ins6]) (getD_true (by decide)),by have hv:=h.val (26,42) (by decide) (getD_true (by decide));rw[vs26]at hv;exact hv⟩
  ·exact⟨_,m5 ⟨33,98,47,32⟩ (by simp[ins6]) (getD_true (by decide)),by have hv:=h.val (32,47) (by decide) (getD_true (by decide));rw[vs32]at hv;exact hv⟩
  ·exact⟨_,m5 ⟨38,101,51,37⟩ (by simp[ins6]) (getD_true (by decide)),by have hv:=h.val (37,51) (by decide) (getD_true (by decide));rw[vs37]at hv;exact hv⟩
  ·exact⟨_,m5 ⟨43,100,55,42⟩ (by simp[ins6]) (getD_true (by decide)),by have hv:=h.val (42,55) (by decide) (getD_true (by decide));rw[vs42]at hv;exact hv⟩
  ·exact⟨_,m5 ⟨47,106,58,46⟩ (by simp[ins6]) (getD_true (by decide)),by have hv:=h.val (46,58) (by decide) (getD_true (by decide));rw[vs46]at hv;exact hv⟩
end Go.Proofs.YtchfcgilpjkmhaaGreatDoor
namespace Go.Proofs.YtchfcgilpjkmhaaGreatDoor
def keyL:List Nat:= [119,108,114,118,99,97,111,105,115,98,101,100,106]
def insBs:List (List Nat):=(List.range 26).map fun(n:Nat)=>(insL (n:Int)).data.toList.map (·.toNat)
theorem insBs_ok:(insBs.all fun l=>l.all fun b=>keyL.contains b)=true:=by kernel_rfl
theorem insL_key(n:Int):∀b∈(insL n).data.toList,b.toNat∈keyL:=by
 by_cases h:n<1∨n>25
 ·rw[insL_far h];intro b hb;cases hb
 ·have hn:n.toNat<26:=by omega
  have h1:=List.all_eq_true.1 insBs_ok ((insL n.toNat).data.toList.map (·.toNat)) (List.mem_map.2 ⟨n.toNat,List.mem_range.2 hn,rfl⟩);rw[Int.toNat_of_nonneg (by omega)]at h1;intro b hb;have h2:=List.all_eq_true.1 h1 b.toNat (List.mem_map.2 ⟨b,hb,rfl⟩);exact List.contains_iff_mem.1 h2
theorem keyL_ascii:∀k∈keyL,k<128:=by decide
end Go.Proofs.YtchfcgilpjkmhaaGreatDoor
namespace Go.Proofs.YtchfcgilpjkmhaaGreatDoor
open Go.ChangeShapes Go.WideShapes Go.ChangeAt Go.RowKit
def letOk(p:PartV)(n:Int)(x:InsV)(k:Nat)(v:Int):Bool:=
 if k=119 then witP 1 2000 v else if k=108 then lOk p x.a v else if k=114 then decide (v<4)else if k=118 then decide (v<256)else if k=99 then decide (v<256)
 else if k=97 then decide (v<4096)else if k=111 then portOk p true v else if k=105 then portOk p false v else if k=115 then decide (v<(p.semas.l.length:Int))
 else if k=98 then decide (v<(p.bufs.l.length:Int))else if k=101 then decide (v<p.ev)else if k=100 then decide (v<p.bo)else decide (v<n)
theorem below_let{C:Ctx}{w:World}{v:Value}{n:Int}(h:IsBelow C n v w)(m:Int):∃f lb,v= .func (.func f) #[] lb∧(∀args w,(callFunc f args).run Tryz.prog w= .ok (.enter f args) w)∧∀W,Below w.heap.size w W→Calls Tryz.prog f (#[.int .i64 m]++lb) W fun e W'=>e= .returned (.bool (decide (m<n)))∧Below W.heap.size W W':=by
 obtain⟨b,rfl,hc⟩:=h;exact⟨_,_,rfl,enters_of Tryz.func167 kz rfl,fun W hW=>below1_c n m b W ((hW.cell (p:=⟨b,0,none⟩) (World.block_lt_of_cell? w _ hc)).trans hc)⟩
theorem port_let{C:Ctx}{w:World}{v:Value}{o:Bool}(h:IsPort C o v w)(hp:C.p.bk w C.g3)(hr:RdPort w w.heap.size C.p.ports.a C.p.ports.l)(m:Nat):∃f lb,v= .func (.func f) #[] lb∧(∀args w,(callFunc f args).run Tryz.prog w= .ok (.enter f args) w)∧∀W,Below w.heap.size w W→Calls Tryz.prog f (#[.int .i64 (m:Int)]++lb) W fun e W'=>e= .returned (.bool (portOk C.p o m))∧Below W.heap.size W W':=by
 obtain⟨b,rfl,hc⟩:=h;exact⟨_,_,rfl,enters_of Tryz.func165 kz rfl,fun W hW=>port1_c C.p o m C.g3 b W (hp.below hW hp.lt) ((hW.cell (p:=⟨b,0,none⟩) (World.block_lt_of_cell? w _ hc)).trans hc) (hr.below hW)⟩
theorem let_c(C:Ctx)(x:InsV){w:World}{mb:Nat}{D:DataW Value}(h:Fns6 C w mb D)(hp:C.p.bk w C.g3)(hx:x.bk w C.g5)(hr:RdPort w w.heap.size C.p.ports.a C.p.ports.l)(hxa:0≤x.a)(k:Nat)(hk:k∈keyL)(m:Nat):
 ∃f lb,D.atKey (kI k) noFn= .held (.func (.func f) #[] lb)∧(∀args w,(callFunc f args).run Tryz.prog w= .ok (.enter f args) w)∧∀W,Below w.heap.size w W→Calls Tryz.prog f (#[.int .i64 (m:Int)]++lb) W fun e W'=>e= .returned (.bool (letOk C.p C.n x k m))∧Below W.heap.size W W':=by
 have hB:∀{n:Int},(∃v,D.atKey (kI k) noFn= .held v∧IsBelow C n v w)→letOk C.p C.n x k m=decide ((m:Int)<n)→∃f lb,D.atKey (kI k) noFn= .held (.func (.func f) #[] lb)∧(∀args w,(callFunc f args).run Tryz.prog w= .ok (.enter f args) w)∧∀W,Below w.heap.size w W→Calls Tryz.prog f (#[.int .i64 (m:Int)]++lb) W fun e W'=>e= .returned (.bool (letOk C.p C.n x k m))∧Below W.heap.size W W':=by
  rintro n ⟨v,hv,hs⟩ he;obtain⟨f,lb,rfl,hen,hc⟩:=below_let hs m;exact⟨f,lb,hv,hen,fun W hW=>by rw[he];exact hc W hW⟩
 have hP:∀{o:Bool},(∃v,D.atKey (kI k) noFn= .held v∧IsPort C o v w)→letOk C.p C.n x k m=portOk C.p o m→∃f lb,D.atKey (kI k) noFn= .held (.func (.func f) #[] lb)∧(∀args w,(callFunc f args).run Tryz.prog w= .ok (.enter f args) w)∧∀W,Below w.heap.size w W→Calls Tryz.prog f (#[.int .i64 (m:Int)]++lb) W fun e W'=>e= .returned (.bool (letOk C.p C.n x k m))∧Below W.heap.size W W':=by
  rintro o ⟨v,hv,hs⟩ he;obtain⟨f,lb,rfl,hen,hc⟩:=port_let hs hp hr m;exact⟨f,lb,hv,hen,fun W hW=>by rw[he];exact hc W hW⟩
 simp only[keyL,List.mem_cons,List.not_mem_nil,or_false]at hk;rcases hk with rfl | rfl | rfl | rfl | rfl | rfl | rfl | rfl | rfl | rfl | rfl | rfl | rfl
 ·exact⟨_,#[],h.fw,enters_of Tryz.func168 kz rfl,fun W hW=>wIns_c m W⟩
 ·obtain⟨v,hv,rfl⟩:=h.fl
  obtain⟨q,hq⟩:=Int.eq_ofNat_of_zero_le hxa;refine⟨_,_,hv,enters_of Tryz.func169 kz rfl,fun W hW=> ?_⟩;have:=lIns_c C.p x q hq m C.g5 C.g3 W (hx.below hW hx.lt) (hp.below hW hp.lt) (hr.below hW);rw[←hq]at this;exact this
 ·exact hB h.fr rfl
 ·exact hB h.fv (by simp[letOk])
 ·exact hB h.fc (by simp[letOk])
 ·exact hB h.fa (by simp[letOk])
 ·exact hP h.fo rfl
 ·exact hP h.fi rfl
 ·exact hB h.fs rfl
 ·exact hB h.fb rfl
 ·exact hB h.fe rfl
 ·exact hB h.fd rfl
 ·exact hB h.fj rfl
theorem below_iterAt{B:Nat}{w W:World}(h:Below B w W)(k:Nat)(hk:B≤k)(s:ByteArray)(q:Nat):Below B w (W.iterAt k s q):=by
 refine h.trans ⟨rfl,rfl,rfl,by simp[World.iterAt],fun i hi=> ?_⟩;simp only[World.iterAt];rw[Array.getElem?_setIfInBounds_ne (by omega)]
theorem FnMap.below{B:Nat}{w w':World}{b n:Nat}{D:DataW Value}(h:FnMap w b n D)(hb:Below B w w')(hlt:b<B):FnMap w' b n D:=by
 obtain⟨⟨es,clock,h1,h2⟩,h3⟩:=h;exact⟨⟨es,clock,(hb.block b hlt).trans h1,h2⟩,h3⟩
theorem insP_nonneg{x:InsV}(h:insP x=true):0≤x.a∧0≤x.b∧0≤x.d:=by
 simp only[insP,Bool.and_eq_true,List.all_eq_true]at h;obtain⟨_,h1,h2⟩:=h;have hall:∀v∈ [x.a,x.b,x.d],0≤v:=fun v hv=>by
  rw[←List.take_append_drop (insL x.op).size [x.a,x.b,x.d]]at hv;rcases List.mem_append.1 hv with hv | hv
  ·have:=h1 v hv
   simp[numP,witP]at this;omega
  ·have:=h2 v hv
   simp at this;omega
 exact⟨hall _ (by simp),hall _ (by simp),hall _ (by simp)⟩
def letL(x:InsV):List (UInt8×Int):=(insL x.op).data.toList.zip [x.a,x.b,x.d]
def insOkB(p:PartV)(n:Int)(x:InsV):Bool:=insP x&&(letL x).all fun q=>letOk p n x q.1.toNat q.2
theorem letL_len(x:InsV):(letL x).length=(insL x.op).size:=by
 have h:=insL_size x.op;unfold letL;generalize insL x.op=t at *;rw[List.length_zip];have e:t.data.toList.length=t.size:=Array.length_toList;have e3: [x.a,x.b,x.d].length=3:=rfl;omega
theorem all_take_next{α:Type}{l:List α}{p:α→Bool}{k:Nat}(hk:k<l.length)(h:(l.take k).all p=true)(hp:p l[k]=true):(l.take (k+1)).all p=true:=by
 rw[List.take_succ_eq_append_getElem hk,List.all_append,h];simp[hp]
theorem all_false_at{α:Type}{l:List α}{p:α→Bool}{k:Nat}(hk:k<l.length)(hp:p l[k]=false):l.all p=false:=by
 cases h:l.all p with
 | false=>rfl
 | true=>rw[List.all_eq_true.1 h _ (List.getElem_mem hk)]at hp;cases hp
end Go.Proofs.YtchfcgilpjkmhaaGreatDoor
