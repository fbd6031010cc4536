import Derived.Lib.OthersKept
import Derived.Test.YtchfcgilpjkmhaaGreatDoorY15
import Derived.Test.YtchfcgilpjkmhaaGreatDoorY23
import Derived.Test.YtchfcgilpjkmhaaGreatDoorY25
import Derived.Test.YtchfcgilpjkmhaaGreatDoorY27
import Derived.Test.YtchfcgilpjkmhaaGreatDoorY28
import Derived.Test.YtchfcgilpjkmhaaGreatDoorY29
import Derived.Test.YtchfcgilpjkmhaaGreatDoorY30
import Derived.Test.YtchfcgilpjkmhaaGreatDoorY31
import Derived.Test.YtchfcgilpjkmhaaGreatDoorY34
import Derived.Test.YtchfcgilpjkmhaaGreatDoorY0
import Derived.Test.YtchfcgilpjkmhaaGreatDoorY1
set_option maxRecDepth 100000
set_option linter.unusedSimpArgs false
set_option linter.unusedVariables false
set_option linter.unusedSectionVars false
namespace Go.Proofs.YtchfcgilpjkmhaaGreatDoor
open Go.ChangeShapes Go.WideShapes Go.ChangeAt Go.RowKit
attribute [local go_sem] Oper.semAt_some
def CkA(w:World)(g:Nat)(A:Option Addr)(n c:Nat):Prop:=∃v0 v1 v2 v3 v4 v5 v7,Blk w g 106 #[v0,v1,v2,v3,v4,v5,.slice A n c,v7]
theorem CkA.lt{w:World}{g:Nat}{A:Option Addr}{n c:Nat}(h:CkA w g A n c):g<w.heap.size:=let ⟨_,_,_,_,_,_,_,h⟩:=h;h.lt
theorem CkA.cell6{w:World}{g:Nat}{A:Option Addr}{n c:Nat}(h:CkA w g A n c):w.cell? ⟨g,6,none⟩=some (.slice A n c):=let ⟨_,_,_,_,_,_,_,h⟩:=h;h.cell 6
theorem CkA.alloc{w:World}{g:Nat}{A:Option Addr}{n c:Nat}(h:CkA w g A n c)(o:Obj):CkA (w.alloc o) g A n c:=let ⟨_,_,_,_,_,_,_,h⟩:=h;⟨_,_,_,_,_,_,_,h.alloc o⟩
theorem CkA.below{w w':World}{g:Nat}{A:Option Addr}{n c:Nat}(h:CkA w g A n c)(hb:Below w.heap.size w w'):CkA w' g A n c:=let ⟨_,_,_,_,_,_,_,h⟩:=h;⟨_,_,_,_,_,_,_,h.below hb h.lt⟩
theorem CkG.a{w:World}{g:Nat}{x:CfgV}(h:CkG w g x):CkA w g x.causes.a x.causes.l.length x.causes.c:=⟨_,_,_,_,_,_,_,h⟩
structure ClsInG(w:World)(g Br Bk B5 B6:Nat)(A:Option Addr)(L:List CsV)(c:Nat)(AR:Option Addr)(R:List CsV)(cR:Nat):Prop where
 k:Blk w Bk 104 #[.pointer (some ⟨g,0,none⟩)]
 ck:CkA w g A L.length c
 rl:RdCs w w.heap.size A L
 br:Blk w Br 28 #[.slice AR R.length cR]
 rr:RdCs w w.heap.size AR R
 b5:Blk w B5 185 #[.func (.func 94) #[] #[.pointer (some ⟨Br,0,none⟩)]]
 b6:Blk w B6 185 #[.func (.func 97) #[] #[.pointer (some ⟨Bk,0,none⟩)]]
 ll:L.length≤1000
 lr:R.length≤1000
section
variable {w w':World} {g Br Bk B5 B6:Nat} {A:Option Addr} {L:List CsV} {c:Nat} {AR:Option Addr} {R:List CsV} {cR:Nat}
theorem ClsInG.below(h:ClsInG w g Br Bk B5 B6 A L c AR R cR)(hb:Below w.heap.size w w'):ClsInG w' g Br Bk B5 B6 A L c AR R cR:=
 ⟨h.k.below hb h.k.lt,CkA.below h.ck hb,h.rl.below hb,h.br.below hb h.br.lt,h.rr.below hb,h.b5.below hb h.b5.lt,h.b6.below hb h.b6.lt,h.ll,h.lr⟩
theorem open125G(u:ByteArray)(w:World)(h:ClsInG w g Br Bk B5 B6 A L c AR R cR):CU 94 #[.string u,.pointer (some ⟨Br,0,none⟩)] w (.bool (hasU R u)):=by
 have h1:=h.below (w':=w.alloc (.cells #[.string u] 9)) ((Below.refl _ w).alloc (Nat.le_refl _) _);have hbu:=Blk.new w 9 #[.string u];have hcon:=containsCs126 96 #[.pointer (some ⟨w.heap.size,0,none⟩)] (fun x=>seqB x.c.unit u) (enters_of Tryz.func96 kz rfl) R AR cR (w.alloc (.cells #[.string u] 9))
  (fun W x hx hW _=>is127 _ u x W (hbu.below hW hbu.lt)) h1.rr (by have:=h.lr;omega)
 have hcon:CU 95 #[.slice AR R.length cR,.func (.func 96) #[] #[.pointer (some ⟨w.heap.size,0,none⟩)]] (w.alloc (.cells #[.string u] 9)) (.bool (hasU R u)):=hcon
 have c0:(w.alloc (.cells #[.string u] 9)).cell? ⟨Br,0,none⟩=some (.slice AR R.length cR):=h1.br.cell 0;have Hcon:=lz hcon;have hlt:=h.br.lt;generalize hasU R u=q at *;clear hcon h1 hbu h;go_enter Tryz.func94,Tryz.ntmps94;go_wp2_with fail;refine Hcon.out.mono ?_;rintro e w1 ⟨rfl,hb1⟩;have HB:=lz (((Below.refl _ w).alloc (Nat.le_refl _) (.cells #[.string u] 9)).trans (hb1.mono (by simp)));clear hb1 Hcon;go_wp2;go_ret;exact⟨rfl,HB.out⟩
theorem known128G(u:ByteArray)(w:World)(h:ClsInG w g Br Bk B5 B6 A L c AR R cR):CU 97 #[.string u,.pointer (some ⟨Bk,0,none⟩)] w (.bool (hasU L u)):=by
 have h1:=h.below (w':=w.alloc (.cells #[.string u] 9)) ((Below.refl _ w).alloc (Nat.le_refl _) _);have hbu:=Blk.new w 9 #[.string u];have hcon:=containsCs126 98 #[.pointer (some ⟨w.heap.size,0,none⟩)] (fun x=>seqB x.c.unit u) (enters_of Tryz.func98 kz rfl) L A c (w.alloc (.cells #[.string u] 9))
  (fun W x hx hW _=>is129 _ u x W (hbu.below hW hbu.lt)) h1.rl (by have:=h.ll;omega)
 have hcon:CU 95 #[.slice A L.length c,.func (.func 98) #[] #[.pointer (some ⟨w.heap.size,0,none⟩)]] (w.alloc (.cells #[.string u] 9)) (.bool (hasU L u)):=hcon
 have c0:(w.alloc (.cells #[.string u] 9)).cell? ⟨Bk,0,none⟩=some (.pointer (some ⟨g,0,none⟩)):=h1.k.cell 0;have c6:(w.alloc (.cells #[.string u] 9)).cell? ⟨g,6,none⟩=some (.slice A L.length c):=CkA.cell6 h1.ck;have Hcon:=lz hcon;have hlt:=h.k.lt;generalize hasU L u=q at *;clear hcon h1 hbu h;go_enter Tryz.func97,Tryz.ntmps97;go_wp2_with fail;refine Hcon.out.mono ?_;rintro e w1 ⟨rfl,hb1⟩;have HB:=lz (((Below.refl _ w).alloc (Nat.le_refl _) (.cells #[.string u] 9)).trans (hb1.mono (by simp)));clear hb1 Hcon;go_wp2;go_ret;exact⟨rfl,HB.out⟩
theorem fine133G(u:ByteArray)(w:World)(h:ClsInG w g Br Bk B5 B6 A L c AR R cR):CU 102 #[.string u,.pointer (some ⟨B6,0,none⟩),.pointer (some ⟨B5,0,none⟩)] w (.bool (hasU L u&& !hasU R u)):=by
 have hk:=known128G u w h;have ho:=fun W (hW:Below w.heap.size w W)=>open125G u W (h.below hW)
 have c6:w.cell? ⟨B6,0,none⟩=some (.func (.func 97) #[] #[.pointer (some ⟨Bk,0,none⟩)]):=h.b6.cell 0;have c5:=fun W (hW:Below w.heap.size w W)=>(h.below hW).b5.cell 0
 have Hk:=lz hk;have Ho:=lz ho;have H5:=lz c5;clear hk ho c5 h
 cases hq:hasU L u with
 | false=>
  rw[hq]at Hk;clear hq;go_enter Tryz.func102,Tryz.ntmps102;go_wp2_with fail;refine Hk.out.mono ?_;rintro e w1 ⟨rfl,hb1⟩;go_wp2_with fail;go_ret;exact⟨rfl,hb1⟩
 | true=>
  rw[hq]at Hk;clear hq;generalize hasU R u=q at *;go_enter Tryz.func102,Tryz.ntmps102;go_wp2_with fail;refine Hk.out.mono ?_;rintro e w1 ⟨rfl,hb1⟩;have d5:w1.cell? ⟨B5,0,none⟩=some (.func (.func 94) #[] #[.pointer (some ⟨Br,0,none⟩)]):=H5.out w1 hb1;have Hoo:=lz (Ho.out w1 hb1);clear H5 Ho Hk;go_wp2_with fail;refine Hoo.out.mono ?_;rintro e w2 ⟨rfl,hb2⟩;have HB:=lz (hb1.trans (hb2.mono hb1.size));clear hb1 hb2;go_wp2_with fail;go_ret;exact⟨by cases q<;>rfl,HB.out⟩
theorem opens131G(Bx:Nat)(x y:CsV)(w:World)(h:ClsInG w g Br Bk B5 B6 A L c AR R cR)(hx:Blk w Bx 48 #[.string x.c.unit,.slice x.n.a x.n.n x.n.c,.slice x.x.a x.x.n x.x.c])(hy:y.rd w w.heap.size)(hyl:y.c.excl.length≤1000):
 CU 100 #[y.val,.pointer (some ⟨Bx,0,none⟩),.pointer (some ⟨B6,0,none⟩),.pointer (some ⟨B5,0,none⟩)] w (.bool (openV L R x y)):=by
 have hB1:Below w.heap.size w (w.alloc (.cells #[.string y.c.unit,.slice y.n.a y.n.n y.n.c,.slice y.x.a y.x.n y.x.c] 48)):=(Below.refl _ w).alloc (Nat.le_refl _) _;have h1:=h.below hB1;have hal:=all_132 102 #[.pointer (some ⟨B6,0,none⟩),.pointer (some ⟨B5,0,none⟩)] (fun u=>hasU L u&& !hasU R u) (enters_of Tryz.func102 kz rfl) y.c.excl y.x.a y.x.c _ (fun W u hu hW=>fine133G u W (h1.below hW)) (hy.below hB1).x (by omega);rw[←hy.xl]at hal;have c0:(w.alloc (.cells #[.string y.c.unit,.slice y.n.a y.n.n y.n.c,.slice y.x.a y.x.n y.x.c] 48)).cell? ⟨Bx,0,none⟩=some (.string x.c.unit):=(hx.alloc _).cell 0;have hal:CU 101 #[.slice y.x.a y.x.n y.x.c,.func (.func 102) #[] #[.pointer (some ⟨B6,0,none⟩),.pointer (some ⟨B5,0,none⟩)]] (w.alloc (.cells #[.string y.c.unit,.slice y.n.a y.n.n y.n.c,.slice y.x.a y.x.n y.x.c] 48)) (.bool (fineV L R y)):=hal
 have Hal:=lz hal;have hlt:=hx.lt;have HB1:=lz hB1;unfold openV;generalize fineV L R y=q at *;clear hal h1 hB1 h hx hy;dsimp only[CsV.val]
 cases hs:seqB y.c.unit x.c.unit with
 | false=>
  have hs':(y.c.unit.toList==x.c.unit.toList)=false:=hs;clear hs;go_enter Tryz.func100,Tryz.ntmps100;go_wp2_with fail;go_ret;exact⟨rfl,HB1.out⟩
 | true=>
  have hs':(y.c.unit.toList==x.c.unit.toList)=true:=hs;clear hs;go_enter Tryz.func100,Tryz.ntmps100;go_wp2_with fail;refine Hal.out.mono ?_;rintro e w1 ⟨rfl,hb1⟩;have HB:=lz (HB1.out.trans (hb1.mono (by simp)));clear hb1 Hal;go_wp2_with fail;go_ret;exact⟨by cases q<;>rfl,HB.out⟩
theorem stays130G(x:CsV)(w:World)(h:ClsInG w g Br Bk B5 B6 A L c AR R cR)(hl:∀y∈R,y.c.excl.length≤1000):
 CU 99 #[x.val,.pointer (some ⟨Br,0,none⟩),.pointer (some ⟨B6,0,none⟩),.pointer (some ⟨B5,0,none⟩)] w (.bool (staysV L R x)):=by
 have hB1:Below w.heap.size w (w.alloc (.cells #[.string x.c.unit,.slice x.n.a x.n.n x.n.c,.slice x.x.a x.x.n x.x.c] 48)):=(Below.refl _ w).alloc (Nat.le_refl _) _;have h1:=h.below hB1;have hbx:=Blk.new w 48 #[.string x.c.unit,.slice x.n.a x.n.n x.n.c,.slice x.x.a x.x.n x.x.c];have hcon:=containsCs126 100 #[.pointer (some ⟨w.heap.size,0,none⟩),.pointer (some ⟨B6,0,none⟩),.pointer (some ⟨B5,0,none⟩)] (fun y=>openV L R x y) (enters_of Tryz.func100 kz rfl) R AR cR _
  (fun W y hy hW hrd=>opens131G w.heap.size x y W (h1.below hW) (hbx.below hW hbx.lt) hrd (hl y hy)) h1.rr (by have:=h.lr;omega)
 have hcon:CU 95 #[.slice AR R.length cR,.func (.func 100) #[] #[.pointer (some ⟨w.heap.size,0,none⟩),.pointer (some ⟨B6,0,none⟩),.pointer (some ⟨B5,0,none⟩)]] (w.alloc (.cells #[.string x.c.unit,.slice x.n.a x.n.n x.n.c,.slice x.x.a x.x.n x.x.c] 48)) (.bool (staysV L R x)):=hcon
 have c0:(w.alloc (.cells #[.string x.c.unit,.slice x.n.a x.n.n x.n.c,.slice x.x.a x.x.n x.x.c] 48)).cell? ⟨Br,0,none⟩=some (.slice AR R.length cR):=h1.br.cell 0;have Hcon:=lz hcon;have hlt:=h.br.lt;have HB1:=lz hB1;generalize staysV L R x=q at *;clear hcon h1 hbx hB1 h hl;dsimp only[CsV.val];go_enter Tryz.func99,Tryz.ntmps99;go_wp2_with fail;refine Hcon.out.mono ?_;rintro e w1 ⟨rfl,hb1⟩;have HB:=lz (HB1.out.trans (hb1.mono (by simp)));clear hb1 Hcon;go_wp2;go_ret;exact⟨rfl,HB.out⟩
end
structure CauRG(w:World)(g:Nat)(A:Option Addr)(L:List CsV)(c:Nat)(AR:Option Addr)(R:List CsV)(cR:Nat)(W:World):Prop where
 below:Below w.heap.size w W
 k:Blk W w.heap.size 104 #[.pointer (some ⟨g,0,none⟩)]
 br:Blk W (w.heap.size+1) 28 #[.slice AR R.length cR]
 rr:RdCs W W.heap.size AR R
 sub:∀x∈R,x∈L
 lr:R.length≤L.length
set_option maxHeartbeats 2000000 in
theorem causes_bG(b:Bool)(g:Nat)(A:Option Addr)(L:List CsV)(c:Nat)(F:Nat)(w:World)(h:CkA w g A L.length c)(hr:RdCs w w.heap.size A L)(hl:L.length≤1000)(hx:∀x∈L,x.c.excl.length≤1000)(hrd:∀x∈L,x.rd w w.heap.size)(hrun:runO L F (-1) L=some b):
 CU 32 #[.pointer (some ⟨g,0,none⟩)] w (.bool b):=by
 obtain⟨w1,hw1⟩:∃w1,w1=(w.alloc (.cells #[.pointer (some ⟨g,0,none⟩)] 104)).alloc (.cells #[.slice A L.length c] 28):=⟨_,rfl⟩;have hB1:Below w.heap.size w w1:=by rw[hw1];exact((Below.refl _ w).alloc (Nat.le_refl _) _).alloc (by simp) _
 have hk1:Blk w1 w.heap.size 104 #[.pointer (some ⟨g,0,none⟩)]:=by rw[hw1];exact(Blk.new w _ _).alloc _
 have hb1:Blk w1 (w.heap.size+1) 28 #[.slice A L.length c]:=by
  rw[hw1];have:=Blk.new (w.alloc (.cells #[.pointer (some ⟨g,0,none⟩)] 104)) 28 #[.slice A L.length c]
  rwa[World.size_alloc]at this
 have Hst:Hid (CauRG w g A L c A L c w1):=lz (⟨hB1,hk1,hb1,hr.below hB1,fun x h=>h,Nat.le_refl _⟩);have c6:(w.alloc (.cells #[.pointer (some ⟨g,0,none⟩)] 104)).cell? ⟨g,6,none⟩=some (.slice A L.length c):=CkA.cell6 (CkA.alloc h _);have hlt:g<w.heap.size:=CkA.lt h;have Hw1:=lz hw1;have H:=lz h;have Hr:=lz hr;have Hx:=lz hx;have Hrd:=lz hrd;have Hrun:=lz hrun;clear hw1 hB1 hk1 hb1 h hr hx hrd hrun;go_enter Tryz.func32,Tryz.ntmps32;go_wp2_with fail;rw[←Hw1.out];go_loopw [4] (fun t wr=>∃(f:Nat) (n:Int) (R:List CsV) (AR:Option Addr) (cR:Nat),t= .int .i64 n∧Hid (runO L f n R=some b)∧CauRG w g A L c AR R cR wr∧f≤F) (fun t wr=>mesC t (wr.cell? ⟨w.heap.size+1,0,none⟩))
 case atStart=>exact⟨F,-1,L,A,c,rfl,Hrun,Hst.out,Nat.le_refl _⟩
 case round=>
  clear Hst Hrun c6;obtain⟨f,n,R,AR,cR,rfl,hrun,hS,hf⟩:=hrel;generalize wr=w4 at *;have hm0:w4.cell? ⟨w.heap.size+1,0,none⟩=some (.slice AR R.length cR):=hS.br.cell 0;have Hm0:=lz hm0;by_cases hn:n=R.length
  ·have h0:=runO_end hrun.out hn
   have hd:((R.length:Int)==0)=b:=by rw[←h0,Bool.eq_iff_iff];simp
   have hne:(n !=(R.length:Int))=false:=by rw[hn];simp
   have hbl:=hS.below;clear hrun hS h0 hn;go_wp2_with fail;go_ret;exact⟨rfl,hbl⟩
  ·obtain⟨f',rfl,hnx⟩:=runO_next hrun.out hn
   have hne:(n !=(R.length:Int))=true:=by simpa using hn
   obtain⟨w5,hw5⟩:∃w5,w5=(w4.alloc (.cells #[.func (.func 94) #[] #[.pointer (some ⟨w.heap.size+1,0,none⟩)]] 185)).alloc (.cells #[.func (.func 97) #[] #[.pointer (some ⟨w.heap.size,0,none⟩)]] 185):=⟨_,rfl⟩;have hB5:Below w4.heap.size w4 w5:=by rw[hw5];exact((Below.refl _ w4).alloc (Nat.le_refl _) _).alloc (by simp) _
   have hb5:Blk w5 w4.heap.size 185 #[.func (.func 94) #[] #[.pointer (some ⟨w.heap.size+1,0,none⟩)]]:=by rw[hw5];exact(Blk.new w4 _ _).alloc _
   have hb6:Blk w5 (w4.heap.size+1) 185 #[.func (.func 97) #[] #[.pointer (some ⟨w.heap.size,0,none⟩)]]:=by
    rw[hw5];have:=Blk.new (w4.alloc (.cells #[.func (.func 94) #[] #[.pointer (some ⟨w.heap.size+1,0,none⟩)]] 185)) 185 #[.func (.func 97) #[] #[.pointer (some ⟨w.heap.size,0,none⟩)]]
    rwa[World.size_alloc]at this
   have hbw5:Below w.heap.size w w5:=hS.below.trans (hB5.mono hS.below.size);have hcl:ClsInG w5 g (w.heap.size+1) w.heap.size w4.heap.size (w4.heap.size+1) A L c AR R cR:=
    ⟨hS.k.below hB5 hS.k.lt,CkA.below H.out hbw5,Hr.out.below hbw5,hS.br.below hB5 hS.br.lt,hS.rr.below hB5,hb5,hb6,hl,by have:=hS.lr;omega⟩
   have hwz:w.heap.size+1<w4.heap.size:=hS.br.lt;have hlr:=hS.lr;have Hcl:=lz hcl;have Hbw5:=lz hbw5;have Hw5:=lz hw5;have Hnx:=lz hnx;have Hsub:=lz hS.sub;have hz5:w5.heap.size=w4.heap.size+2:=by rw[hw5];simp
   have m5:w5.cell? ⟨w.heap.size+1,0,none⟩=some (.slice AR R.length cR):=hcl.br.cell 0;have hz5':=hz5;have Hz5:=lz hz5';have hmm:((w4.alloc (.cells #[.func (.func 94) #[] #[.pointer (some ⟨w.heap.size+1,0,none⟩)]] 185)).alloc (.cells #[.func (.func 97) #[] #[.pointer (some ⟨w.heap.size,0,none⟩)]] 185)).cell? ⟨w.heap.size+1,0,none⟩=some (.slice AR R.length cR):=by rw[←hw5];exact m5
   clear hnx hcl hbw5 hw5 hb5 hb6 hB5 hS hrun hz5' hz5;go_wp2_with fail;rw[←Hw5.out];go_loopw [8,27] (fun v t W=>∃k:Nat,k≤R.length∧t= .int .i64 k∧Below w5.heap.size w5 W∧W.ownsRow w5.heap.size 48 3 v ((R.take k).filter (staysV L R)).length (((R.take k).filter (staysV L R)).flatMap CsV.cells)) (fun _ t W=>R.length-(intOf t).toNat)
   case atStart=>exact⟨0,Nat.zero_le _,rfl,Below.refl _ _,World.ownsRow_nil _ _ _ _⟩
   case round=>
    obtain⟨k,hk,rfl,hB,hown⟩:=hrel;generalize wr=W at *;obtain⟨Av,cv,rfl,_⟩:=own_caps hown;have hwz5:w.heap.size+1<w5.heap.size:=by have:=Hz5.out;omega
    have hsW:=hB.size;by_cases hlt2:k<R.length
    ·obtain⟨b,o,rfl,hb,hc⟩:=(Hcl.out.rr.keep hB) (by omega)
     obtain⟨d0,d1,d2,_⟩:=hc k hlt2;have hyes:=fun h=>filt_yes (p:=staysV L R) hlt2 h
     have hno:=fun h=>filt_no (p:=staysV L R) hlt2 h
     have hN:=filt_len (p:=staysV L R) (R:=R) (k:=k);have hbs:b<W.heap.size:=World.block_lt_of_cell? W _ d0;have hcalls:=fun x=>stays130G x (W.alloc (.cells #[.string R[k].c.unit,.slice R[k].n.a R[k].n.n R[k].n.c,.slice R[k].x.a R[k].x.n R[k].x.c] 48)) ((Hcl.out.below hB).below ((Below.refl _ _).alloc (Nat.le_refl _) _)) (fun y hy=>Hx.out y (Hsub.out y hy))
     have hcall:=hcalls R[k];have Hyes:=lz hyes;have Hno:=lz hno;have Hown:=lz hown;have HB:=lz hB;clear hc hyes hno hown hB hcalls m5 hmm hm0;obtain⟨i0,hi0,hz0,hz1,hz2⟩:=info_parts info33;generalize (R.take k).filter (staysV L R)=N at *;generalize hR:R[k]=x at *;clear hR
     cases hq:staysV L R x with
     | true=>
      rw[hq]at hcall;have Hn:=lz (Hyes.out hq);have Hcall:=lz hcall;clear hcall hq Hyes Hno;go_wp2_with fail;refine Hcall.out.mono ?_;rintro e W2 ⟨rfl,hb2⟩;have hbW:Below W.heap.size W W2:=((Below.refl _ W).alloc (Nat.le_refl _) (.cells #[.string x.c.unit,.slice x.n.a x.n.n x.n.c,.slice x.x.a x.x.n x.x.c] 48)).trans (hb2.mono (by simp));have hx2:=(Blk.new W 48 #[.string x.c.unit,.slice x.n.a x.n.n x.n.c,.slice x.x.a x.x.n x.x.c]).below hb2 (by simp);have e0:W2.cell? ⟨W.heap.size,0,none⟩=some (.string x.c.unit):=hx2.cell 0;have e1:W2.cell? ⟨W.heap.size,1,none⟩=some (.slice x.n.a x.n.n x.n.c):=hx2.cell 1;have e2:W2.cell? ⟨W.heap.size,2,none⟩=some (.slice x.x.a x.x.n x.x.c):=hx2.cell 2;have Hown2:=lz (own_keep Hown.out (below_grown (row:=none) hbW) (fun r e=>by cases e));have HB2:=lz (HB.out.trans (hbW.mono HB.out.size));clear hb2 hbW hx2 Hcall;go_wp2_with (at_builtin;refine wpList_append_own _ rfl (.tmp 34) (.tmp 36) 28 rfl w5.heap.size 48 i0 (.agg #[.string ⟨#[]⟩,.slice none 0 0,.slice none 0 0]) 3 64 Tryz.underlying28 hi0 hz0 hz1 hz2 rfl (by decide) _ _ _ rfl (Hown2.out.alloc _) ⟨W2.heap.size,0,none⟩ 1 1 [.string x.c.unit,.slice x.n.a x.n.n x.n.c,.slice x.x.a x.x.n x.x.c] rfl rfl ?c1 ?c2 ?c3 ?c4 ?c5 ?_)
      case c1=>
       intro j u' hj;rw[addr_add_none,Nat.zero_add,(Blk.new W2 48 #[.string x.c.unit,.slice x.n.a x.n.n x.n.c,.slice x.x.a x.x.n x.x.c]).cell j];simpa using hj
      case c2=>intro u' hu';simp at hu';rcases hu' with rfl | rfl | rfl<;>rfl
      case c3=>unfold maxLen;omega
      case c4=>omega
      case c5=>have:=HB2.out.size;simp;omega
      intro v5 W5 hown5 hg5 _;have hb5:=(HB2.out.alloc HB2.out.size (.cells #[.string x.c.unit,.slice x.n.a x.n.n x.n.c,.slice x.x.a x.x.n x.x.c] 48)).grown hg5 (by have:=HB2.out.size;simp;omega) (fun g hg=>((Hown2.out.alloc (.cells #[.string x.c.unit,.slice x.n.a x.n.n x.n.c,.slice x.x.a x.x.n x.x.c] 48)).lt g hg).1);have HR:=lz (And.intro hb5 hown5);clear hown5 hg5 hb5;go_wp2_with fail;go_roundw
      case rel=>exact⟨k+1,by omega,by go_num,HR.out.1,by rw[Hn.out];simpa [CsV.cells]using HR.out.2⟩
      case measure=>simp[intOf];omega
     | false=>
      rw[hq]at hcall;have Hn:=lz (Hno.out hq);have Hcall:=lz hcall;clear hcall hq Hyes Hno;go_wp2_with fail;refine Hcall.out.mono ?_;rintro e W2 ⟨rfl,hb2⟩;have hbW:Below W.heap.size W W2:=((Below.refl _ W).alloc (Nat.le_refl _) (.cells #[.string x.c.unit,.slice x.n.a x.n.n x.n.c,.slice x.x.a x.x.n x.x.c] 48)).trans (hb2.mono (by simp));have Hown2:=lz (own_keep Hown.out (below_grown (row:=none) hbW) (fun r e=>by cases e));have HB2:=lz (HB.out.trans (hbW.mono HB.out.size));clear hb2 hbW Hcall;go_wp2_with fail;go_roundw
      case rel=>exact⟨k+1,by omega,by go_num,HB2.out,by rw[Hn.out];exact Hown2.out⟩
      case measure=>simp[intOf];omega
    ·obtain rfl:k=R.length:=by omega
     rw[List.take_length]at hown;have hkW:=Hcl.out.k.below hB (by omega);have hbrW:=Hcl.out.br.below hB (by omega);have brc:W.cell? ⟨w.heap.size+1,0,none⟩=some (.slice AR R.length cR):=hbrW.cell 0;have brf:W.frozen? ⟨w.heap.size+1,0,none⟩=false:=hbrW.frozen 0;have hNl:(R.filter (staysV L R)).length≤R.length:=List.length_filter_le _ _;have hsubN:∀x∈R.filter (staysV L R),x∈L:=fun x hx=>Hsub.out x (List.mem_filter.1 hx).1
     rw[show(List.filter (staysV L R) (List.take R.length R)).length=(R.filter (staysV L R)).length by rw[List.take_length]]at *;have Hnx2:=lz Hnx.out;have HsubN:=lz hsubN;have Hown:=lz hown;have HB:=lz hB;have HkW:=lz hkW;have HbrW:=lz hbrW;clear hown hB hkW hbrW hsubN m5 hmm hm0;generalize R.filter (staysV L R)=N at *;have hG:=Gr.setCell (X:=(· =w.heap.size+1)) W ⟨w.heap.size+1,0,none⟩ (.slice Av N.length cv) rfl;have hS2:Below w.heap.size w (W.setCell ⟨w.heap.size+1,0,none⟩ (.slice Av N.length cv)):=(Hbw5.out.trans (HB.out.mono Hbw5.out.size)).setCell (by simp) _;have hown2:=own_gr Hown.out hG (fun j hj e=>by have:=(Hown.out.lt j hj).1;omega);have hrr:=rdCs_own hown2 (fun x hx=>(Hrd.out x (HsubN.out x hx)).below hS2);have hst:CauRG w g A L c Av N cv (W.setCell ⟨w.heap.size+1,0,none⟩ (.slice Av N.length cv)):=
      ⟨hS2,HkW.out.far (by simp) _,by simpa using HbrW.out.set_ 0 (.slice Av N.length cv),hrr,HsubN.out,by omega⟩
     have Hm1:=lz (hst.br.cell 0);have Hst:=lz hst;clear hG hS2 hown2 hrr hst;go_wp2_with fail;go_roundw
     case rel=>exact⟨f',R.length,N,Av,cv,rfl,Hnx2,Hst.out,by omega⟩
     case measure=>
      rw[Hm1.out,Hm0.out,show(#[Value.slice Av N.length cv]:Array Value)[0]?=some (.slice Av N.length cv)from rfl,mesC_eq,mesC_eq,if_neg hn];split<;>omega
end Go.Proofs.YtchfcgilpjkmhaaGreatDoor
namespace Go.Proofs.YtchfcgilpjkmhaaGreatDoor
open Go.ChangeShapes Go.WideShapes Go.ChangeAt Go.RowKit
theorem word_len{s:ByteArray}(h:wordP s=true):s.size≤maxLen:=by
 unfold wordP at h;split at h
 ·cases h
 ·unfold maxLen;omega
structure FormOk(x:CfgV):Prop where
 mods:∀m∈x.mods.l,modP m=true
 chans:∀m∈x.chans.l,chanP m=true
 sws:∀m∈x.sws.l,nodeP m=true
 links:∀m∈x.links.l,linkP m=true
 vls:∀m∈x.vls.l,vlP m=true
 hea:∀m∈x.hea.l,healthP m=true
 causes:∀m∈x.causes.l,causeP m=true
 vers:∀m∈x.vers.l,vsnP m=true
theorem formOk{x:CfgV}(h:validP x=true):FormOk x:=by
 simp only[validP,Bool.and_eq_true,List.all_eq_true]at h;obtain⟨⟨⟨⟨⟨⟨⟨h1,h2⟩,h3⟩,h4⟩,h5⟩,h6⟩,h7⟩,h8⟩:=h;exact⟨h1,h2,h3,h4,h5,h6,h7,h8⟩
structure LimOk(x:CfgV):Prop where
 conns:∀y∈connsV x,y.dst.l.length≤8
 ml:x.mods.l.length≤4
 chl:x.chans.l.length≤16
 vl:x.vls.l.length≤16
 sl:x.sws.l.length≤8
 ll:x.links.l.length≤32
 hl:x.hea.l.length≤32
 cl:x.causes.l.length≤32
 mods:∀m∈x.mods.l,modLimP m=true
 sws:∀m∈x.sws.l,swLimP m=true
 causes:∀m∈x.causes.l,causeLimP m=true
theorem limOk{x:CfgV}(h:limitsP x=true):LimOk x:=by
 simp only[limitsP,countsP,Bool.and_eq_true,List.all_eq_true,decide_eq_true_eq]at h;obtain⟨h1,⟨⟨⟨⟨⟨⟨⟨⟨⟨c1,c2⟩,c3⟩,c4⟩,c5⟩,c6⟩,m⟩,s⟩,l⟩,c⟩⟩:=h;have c7:=c6 (x.hea.l.length:Int) (by simp);have c8:=c6 (x.causes.l.length:Int) (by simp);simp only[witP,Bool.and_eq_true,decide_eq_true_eq]at c7 c8;exact⟨fun y hy=>by have:=h1 y hy;simp only[connLimP,Bool.not_eq_true',decide_eq_false_iff_not]at this;omega,by omega,by omega,by omega,by omega,by omega,by omega,by omega,m,s,c⟩
theorem LimOk.part{x:CfgV}(h:LimOk x){y:MpV}(hy:y∈partsV x):partLimP y.2=true∧y.1.parts.l.length≤6:=by
 obtain⟨hm,hp⟩:=parts_mem (show(y.1,y.2)∈partsV x from hy);have h1:=h.mods _ hm;simp only[modLimP,Bool.and_eq_true,List.all_eq_true,decide_eq_true_eq]at h1;exact⟨h1.2 _ hp,by have:=h1.1.2;omega⟩
theorem partLim{p:PartV}(h:partLimP p=true):p.procs.l.length≤6∧p.ports.l.length≤8∧1≤p.pe∧∀q∈p.ports.l,1≤q.sz∧q.sz≤64:=by
 simp only[partLimP,Bool.and_eq_true,List.all_eq_true,decide_eq_true_eq]at h;obtain⟨⟨⟨⟨⟨_,⟨⟨⟨_,_⟩,c1⟩,c2⟩⟩,_⟩,c3⟩,c4⟩,_⟩:=h;have c5:=c3 p.pe (by simp);simp only[witP,Bool.and_eq_true,decide_eq_true_eq]at c5;refine⟨by omega,by omega,c5.1,fun q hq=> ?_⟩;have:=c4 q hq;simp only[pLimP,Bool.and_eq_true,List.all_cons,List.all_nil,witP,decide_eq_true_eq]at this;exact this.2.2.1
theorem FormOk.part{x:CfgV}(h:FormOk x){y:MpV}(hy:y∈partsV x):partP y.2=true:=by
 obtain⟨hm,hp⟩:=parts_mem (show(y.1,y.2)∈partsV x from hy);have h1:=h.mods _ hm;simp only[modP,Bool.and_eq_true,List.all_eq_true]at h1;exact h1.2 _ hp
theorem partForm{p:PartV}(h:partP p=true):wordP p.nm=true∧(∀q∈p.ports.l,portP q=true)∧∀q∈p.procs.l,procP q=true:=by
 simp only[partP,Bool.and_eq_true,List.all_eq_true]at h;exact⟨h.1.1.1.1.1,h.1.2,h.2⟩
theorem pe_ok{x:CfgV}(h:LimOk x):∀y∈partsV x,¬y.2.pe=0:=fun y hy=>by
 have:=(partLim (h.part hy).1).2.2.1;omega
theorem nmOk{x:CfgV}(hF:FormOk x)(h:LimOk x):NmOk x where
 m:=fun m hm=>by
  have h1:=hF.mods m hm;have h2:=h.mods m hm;simp only[modP,modLimP,Bool.and_eq_true,decide_eq_true_eq]at h1 h2;exact⟨word_len h1.1.1,by have:=h2.1.2;omega⟩
 p:=fun y hy=>by
  obtain⟨h1,h2,h3⟩:=partForm (hF.part hy);obtain⟨k1,k2,_,_⟩:=partLim (h.part hy).1;refine⟨word_len h1,by omega,by omega,fun q hq=> ?_,fun q hq=> ?_⟩
  ·have:=h2 q hq
   simp only[portP,Bool.and_eq_true]at this;exact word_len this.1.2
  ·have:=h3 q hq
   simp only[procP,Bool.and_eq_true]at this;exact word_len this.1.1
 s:=fun m hm=>by
  have h1:=hF.sws m hm;simp only[nodeP,Bool.and_eq_true]at h1;exact word_len h1.1.1
 v:=fun m hm=>by
  have h1:=hF.vls m hm;simp only[vlP,Bool.and_eq_true]at h1;exact word_len h1.1.1
 ml:=by have:=h.ml;omega
 sl:=by have:=h.sl;omega
 vl:=by have:=h.vl;omega
theorem ref_ok{r:RefV}(h:refP r=true):r.ok:=by
 simp only[refP,List.all_cons,List.all_nil,Bool.and_eq_true,Bool.and_true]at h;exact⟨word_len h.1,word_len h.2.1,word_len h.2.2⟩
theorem ends_ok{r:RefV}{l:List RefV}(h:endsP r l=true):r.ok∧∀q∈l,q.ok:=by
 simp only[endsP,Bool.and_eq_true,List.all_eq_true]at h;exact⟨ref_ok h.1,fun q hq=>ref_ok (h.2.2 q hq)⟩
theorem rfOk{x:CfgV}(hF:FormOk x)(h:LimOk x):RfOk x where
 n:=by
  have h1:=h.chl;have h2:=h.vl;unfold connsV;rw[List.length_append,List.length_map,List.length_map];omega
 r:=fun y hy=>by
  have hl:=h.conns y hy;unfold connsV at hy;rcases List.mem_append.1 hy with hy | hy
  ·obtain⟨z,hz,rfl⟩:=List.mem_map.1 hy
   have h1:=hF.chans z hz;simp only[chanP]at h1;exact⟨(ends_ok h1).1,by omega,(ends_ok h1).2⟩
  ·obtain⟨z,hz,rfl⟩:=List.mem_map.1 hy
   have h1:=hF.vls z hz;simp only[vlP,Bool.and_eq_true]at h1;exact⟨(ends_ok h1.1.2).1,by omega,(ends_ok h1.1.2).2⟩
theorem net_ok{x:CfgV}(hF:FormOk x):∀y∈x.links.l,0≤y.net∧y.net≤1:=fun y hy=>by
 have h1:=hF.links y hy;simp only[linkP,Bool.and_eq_true,netP,decide_eq_true_eq]at h1;have:=h1.1.2;omega
theorem actions_len:(Lib.fields actionsV.data.toList).length=8:=by kernel_rfl
theorem dd_ok{x:CfgV}(hF:FormOk x):∀y∈x.hea.l,0≤y.dd∧y.dd≤8:=fun y hy=>by
 have h1:=hF.hea y hy;simp only[healthP,Bool.and_eq_true]at h1;have h2:=h1.2;rcases Decidable.em (y.dd<1∨y.dd>8)with h | h
 ·have e:vocV actionsV y.dd=⟨#[]⟩:=by
   unfold vocV vocL;rw[actions_len,if_pos (show y.dd<1∨y.dd>((8:Nat):Int)from h)]
  rw[e]at h2;exact absurd h2 (by decide)
 ·omega
theorem mem_portsAt{l:List PartV}{p:Int}{q:PortV}(h:q∈portsAt l p):∃y∈l,q∈y.ports.l:=by
 unfold portsAt at h
 cases hq:l[p.toNat]? with
 | none=>rw[hq]at h;simp at h
 | some y=>rw[hq]at h;exact⟨y,List.mem_of_getElem? hq,by simpa using h⟩
theorem mem_partsAt{x:CfgV}{m:Int}{p:PartV}(h:p∈partsAt x m):∃y∈x.mods.l,p∈y.parts.l:=by
 unfold partsAt at h
 cases hq:x.mods.l[m.toNat]? with
 | none=>rw[hq]at h;simp at h
 | some y=>rw[hq]at h;exact⟨y,List.mem_of_getElem? hq,by simpa using h⟩
theorem sz_ok{x:CfgV}(h:LimOk x)(r:RefV):(cport x r).1.sz≤1000000∧ -1000000≤(cport x r).1.sz:=by
 unfold cport;split
 ·exact⟨by decide,by decide⟩
 ·dsimp only
  cases hq:(portsAt (partsAt x (portI x r).1) (portI x r).2.1)[(portI x r).2.2.toNat]? with
  | none=>exact⟨by decide,by decide⟩
  | some q=>
   obtain⟨p,hp,hqp⟩:=mem_portsAt (List.mem_of_getElem? hq);obtain⟨m,hm,hpm⟩:=mem_partsAt hp;have:=(partLim (h.part (mem_parts hm hpm)).1).2.2.2 q hqp;simp only[Option.getD_some];omega
theorem insP_i64{x:InsV}(h:insP x=true):i64ok x.a∧i64ok x.b∧i64ok x.d:=by
 simp only[insP,Bool.and_eq_true,List.all_eq_true]at h;obtain⟨_,h1,h2⟩:=h;have hall:∀v∈ [x.a,x.b,x.d],i64ok v:=fun v hv=>by
  rw[←List.take_append_drop (insL x.op).size [x.a,x.b,x.d]]at hv;rcases List.mem_append.1 hv with hv | hv
  ·have:=h1 v hv
   simp only[numP,Bool.and_eq_true,decide_eq_true_eq]at this;exact⟨by omega,by omega⟩
  ·have:=of_decide_eq_true (h2 v hv)
   exact⟨by omega,by omega⟩
 exact⟨hall _ (by simp),hall _ (by simp),hall _ (by simp)⟩
theorem ins_ok{x:CfgV}(hF:FormOk x):∀y∈partsV x,∀q∈y.2.procs.l,∀z∈q.code.l,i64ok z.a∧i64ok z.b∧i64ok z.d:=fun y hy q hq z hz=>by
 have h1:=(partForm (hF.part hy)).2.2 q hq;simp only[procP,Bool.and_eq_true,List.all_eq_true]at h1;exact insP_i64 (h1.2 z hz)
theorem excl_ok{x:CfgV}(h:LimOk x){w:World}{B:Nat}(hr:∀y∈x.causes.l,y.rd w B):∀y∈x.causes.l,y.c.excl.length≤8∧y.c.needs.length≤8:=fun y hy=>by
 have h1:=h.causes y hy;simp only[causeLimP,Bool.and_eq_true,List.all_cons,List.all_nil,witP,decide_eq_true_eq,Bool.and_true]at h1;have h2:=(hr y hy).nl;have h3:=(hr y hy).xl;omega
theorem needs_ok{x:CfgV}(hF:FormOk x):∀y∈x.causes.l,0<y.c.needs.length:=fun y hy=>by
 have h1:=hF.causes y hy;simp only[causeP,Bool.and_eq_true,decide_eq_true_eq]at h1;exact h1.2.1
theorem runO_some(L:List CsV):∀(f:Nat) (n:Int) (R:List CsV),R.length+2≤f∨(n=R.length∧1≤f)→∃b,runO L f n R=some b
 | 0,n,R,h=>by omega
 | f+1,n,R,h=>by
  rw[runO];by_cases hn:n=R.length
  ·rw[if_pos hn];exact⟨_,rfl⟩
  ·rw[if_neg hn]
   refine runO_some L f _ _ ?_;have h1:=List.length_filter_le (staysV L R) R;rcases h with h | h
   ·by_cases e:(R.filter (staysV L R)).length=R.length
    ·exact .inr ⟨by rw[e],by omega⟩
    ·exact .inl (by omega)
   ·exact absurd h.1 hn
def causesB(x:CfgV):Bool:=(runO x.causes.l (x.causes.l.length+2) (-1) x.causes.l).getD false
theorem causesB_run(x:CfgV):runO x.causes.l (x.causes.l.length+2) (-1) x.causes.l=some (causesB x):=by
 obtain⟨b,hb⟩:=runO_some x.causes.l (x.causes.l.length+2) (-1) x.causes.l (.inl (by omega));unfold causesB;rw[hb];rfl
def codeB(y:MpV):Bool:=y.2.procs.l.all fun q=>q.code.l.all fun z=>insOkB y.2 q.code.l.length z
def codesP(x:CfgV):Bool:=(partsV x).all codeB
end Go.Proofs.YtchfcgilpjkmhaaGreatDoor
namespace Go.Proofs.YtchfcgilpjkmhaaGreatDoor
open Go.ChangeShapes Go.WideShapes Go.ChangeAt Go.RowKit
attribute [local go_sem] Oper.semAt_some
open Go.Act renaming put → zP
open List renaming setIfInBounds_toArray → zA, set_cons_zero → zB, set_cons_succ → zC
set_option maxHeartbeats 2000000 in
theorem insX_c(p:PartV)(n:Int)(x:InsV)(w:World)(hL:LaidN w)(h0:0≤x.op∧x.op≤255)(ha:i64ok x.a)(hb:i64ok x.b)(hd:i64ok x.d)(hr:RdPort w w.heap.size p.ports.a p.ports.l):
 CU 83 #[p.val,.int .i64 n,x.val] w (.bool (insOkB p n x)):=by
 obtain⟨y0,hy0⟩:∃y0,y0=w.alloc (.cells p.cl 75):=⟨_,rfl⟩;obtain⟨y1,hy1⟩:∃y1,y1=y0.alloc (.cells #[.int .u8 x.op,.int .i64 x.a,.int .i64 x.b,.int .i64 x.d] 167):=⟨_,rfl⟩;have hz0:y0.heap.size=w.heap.size+1:=by rw[hy0];simp
 have hz1:y1.heap.size=w.heap.size+1+1:=by rw[hy1];simp[hz0]
 have hB0:Below w.heap.size w y0:=by rw[hy0];exact(Below.refl _ _).alloc (Nat.le_refl _) _
 have hB1:Below w.heap.size w y1:=by rw[hy1];exact hB0.alloc hB0.size _
 have hbp:p.bk y1 w.heap.size:=by
  have h1:p.bk y0 w.heap.size:=by rw[hy0];exact Blk.new w _ _
  rw[hy1];exact h1.below ((Below.refl _ y0).alloc (Nat.le_refl _) _) h1.lt
 have hbx:x.bk y1 (w.heap.size+1):=by rw[hy1,←hz0];exact Blk.new y0 _ _
 have hcode:=code1_c x y1 (hL.below hB1) h0 ha hb hd;have kx0:=hbx.cell 0;have kx1:=hbx.cell 1;have kx2:=hbx.cell 2;have kx3:=hbx.cell 3;rw[hz1]at hcode;have hcode2:=hcode;rw[hy1,hy0]at hcode2;have Hcode:=lz hcode2;have HB1:=lz hB1;have Hbp:=lz hbp;have Hbx:=lz hbx;have Hy0:=lz hy0;have Hy1:=lz hy1;have HZ1:=lz hz1;have HL:=lz hL;have H0:=lz h0;have Hr:=lz hr;have HA:=lz (show insOkB p n x=(insP x&&(letL x).all fun q=>letOk p n x q.1.toNat q.2)from rfl);clear hcode hcode2 hB0 hB1 hbp hbx hy0 hy1 hz0 hz1 hL hr h0 ha hb hd kx0 kx1 kx2 kx3;go_enter Tryz.func83,Tryz.ntmps83;go_wp2_with fail;refine Hcode.out.mono ?_;rintro e y2 ⟨⟨s,z,rfl,hz⟩,hb2⟩;rw[←Hy0.out,←Hy1.out]at hb2;have hb3:Below y1.heap.size y1 y2:=by rw[HZ1.out];exact hb2
 have HB2:=lz hb3;clear hb2 hb3
 cases hq:insP x with
 | false=>
  rw[hq]at hz;have hz1:¬z=0:=by simpa using hz
  go_wp2_with fail;go_ret;exact⟨by rw[HA.out,hq];rfl,HB1.out.trans (HB2.out.mono HB1.out.size)⟩
 | true=>
  rw[hq]at hz;obtain rfl:z=0:=by simpa using hz
  clear hz;go_wp2_with fail;refine wp_region_any kz ?_;refine region6_c (C:=⟨p,n,w.heap.size,w.heap.size+1,y2.drew,_⟩) (mb:=0) ?_ (Reg6.first _ 0 rfl rfl _ (Below.refl _ _)) ?_
  ·exact⟨rfl,rfl,rfl,rfl,rfl,(Hbp.out.below HB2.out.drew Hbp.out.lt)⟩
  ·rintro mb ⟨tm,df⟩ w6 h6
   obtain⟨t25,t26,t27,t28,t29,t30,t31,t32,t33,t34,t35,t36,t37,t38,t39,t40,t41,t42,t43,t44,t45,t46,t47,t48,t49,t50,t51,t52,t53,t54,t55,t56,t57,t58,rfl,rfl,hb6,kk,D,hmb,hfm,hfn⟩:=frame6 h6;have HB6:=lz hb6;have Hfm:=lz hfm;have Hfn:=lz hfn;have HW6:=lz (HB1.out.trans ((HB2.out.drew.trans (hb6.mono HB2.out.drew.size)).mono HB1.out.size));have Hbx6:=lz (Hbx.out.below (HB2.out.drew.trans (hb6.mono HB2.out.drew.size)) Hbx.out.lt);have kx0:=Hbx6.out.cell 0;have kx1:=Hbx6.out.cell 1;have kx2:=Hbx6.out.cell 2;have kx3:=Hbx6.out.cell 3;clear h6 hb6 hfm hfn;have hlt6:=Hbx6.out.lt;have kx0':(w6.alloc (.cells #[.int .i64 x.a,.int .i64 x.b,.int .i64 x.d] 217)).cell? ⟨w.heap.size+1,0,none⟩=some (.int .u8 x.op):=(World.cell?_alloc_lt w6 _ ⟨w.heap.size+1,0,none⟩ hlt6).trans kx0;have Hop:=lz (operands_ins_c x.op _ (HL.out.below (HW6.out.alloc HW6.out.size (.cells #[.int .i64 x.a,.int .i64 x.b,.int .i64 x.d] 217))) H0.out.1 H0.out.2);show Exit.then _ _ _ _ _;go_wp2_with fail;refine Hop.out.mono ?_;rintro e w7 ⟨rfl,hb7⟩;have HB7:=lz hb7;clear hb7;have HT3:=lz (insL_size x.op);have HTk:=lz (insL_key x.op);obtain⟨t,ht⟩:∃t,t=insL x.op:=⟨_,rfl⟩;rw[←ht]at HT3 HTk;rw[←ht];have Ht:=lz ht;clear ht;have HW7:Hid (Below w.heap.size w w7):=lz ((HW6.out.alloc HW6.out.size _).trans (HB7.out.mono (HW6.out.alloc HW6.out.size _).size));go_wp2_with fail;go_loopw [13,14] (fun _ _ wr=>∃k:Nat,k≤t.size∧wr.heap[w7.heap.size]?=some (.stringIter t k)∧Hid (Below w7.heap.size w7 wr)∧Hid (((letL x).take k).all (fun q=>letOk p n x q.1.toNat q.2)=true)) (fun _ _ wr=>t.size-(match wr.heap[w7.heap.size]? with | some (.stringIter _ q)=>q | _=>0))
   case atStart=>exact⟨0,Nat.zero_le _,World.iter_heap w7 t 0,lz ((Below.refl _ w7).alloc (Nat.le_refl _) _),lz rfl⟩
   case round=>
    obtain⟨k,hk,hit,HW,HK⟩:=hrel;by_cases hlt:k<t.size
    ·have hn:=fun ty=>Go.Lib.run_next_ascii_at (P:=Tryz.prog) wr w7.heap.size t k ty hit hlt (keyL_ascii _ (HTk.out _ (by simp[ByteArray.getElem_eq_getElem_data])))
     obtain⟨w9,hw9⟩:∃w9,w9=wr.iterAt w7.heap.size t (k+1):=⟨_,rfl⟩;simp only[←hw9]at hn;have hit9:w9.heap[w7.heap.size]?=some (.stringIter t (k+1)):=by rw[hw9];exact Lib.iterAt_heap wr _ t k _ hit
     have hB9:Below w7.heap.size w7 w9:=by rw[hw9];exact below_iterAt HW.out _ (Nat.le_refl _) _ _
     have hA6:Below w6.heap.size w6 (w6.alloc (.cells #[.int .i64 x.a,.int .i64 x.b,.int .i64 x.d] 217)):=(Below.refl _ w6).alloc (Nat.le_refl _) _;have hB67:Below w6.heap.size w6 w7:=hA6.trans (HB7.out.mono hA6.size);have hB69:Below w6.heap.size w6 w9:=hB67.trans (hB9.mono hB67.size);have hk3:k<3:=by have:=HT3.out;omega
     have hnn:=insP_nonneg hq;have hnk:(0:Int)≤ [x.a,x.b,x.d][k]:=by
      have:k=0∨k=1∨k=2:=by omega
      rcases this with rfl | rfl | rfl
      ·exact hnn.1
      ·exact hnn.2.1
      ·exact hnn.2.2
     obtain⟨m,hm⟩:∃m:Nat,[x.a,x.b,x.d][k]=(m:Int):=Int.eq_ofNat_of_zero_le hnk;have hrow:Blk w9 w6.heap.size 217 #[.int .i64 x.a,.int .i64 x.b,.int .i64 x.d]:=((Blk.new w6 _ _).below HB7.out (Blk.lt (Blk.new w6 _ _))).below hB9 (by have:=HB7.out.size;simp at this;omega);have hcell:w9.cell? ⟨w6.heap.size,k,none⟩=some (.int .i64 (m:Int)):=by
      rw[←hm];have:k=0∨k=1∨k=2:=by omega
      rcases this with rfl | rfl | rfl
      ·exact hrow.cell 0
      ·exact hrow.cell 1
      ·exact hrow.cell 2
     have hb16:Below y1.heap.size y1 w6:=HB2.out.drew.trans (HB6.out.mono HB2.out.drew.size);obtain⟨f,lb,hat,hen,hcall⟩:=let_c _ x Hfn.out (Hbp.out.below hb16 Hbp.out.lt) Hbx6.out ((Hr.out.below HW6.out)) hnn.1 t[k].toNat (HTk.out _ (by simp[ByteArray.getElem_eq_getElem_data])) m;have hlook:=(Hfm.out.below hB69 Hfm.out.lt).look t[k].toNat ((show∀k∈keyL,(kI (k:Int)).wf=true by decide) _ (HTk.out t[k] (by simp[ByteArray.getElem_eq_getElem_data]))) hat;have hlookd:=((Hfm.out.below hB69 Hfm.out.lt).below (w':=w9.drew) (Below.refl w9.heap.size w9).drew ((Hfm.out.below hB69 Hfm.out.lt)).lt).look t[k].toNat ((show∀k∈keyL,(kI (k:Int)).wf=true by decide) _ (HTk.out t[k] (by simp[ByteArray.getElem_eq_getElem_data]))) hat;have hHeld:w9.drew.cell? ⟨w6.heap.size,k,none⟩=some (.int .i64 (m:Int))∧(Instr.lookup 216 (.map (some mb)) (.int .i32 ((t[k].toNat:Nat):Int)) false).run Tryz.prog w9.drew= .ok (.func (.func f) #[] lb) w9.drew:=⟨hcell,hlookd⟩;have hc9:=hcall w9.drew hB69.drew;have Hc9:=lz hc9;have hl:=letL_len x;rw[←Ht.out]at hl;have hgl:(letL x)[k]'(by omega)=(t[k],(m:Int)):=by
      have h1:(insL x.op).data.toList[k]'(by rw[←Ht.out];simpa using hlt)=t[k]:=by
       have:t=insL x.op:=Ht.out;subst this;simp[ByteArray.getElem_eq_getElem_data]
      unfold letL;rw[List.getElem_zip,h1,hm]
     have Hgl:=lz hgl;have Hl:=lz hl;have HHeld:=lz hHeld;have Hen:=lz hen;have Hlo:=lz (show∀b,letOk p n x t[k].toNat m=b→letOk p n x t[k].toNat m=b from fun _ h=>h);clear hcall hc9 hw9 hlook hlookd hcell hHeld hen hat hnn hnk hm hrow hb16 hB67 hA6;go_wp2_with fail;have Hit9:=lz hit9;have HB9:=lz hB9;have HB69:=lz hB69;have Hgl:=lz hgl;clear hn hit9 hB9 hB69 hgl hmb hq;have hk3i:(k:Int)<3:=by omega
     refine wp_region_S (fun W=>W.cell? ⟨w6.heap.size,k,none⟩=some (.int .i64 (m:Int))∧(Instr.lookup 216 (.map (some mb)) (.int .i32 ((t[k].toNat:Nat):Int)) false).run Tryz.prog W= .ok (.func (.func f) #[] lb) W) 6 kz HHeld.out (fun hHeld=> ?_);refine TS 0 rfl hHeld ?_
     simp only[zP,zA,zB,zC];refine TS 1 rfl hHeld ?_
     simp only[zP,zA,zB,zC];refine TS 2 rfl hHeld ?_
     simp only[zP,zA,zB,zC];refine TS 3 rfl hHeld ?_
     simp only[zP,zA,zB,zC];refine TS 4 rfl hHeld ?_
     simp only[zP,zA,zB,zC];refine TS 5 rfl hHeld ?_
     simp only[zP,zA,zB,zC];refine RQ 6 rfl fun K hK=> ?_;have hen:=Hen.out;go_simp
     trace_state
     refine Hc9.out.mono ?_;rintro e w10 ⟨rfl,hb10⟩;refine hK.out _ _ (fun h=>absurd h (by decide)) ?_;clear hK hHeld hen;refine RQ 7 rfl fun K hK=> ?_;go_simp;refine hK.out _ _ (fun h=>absurd h (by decide)) ?_;clear hK;refine wpAnyS_done kz ?_ _;have HB10:=lz (HB9.out.drew.trans (hb10.mono HB9.out.drew.size));have Hit10:Hid (w10.heap[w7.heap.size]?=some (.stringIter t (k+1))):=lz ((hb10.block _ (Array.getElem?_eq_some_iff.1 (show w9.drew.heap[w7.heap.size]?=_ from Hit9.out)).1).trans Hit9.out);clear hb10 HHeld Hen Hc9
     cases hlo:letOk p n x t[k].toNat m with
     | false=>
      go_wp2_with fail;go_ret;have hall:(letL x).all (fun q=>letOk p n x q.1.toNat q.2)=false:=all_false_at (p:=fun q:UInt8×Int=>letOk p n x q.1.toNat q.2) (k:=k) (by omega) (by rw[Hgl.out];exact hlo);exact⟨by rw[HA.out,hall];simp,HW7.out.trans (HB10.out.mono HW7.out.size)⟩
     | true=>
      go_wp2_with fail;go_roundw
      case rel=>exact⟨k+1,by omega,Hit10.out,HB10,lz (all_take_next (by omega) HK.out (by rw[Hgl.out];exact hlo))⟩
      case measure=>rw[Hit10.out,hit];simp;omega
    ·have hn:=fun ty=>Go.Lib.run_next_end_at (P:=Tryz.prog) wr w7.heap.size t k ty hit hlt
     go_wp2_with fail;go_ret;have hl:=letL_len x;rw[←Ht.out]at hl;have hk2:=HK.out;rw[List.take_of_length_le (by omega)]at hk2;exact⟨by rw[HA.out,hq,hk2];rfl,HW7.out.trans (HW.out.mono HW7.out.size)⟩
end Go.Proofs.YtchfcgilpjkmhaaGreatDoor
