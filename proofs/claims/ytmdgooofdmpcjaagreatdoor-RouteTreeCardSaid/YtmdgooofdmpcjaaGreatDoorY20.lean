import Derived.Lib.OthersKept
import Derived.Test.YtmdgooofdmpcjaaGreatDoorY7
import Derived.Test.YtmdgooofdmpcjaaGreatDoorY12
import Derived.Test.YtmdgooofdmpcjaaGreatDoorY15
import Derived.Test.YtmdgooofdmpcjaaGreatDoorY16
import Derived.Test.YtmdgooofdmpcjaaGreatDoorY17
import Derived.Test.YtmdgooofdmpcjaaGreatDoorY18
import Derived.Test.YtmdgooofdmpcjaaGreatDoorY19
import Derived.Test.YtmdgooofdmpcjaaGreatDoorY0
set_option maxRecDepth 100000
set_option maxHeartbeats 8000000
set_option linter.unusedSimpArgs false
set_option linter.unusedVariables false
set_option linter.unusedSectionVars false
open Go.Proofs.Tryz renaming prog → pG
namespace Go.Proofs.YtmdgooofdmpcjaaGreatDoor
section
open Go.ChangeShapes Go.WideShapes Go.ChangeAt Go.RowKit
attribute [local go_sem] Oper.semAt_some
def KY(w:World)(g:Nat)(A:Option Addr)(n c:Nat):Prop:=∃v0 v1 v2 v3 v4 v5 v7,ah w g 94 #[v0,v1,v2,v3,v4,v5,.slice A n c,v7]
theorem KY.lt{w:World}{g:Nat}{A:Option Addr}{n c:Nat}(h:KY w g A n c):g<w.heap.size:=let ⟨_,_,_,_,_,_,_,h⟩:=h;h.lt
theorem KY.aDu{w:World}{g:Nat}{A:Option Addr}{n c:Nat}(h:KY w g A n c):w.cell? ⟨g,6,none⟩=some (.slice A n c):=let ⟨_,_,_,_,_,_,_,h⟩:=h;h.cell 6
theorem KY.alloc{w:World}{g:Nat}{A:Option Addr}{n c:Nat}(h:KY w g A n c)(o:Obj):KY (w.alloc o) g A n c:=let ⟨_,_,_,_,_,_,_,h⟩:=h;⟨_,_,_,_,_,_,_,h.alloc o⟩
theorem KY.below{w w':World}{g:Nat}{A:Option Addr}{n c:Nat}(h:KY w g A n c)(hb:Below w.heap.size w w'):KY w' g A n c:=let ⟨_,_,_,_,_,_,_,h⟩:=h;⟨_,_,_,_,_,_,_,h.below hb h.lt⟩
theorem tU.a{w:World}{g:Nat}{x:ay}(h:tU w g x):KY w g x.causes.a x.causes.l.length x.causes.c:=⟨_,_,_,_,_,_,_,h⟩
structure rI(w:World)(g Br Bk B5 B6:Nat)(A:Option Addr)(L:List fC)(c:Nat)(AR:Option Addr)(R:List fC)(cR:Nat):Prop where
 k:ah w Bk 92 #[.pointer (some ⟨g,0,none⟩)]
 ck:KY w g A L.length c
 rl:kr w w.heap.size A L
 br:ah w Br 28 #[.slice AR R.length cR]
 rr:kr w w.heap.size AR R
 b5:ah w B5 185 #[.func (.func 94) #[] #[.pointer (some ⟨Br,0,none⟩)]]
 b6:ah w B6 185 #[.func (.func 97) #[] #[.pointer (some ⟨Bk,0,none⟩)]]
 ll:L.length≤1000
 lr:R.length≤1000
section
variable {w w':World} {g Br Bk B5 B6:Nat} {A:Option Addr} {L:List fC} {c:Nat} {AR:Option Addr} {R:List fC} {cR:Nat}
theorem rI.below(h:rI w g Br Bk B5 B6 A L c AR R cR)(hb:Below w.heap.size w w'):rI w' g Br Bk B5 B6 A L c AR R cR:=
 ⟨h.k.below hb h.k.lt,KY.below h.ck hb,h.rl.below hb,h.br.below hb h.br.lt,h.rr.below hb,h.b5.below hb h.b5.lt,h.b6.below hb h.b6.lt,h.ll,h.lr⟩
theorem Yb(u:ByteArray)(w:World)(h:rI w g Br Bk B5 B6 A L c AR R cR):CU 94 #[.string u,.pointer (some ⟨Br,0,none⟩)] w (.bool (yt R u)):=by
 have h1:=h.below (w':=w.alloc (.cells #[.string u] 9)) (bN);have hbu:=ah.new w 9 #[.string u];have aZ:=jJ 96 #[.pointer (some ⟨w.heap.size,0,none⟩)] (fun x=>seqB x.c.unit u) (enters_of Tryz.func96 kz rfl) R AR cR (w.alloc (.cells #[.string u] 9))
  (fun W x hx hW _=>aJ6 _ u x W (hbu.below hW hbu.lt)) h1.rr (by have:=h.lr;omega)
 have aZ:CU 95 #[.slice AR R.length cR,.func (.func 96) #[] #[.pointer (some ⟨w.heap.size,0,none⟩)]] (w.alloc (.cells #[.string u] 9)) (.bool (yt R u)):=aZ
 have c0:(w.alloc (.cells #[.string u] 9)).cell? ⟨Br,0,none⟩=some (.slice AR R.length cR):=h1.br.cell 0;have eP:=lz aZ;have hlt:=h.br.lt;generalize yt R u=q at *;clear aZ h1 hbu h;go_enter Tryz.func94,Tryz.ntmps94;go_wp2_with fail;refine eP.out.mono ?_;rintro e w1 ⟨rfl,aU⟩;have HB:=lz (((Below.refl _ w).alloc nL (.cells #[.string u] 9)).trans (aU.mono qz));clear aU eP;go_wp2;go_ret;exact⟨rfl,HB.out⟩
theorem UE(u:ByteArray)(w:World)(h:rI w g Br Bk B5 B6 A L c AR R cR):CU 97 #[.string u,.pointer (some ⟨Bk,0,none⟩)] w (.bool (yt L u)):=by
 have h1:=h.below (w':=w.alloc (.cells #[.string u] 9)) (bN);have hbu:=ah.new w 9 #[.string u];have aZ:=jJ 98 #[.pointer (some ⟨w.heap.size,0,none⟩)] (fun x=>seqB x.c.unit u) (enters_of Tryz.func98 kz rfl) L A c (w.alloc (.cells #[.string u] 9))
  (fun W x hx hW _=>aJ7 _ u x W (hbu.below hW hbu.lt)) h1.rl (by have:=h.ll;omega)
 have aZ:CU 95 #[.slice A L.length c,.func (.func 98) #[] #[.pointer (some ⟨w.heap.size,0,none⟩)]] (w.alloc (.cells #[.string u] 9)) (.bool (yt L u)):=aZ
 have c0:(w.alloc (.cells #[.string u] 9)).cell? ⟨Bk,0,none⟩=some (.pointer (some ⟨g,0,none⟩)):=h1.k.cell 0;have c6:(w.alloc (.cells #[.string u] 9)).cell? ⟨g,6,none⟩=some (.slice A L.length c):=KY.aDu h1.ck;have eP:=lz aZ;have hlt:=h.k.lt;generalize yt L u=q at *;clear aZ h1 hbu h;go_enter Tryz.func97,Tryz.ntmps97;go_wp2_with fail;refine eP.out.mono ?_;rintro e w1 ⟨rfl,aU⟩;have HB:=lz (((Below.refl _ w).alloc nL (.cells #[.string u] 9)).trans (aU.mono qz));clear aU eP;go_wp2;go_ret;exact⟨rfl,HB.out⟩
theorem Yc(u:ByteArray)(w:World)(h:rI w g Br Bk B5 B6 A L c AR R cR):CU 102 #[.string u,.pointer (some ⟨B6,0,none⟩),.pointer (some ⟨B5,0,none⟩)] w (.bool (yt L u&& !yt R u)):=by
 have hk:=UE u w h;have ho:=fun W (hW:Below w.heap.size w W)=>Yb u W (h.below hW)
 have c6:w.cell? ⟨B6,0,none⟩=some (.func (.func 97) #[] #[.pointer (some ⟨Bk,0,none⟩)]):=h.b6.cell 0;have c5:=fun W (hW:Below w.heap.size w W)=>(h.below hW).b5.cell 0
 have Hk:=lz hk;have Ho:=lz ho;have H5:=lz c5;clear hk ho c5 h
 cases hq:yt L u with
 | false=>
  rw[hq]at Hk;clear hq;go_enter Tryz.func102,Tryz.ntmps102;go_wp2_with fail;refine Hk.out.mono ?_;rintro e w1 ⟨rfl,aU⟩;go_wp2;go_ret;exact⟨rfl,aU⟩
 | true=>
  rw[hq]at Hk;clear hq;generalize yt R u=q at *;go_enter Tryz.func102,Tryz.ntmps102;go_wp2_with fail;refine Hk.out.mono ?_;rintro e w1 ⟨rfl,aU⟩;have d5:w1.cell? ⟨B5,0,none⟩=some (.func (.func 94) #[] #[.pointer (some ⟨Br,0,none⟩)]):=H5.out w1 aU;have Hoo:=lz (Ho.out w1 aU);clear H5 Ho Hk;go_wp2_with fail;refine Hoo.out.mono ?_;rintro e w2 ⟨rfl,dI⟩;have HB:=lz (aU.trans (dI.mono aU.size));clear aU dI;go_wp2;go_ret;exact⟨by cases q<;>rfl,HB.out⟩
theorem UF(Bx:Nat)(x y:fC)(w:World)(h:rI w g Br Bk B5 B6 A L c AR R cR)(hx:ah w Bx 83 #[.string x.c.unit,.slice x.n.a x.n.n x.n.c,.slice x.x.a x.x.n x.x.c])(hy:y.rd w w.heap.size)(yu:y.c.excl.length≤1000):
 CU 100 #[y.val,.pointer (some ⟨Bx,0,none⟩),.pointer (some ⟨B6,0,none⟩),.pointer (some ⟨B5,0,none⟩)] w (.bool (SE L R x y)):=by
 have bY:Below w.heap.size w (w.alloc (.cells #[.string y.c.unit,.slice y.n.a y.n.n y.n.c,.slice y.x.a y.x.n y.x.c] 83)):=bN;have h1:=h.below bY;have TV:=aB7 102 #[.pointer (some ⟨B6,0,none⟩),.pointer (some ⟨B5,0,none⟩)] (fun u=>yt L u&& !yt R u) (enters_of Tryz.func102 kz rfl) y.c.excl y.x.a y.x.c _ (fun W u hu hW=>Yc u W (h1.below hW)) (hy.below bY).x oz;rw[←hy.xl]at TV;have c0:(w.alloc (.cells #[.string y.c.unit,.slice y.n.a y.n.n y.n.c,.slice y.x.a y.x.n y.x.c] 83)).cell? ⟨Bx,0,none⟩=some (.string x.c.unit):=(hx.alloc _).cell 0;have TV:CU 101 #[.slice y.x.a y.x.n y.x.c,.func (.func 102) #[] #[.pointer (some ⟨B6,0,none⟩),.pointer (some ⟨B5,0,none⟩)]] (w.alloc (.cells #[.string y.c.unit,.slice y.n.a y.n.n y.n.c,.slice y.x.a y.x.n y.x.c] 83)) (.bool (Yd L R y)):=TV
 have Hal:=lz TV;have hlt:=hx.lt;have cU:=lz bY;unfold SE;generalize Yd L R y=q at *;clear TV h1 bY h hx hy;dsimp only[fC.val]
 cases hs:seqB y.c.unit x.c.unit with
 | false=>
  have hs':(y.c.unit.toList==x.c.unit.toList)=false:=hs;clear hs;go_enter Tryz.func100,Tryz.ntmps100;go_wp2;go_ret;exact⟨rfl,cU.out⟩
 | true=>
  have hs':(y.c.unit.toList==x.c.unit.toList)=true:=hs;clear hs;go_enter Tryz.func100,Tryz.ntmps100;go_wp2_with fail;refine Hal.out.mono ?_;rintro e w1 ⟨rfl,aU⟩;have HB:=lz (cU.out.trans (aU.mono qz));clear aU Hal;go_wp2;go_ret;exact⟨by cases q<;>rfl,HB.out⟩
theorem UG(x:fC)(w:World)(h:rI w g Br Bk B5 B6 A L c AR R cR)(hl:∀y∈R,y.c.excl.length≤1000):
 CU 99 #[x.val,.pointer (some ⟨Br,0,none⟩),.pointer (some ⟨B6,0,none⟩),.pointer (some ⟨B5,0,none⟩)] w (.bool (iW L R x)):=by
 have bY:Below w.heap.size w (w.alloc (.cells #[.string x.c.unit,.slice x.n.a x.n.n x.n.c,.slice x.x.a x.x.n x.x.c] 83)):=bN;have h1:=h.below bY;have gP:=ah.new w 83 #[.string x.c.unit,.slice x.n.a x.n.n x.n.c,.slice x.x.a x.x.n x.x.c];have aZ:=jJ 100 #[.pointer (some ⟨w.heap.size,0,none⟩),.pointer (some ⟨B6,0,none⟩),.pointer (some ⟨B5,0,none⟩)] (fun y=>SE L R x y) (enters_of Tryz.func100 kz rfl) R AR cR _
  (fun W y hy hW fK=>UF w.heap.size x y W (h1.below hW) (gP.below hW gP.lt) fK (hl y hy)) h1.rr (by have:=h.lr;omega)
 have aZ:CU 95 #[.slice AR R.length cR,.func (.func 100) #[] #[.pointer (some ⟨w.heap.size,0,none⟩),.pointer (some ⟨B6,0,none⟩),.pointer (some ⟨B5,0,none⟩)]] (w.alloc (.cells #[.string x.c.unit,.slice x.n.a x.n.n x.n.c,.slice x.x.a x.x.n x.x.c] 83)) (.bool (iW L R x)):=aZ
 have c0:(w.alloc (.cells #[.string x.c.unit,.slice x.n.a x.n.n x.n.c,.slice x.x.a x.x.n x.x.c] 83)).cell? ⟨Br,0,none⟩=some (.slice AR R.length cR):=h1.br.cell 0;have eP:=lz aZ;have hlt:=h.br.lt;have cU:=lz bY;generalize iW L R x=q at *;clear aZ h1 gP bY h hl;dsimp only[fC.val];go_enter Tryz.func99,Tryz.ntmps99;go_wp2_with fail;refine eP.out.mono ?_;rintro e w1 ⟨rfl,aU⟩;have HB:=lz (cU.out.trans (aU.mono qz));clear aU eP;go_wp2;go_ret;exact⟨rfl,HB.out⟩
end
structure Ye(w:World)(g:Nat)(A:Option Addr)(L:List fC)(c:Nat)(AR:Option Addr)(R:List fC)(cR:Nat)(W:World):Prop where
 below:Below w.heap.size w W
 k:ah W w.heap.size 92 #[.pointer (some ⟨g,0,none⟩)]
 br:ah W (w.heap.size+1) 28 #[.slice AR R.length cR]
 rr:kr W W.heap.size AR R
 sub:∀x∈R,x∈L
 lr:R.length≤L.length
theorem UH(b:Bool)(g:Nat)(A:Option Addr)(L:List fC)(c:Nat)(F:Nat)(w:World)(h:KY w g A L.length c)(hr:kr w w.heap.size A L)(hl:L.length≤1000)(hx:∀x∈L,x.c.excl.length≤1000)(fK:∀x∈L,x.rd w w.heap.size)(hrun:Cy L F (-1) L=some b):
 CU 31 #[.pointer (some ⟨g,0,none⟩)] w (.bool b):=by
 obtain⟨w1,cN⟩:=ez ((w.alloc (.cells #[.pointer (some ⟨g,0,none⟩)] 92)).alloc (.cells #[.slice A L.length c] 28));have bY:Below w.heap.size w w1:=by rw[cN];exact(bN).alloc qz _
 have Cq:ah w1 w.heap.size 92 #[.pointer (some ⟨g,0,none⟩)]:=by rw[cN];exact(ah.new w _ _).alloc _
 have aU:ah w1 (w.heap.size+1) 28 #[.slice A L.length c]:=by
  rw[cN];have:=ah.new (w.alloc (.cells #[.pointer (some ⟨g,0,none⟩)] 92)) 28 #[.slice A L.length c]
  rwa[World.size_alloc]at this
 have Hst:Hid (Ye w g A L c A L c w1):=lz (⟨bY,Cq,aU,hr.below bY,fun x h=>h,nL⟩);have c6:(w.alloc (.cells #[.pointer (some ⟨g,0,none⟩)] 92)).cell? ⟨g,6,none⟩=some (.slice A L.length c):=KY.aDu (KY.alloc h _);have hlt:g<w.heap.size:=KY.lt h;have lH:=lz cN;have H:=lz h;have Hr:=lz hr;have Hx:=lz hx;have kX:=lz fK;have Gs:=lz hrun;clear cN bY Cq aU h hr hx fK hrun;go_enter Tryz.func31,Tryz.ntmps31;go_wp2_with fail;rw[←lH.out];go_loopw [4] (fun t wr=>∃(f:Nat) (n:Int) (R:List fC) (AR:Option Addr) (cR:Nat),t= .int .i64 n∧Hid (Cy L f n R=some b)∧Ye w g A L c AR R cR wr∧f≤F) (fun t wr=>aJ8 t (wr.cell? ⟨w.heap.size+1,0,none⟩))
 case atStart=>exact⟨F,-1,L,A,c,rfl,Gs,Hst.out,nL⟩
 case round=>
  clear Hst Gs c6;obtain⟨f,n,R,AR,cR,rfl,hrun,hS,hf⟩:=hrel;generalize wr=w4 at *;have yc:w4.cell? ⟨w.heap.size+1,0,none⟩=some (.slice AR R.length cR):=hS.br.cell 0;have Hm0:=lz yc;by_cases hn:n=R.length
  ·have h0:=Yf hrun.out hn
   have hd:((R.length:Int)==0)=b:=by rw[←h0,Bool.eq_iff_iff];simp
   have hne:(n !=(R.length:Int))=false:=by rw[hn];simp
   have Ef:=hS.below;clear hrun hS h0 hn;go_wp2;go_ret;exact⟨rfl,Ef⟩
  ·obtain⟨f',rfl,pE⟩:=UJ hrun.out hn
   have hne:(n !=(R.length:Int))=true:=by simpa using hn
   obtain⟨w5,hw5⟩:=ez ((w4.alloc (.cells #[.func (.func 94) #[] #[.pointer (some ⟨w.heap.size+1,0,none⟩)]] 185)).alloc (.cells #[.func (.func 97) #[] #[.pointer (some ⟨w.heap.size,0,none⟩)]] 185));have Cp:Below w4.heap.size w4 w5:=by rw[hw5];exact(bN).alloc qz _
   have jU:ah w5 w4.heap.size 185 #[.func (.func 94) #[] #[.pointer (some ⟨w.heap.size+1,0,none⟩)]]:=by rw[hw5];exact(ah.new w4 _ _).alloc _
   have rz:ah w5 (w4.heap.size+1) 185 #[.func (.func 97) #[] #[.pointer (some ⟨w.heap.size,0,none⟩)]]:=by
    rw[hw5];have:=ah.new (w4.alloc (.cells #[.func (.func 94) #[] #[.pointer (some ⟨w.heap.size+1,0,none⟩)]] 185)) 185 #[.func (.func 97) #[] #[.pointer (some ⟨w.heap.size,0,none⟩)]]
    rwa[World.size_alloc]at this
   have aB8:Below w.heap.size w w5:=hS.below.trans (Cp.mono hS.below.size);have cC:rI w5 g (w.heap.size+1) w.heap.size w4.heap.size (w4.heap.size+1) A L c AR R cR:=
    ⟨hS.k.below Cp hS.k.lt,KY.below H.out aB8,Hr.out.below aB8,hS.br.below Cp hS.br.lt,hS.rr.below Cp,jU,rz,hl,by have:=hS.lr;omega⟩
   have hwz:w.heap.size+1<w4.heap.size:=hS.br.lt;have KX:=hS.lr;have Ej:=lz cC;have aJ9:=lz aB8;have Hw5:=lz hw5;have lg:=lz pE;have aKA:=lz hS.sub;have hz5:w5.heap.size=w4.heap.size+2:=by rw[hw5];simp
   have m5:w5.cell? ⟨w.heap.size+1,0,none⟩=some (.slice AR R.length cR):=cC.br.cell 0;have aKB:=hz5;have Hz5:=lz aKB;have hmm:((w4.alloc (.cells #[.func (.func 94) #[] #[.pointer (some ⟨w.heap.size+1,0,none⟩)]] 185)).alloc (.cells #[.func (.func 97) #[] #[.pointer (some ⟨w.heap.size,0,none⟩)]] 185)).cell? ⟨w.heap.size+1,0,none⟩=some (.slice AR R.length cR):=by rw[←hw5];exact m5
   clear pE cC aB8 hw5 jU rz Cp hS hrun aKB hz5;go_wp2_with fail;rw[←Hw5.out];go_loopw [8,27] (fun v t W=>∃k:Nat,k≤R.length∧t= .int .i64 k∧Below w5.heap.size w5 W∧W.ownsRow w5.heap.size 83 3 v ((R.take k).filter (iW L R)).length (((R.take k).filter (iW L R)).flatMap fC.cells)) (fun _ t W=>R.length-(intOf t).toNat)
   case atStart=>exact⟨0,nZ,rfl,Below.refl _ _,World.ownsRow_nil _ _ _ _⟩
   case round=>
    obtain⟨k,hk,rfl,hB,hown⟩:=hrel;generalize wr=W at *;obtain⟨Av,cv,rfl,_⟩:=bp hown;have aWg:w.heap.size+1<w5.heap.size:=by have:=Hz5.out;omega
    have hsW:=hB.size;by_cases sF:k<R.length
    ·obtain⟨b,o,rfl,hb,hc⟩:=(Ej.out.rr.keep hB) oz
     obtain⟨d0,d1,d2,_⟩:=hc k sF;have iw:=fun h=>Yg (p:=iW L R) sF h
     have jT:=fun h=>aB9 (p:=iW L R) sF h
     have hN:=Yh (p:=iW L R) (R:=R) (k:=k);have IG:b<W.heap.size:=World.block_lt_of_cell? W _ d0;have Yi:=fun x=>UG x (W.alloc (.cells #[.string R[k].c.unit,.slice R[k].n.a R[k].n.n R[k].n.c,.slice R[k].x.a R[k].x.n R[k].x.c] 83)) ((Ej.out.below hB).below (bN)) (fun y hy=>Hx.out y (aKA.out y hy))
     have au:=Yi R[k];have fS:=lz iw;have oQ:=lz jT;have kZ:=lz hown;have HB:=lz hB;clear hc iw jT hown hB Yi m5 hmm yc;obtain⟨i0,lX,hz0,hz1,hz2⟩:=info_parts aFg;generalize (R.take k).filter (iW L R)=N at *;generalize hR:R[k]=x at *;clear hR
     cases hq:iW L R x with
     | true=>
      rw[hq]at au;have Hn:=lz (fS.out hq);have aN:=lz au;clear au hq fS oQ;go_wp2_with fail;refine aN.out.mono ?_;rintro e W2 ⟨rfl,dI⟩;have Pq:Below W.heap.size W W2:=((Below.refl _ W).alloc nL (.cells #[.string x.c.unit,.slice x.n.a x.n.n x.n.c,.slice x.x.a x.x.n x.x.c] 83)).trans (dI.mono qz);have hx2:=(ah.new W 83 #[.string x.c.unit,.slice x.n.a x.n.n x.n.c,.slice x.x.a x.x.n x.x.c]).below dI qz;have e0:W2.cell? ⟨W.heap.size,0,none⟩=some (.string x.c.unit):=hx2.cell 0;have e1:W2.cell? ⟨W.heap.size,1,none⟩=some (.slice x.n.a x.n.n x.n.c):=hx2.cell 1;have e2:W2.cell? ⟨W.heap.size,2,none⟩=some (.slice x.x.a x.x.n x.x.c):=hx2.cell 2;have SF:=lz (lV kZ.out (gL (row:=none) Pq) (fun r e=>by cases e));have eF:=lz (HB.out.trans (Pq.mono HB.out.size));clear dI Pq hx2 aN;go_wp2_with (at_builtin;refine wpList_append_own _ rfl (.tmp 34) (.tmp 36) 28 rfl w5.heap.size 83 i0 (.agg #[.string ⟨#[]⟩,.slice none 0 0,.slice none 0 0]) 3 64 Tryz.underlying28 lX hz0 hz1 hz2 rfl dz _ _ _ rfl (SF.out.alloc _) ⟨W2.heap.size,0,none⟩ 1 1 [.string x.c.unit,.slice x.n.a x.n.n x.n.c,.slice x.x.a x.x.n x.x.c] rfl rfl ?c1 ?c2 ?c3 ?c4 ?c5 ?_)
      case c1=>
       intro j u' hj;rw[bO,Nat.zero_add,(ah.new W2 83 #[.string x.c.unit,.slice x.n.a x.n.n x.n.c,.slice x.x.a x.x.n x.x.c]).cell j];simpa using hj
      case c2=>intro u' kQ;simp at kQ;rcases kQ with rfl | rfl | rfl<;>rfl
      case c3=>unfold maxLen;omega
      case c4=>omega
      case c5=>have:=eF.out.size;simp;omega
      intro v5 W5 dQ mE _;have jU:=(eF.out.alloc eF.out.size (.cells #[.string x.c.unit,.slice x.n.a x.n.n x.n.c,.slice x.x.a x.x.n x.x.c] 83)).grown mE (by have:=eF.out.size;simp;omega) (fun g hg=>((SF.out.alloc (.cells #[.string x.c.unit,.slice x.n.a x.n.n x.n.c,.slice x.x.a x.x.n x.x.c] 83)).lt g hg).1);have HR:=lz (ai jU dQ);clear dQ mE jU;go_wp2;go_roundw
      case rel=>exact⟨k+1,oz,by go_num,HR.out.1,by rw[Hn.out];simpa [fC.cells]using HR.out.2⟩
      case measure=>simp[intOf];omega
     | false=>
      rw[hq]at au;have Hn:=lz (oQ.out hq);have aN:=lz au;clear au hq fS oQ;go_wp2_with fail;refine aN.out.mono ?_;rintro e W2 ⟨rfl,dI⟩;have Pq:Below W.heap.size W W2:=((Below.refl _ W).alloc nL (.cells #[.string x.c.unit,.slice x.n.a x.n.n x.n.c,.slice x.x.a x.x.n x.x.c] 83)).trans (dI.mono qz);have SF:=lz (lV kZ.out (gL (row:=none) Pq) (fun r e=>by cases e));have eF:=lz (HB.out.trans (Pq.mono HB.out.size));clear dI Pq aN;go_wp2;go_roundw
      case rel=>exact⟨k+1,oz,by go_num,eF.out,by rw[Hn.out];exact SF.out⟩
      case measure=>simp[intOf];omega
    ·obtain rfl:k=R.length:=by omega
     rw[List.take_length]at hown;have hkW:=Ej.out.k.below hB oz;have aCA:=Ej.out.br.below hB oz;have brc:W.cell? ⟨w.heap.size+1,0,none⟩=some (.slice AR R.length cR):=aCA.cell 0;have brf:W.frozen? ⟨w.heap.size+1,0,none⟩=false:=aCA.frozen 0;have hNl:(R.filter (iW L R)).length≤R.length:=List.length_filter_le _ _;have aDv:∀x∈R.filter (iW L R),x∈L:=fun x hx=>aKA.out x (List.mem_filter.1 hx).1
     rw[show(List.filter (iW L R) (List.take R.length R)).length=(R.filter (iW L R)).length by rw[List.take_length]]at *;have aOx:=lz lg.out;have aDw:=lz aDv;have kZ:=lz hown;have HB:=lz hB;have HkW:=lz hkW;have aOy:=lz aCA;clear hown hB hkW aCA aDv m5 hmm yc;generalize R.filter (iW L R)=N at *;have hG:=Gr.setCell (X:=(· =w.heap.size+1)) W ⟨w.heap.size+1,0,none⟩ (.slice Av N.length cv) rfl;have jY:Below w.heap.size w (W.setCell ⟨w.heap.size+1,0,none⟩ (.slice Av N.length cv)):=(aJ9.out.trans (HB.out.mono aJ9.out.size)).setCell qz _;have hown2:=cO kZ.out hG (fun j hj e=>by have:=(kZ.out.lt j hj).1;omega);have Ct:=Yj hown2 (fun x hx=>(kX.out x (aDw.out x hx)).below jY);have qR:Ye w g A L c Av N cv (W.setCell ⟨w.heap.size+1,0,none⟩ (.slice Av N.length cv)):=
      ⟨jY,HkW.out.far qz _,by simpa using aOy.out.bX 0 (.slice Av N.length cv),Ct,aDw.out,oz⟩
     have Hm1:=lz (qR.br.cell 0);have Hst:=lz qR;clear hG jY hown2 Ct qR;go_wp2;go_roundw
     case rel=>exact⟨f',R.length,N,Av,cv,rfl,aOx,Hst.out,oz⟩
     case measure=>
      rw[Hm1.out,Hm0.out,show(#[Value.slice Av N.length cv]:Array Value)[0]?=some (.slice Av N.length cv)from rfl,SG,SG,if_neg hn];split<;>omega
theorem kS{s:ByteArray}(h:dh s=true):s.size≤maxLen:=by
 unfold dh at h;split at h
 ·cases h
 ·unfold maxLen;omega
structure rJ(x:ay):Prop where
 mods:∀m∈x.mods.l,Ku m=true
 aj:∀m∈x.aj.l,AP m=true
 aP:∀m∈x.aP.l,AQ m=true
 links:∀m∈x.links.l,xQ m=true
 aF:∀m∈x.aF.l,Z9 m=true
 bQ:∀m∈x.bQ.l,pT m=true
 causes:∀m∈x.causes.l,vD m=true
 aA:∀m∈x.aA.l,P7 m=true
theorem aFh{x:ay}(h:mG x=true):rJ x:=by
 simp only[mG,Bool.and_eq_true,List.all_eq_true]at h;obtain⟨⟨⟨⟨⟨⟨⟨h1,h2⟩,h3⟩,h4⟩,h5⟩,h6⟩,h7⟩,h8⟩:=h;exact⟨h1,h2,h3,h4,h5,h6,h7,h8⟩
structure yw(x:ay):Prop where
 aKC:∀y∈gi x,y.dst.l.length≤8
 ml:x.mods.l.length≤4
 chl:x.aj.l.length≤16
 vl:x.aF.l.length≤16
 sl:x.aP.l.length≤8
 ll:x.links.l.length≤32
 hl:x.bQ.l.length≤32
 cl:x.causes.l.length≤32
 mods:∀m∈x.mods.l,mZ m=true
 aP:∀m∈x.aP.l,vJ m=true
 causes:∀m∈x.causes.l,j6 m=true
theorem aKD{x:ay}(h:iV x=true):yw x:=by
 simp only[iV,gU,Bool.and_eq_true,List.all_eq_true,decide_eq_true_eq]at h;obtain⟨h1,⟨⟨⟨⟨⟨⟨⟨⟨⟨c1,c2⟩,c3⟩,c4⟩,c5⟩,c6⟩,m⟩,s⟩,l⟩,c⟩⟩:=h;have c7:=c6 (x.bQ.l.length:Int) qz;have c8:=c6 (x.causes.l.length:Int) qz;simp only[dJ,Bool.and_eq_true,decide_eq_true_eq]at c7 c8;exact⟨fun y hy=>by have:=h1 y hy;simp only[iL,Bool.not_eq_true',decide_eq_false_iff_not]at this;omega,oz,oz,oz,oz,oz,oz,oz,m,s,c⟩
theorem yw.part{x:ay}(h:yw x){y:WM}(hy:y∈fE x):kP y.2=true∧y.1.parts.l.length≤6:=by
 obtain⟨hm,hp⟩:=tY (show(y.1,y.2)∈fE x from hy);have h1:=h.mods _ hm;simp only[mZ,Bool.and_eq_true,List.all_eq_true,decide_eq_true_eq]at h1;exact⟨h1.2 _ hp,by have:=h1.1.2;omega⟩
theorem KZ{p:aC}(h:kP p=true):p.procs.l.length≤6∧p.aq.l.length≤8∧1≤p.pe∧∀q∈p.aq.l,1≤q.sz∧q.sz≤64:=by
 simp only[kP,Bool.and_eq_true,List.all_eq_true,decide_eq_true_eq]at h;obtain⟨⟨⟨⟨⟨_,⟨⟨⟨_,_⟩,c1⟩,c2⟩⟩,_⟩,c3⟩,c4⟩,_⟩:=h;have c5:=c3 p.pe qz;simp only[dJ,Bool.and_eq_true,decide_eq_true_eq]at c5;refine⟨oz,oz,c5.1,fun q hq=> ?_⟩;have:=c4 q hq;simp only[D9,Bool.and_eq_true,List.all_cons,List.all_nil,dJ,decide_eq_true_eq]at this;exact this.2.2.1
theorem rJ.part{x:ay}(h:rJ x){y:WM}(hy:y∈fE x):xT y.2=true:=by
 obtain⟨hm,hp⟩:=tY (show(y.1,y.2)∈fE x from hy);have h1:=h.mods _ hm;simp only[Ku,Bool.and_eq_true,List.all_eq_true]at h1;exact h1.2 _ hp
theorem NV{p:aC}(h:xT p=true):dh p.nm=true∧(∀q∈p.aq.l,AO q=true)∧∀q∈p.procs.l,xS q=true:=by
 simp only[xT,Bool.and_eq_true,List.all_eq_true]at h;exact⟨h.1.1.1.1.1,h.1.2,h.2⟩
theorem aKE{x:ay}(h:yw x):∀y∈fE x,¬y.2.pe=0:=fun y hy=>by
 have:=(KZ (h.part hy).1).2.2.1;omega
theorem aOz{x:ay}(hF:rJ x)(h:yw x):aI6 x where
 m:=fun m hm=>by
  have h1:=hF.mods m hm;have h2:=h.mods m hm;simp only[Ku,mZ,Bool.and_eq_true,decide_eq_true_eq]at h1 h2;exact⟨kS h1.1.1,by have:=h2.1.2;omega⟩
 p:=fun y hy=>by
  obtain⟨h1,h2,h3⟩:=NV (hF.part hy);obtain⟨k1,k2,_,_⟩:=KZ (h.part hy).1;refine⟨kS h1,oz,oz,fun q hq=> ?_,fun q hq=> ?_⟩
  ·have:=h2 q hq
   simp only[AO,Bool.and_eq_true]at this;exact kS this.1.2
  ·have:=h3 q hq
   simp only[xS,Bool.and_eq_true]at this;exact kS this.1.1
 s:=fun m hm=>by
  have h1:=hF.aP m hm;simp only[AQ,Bool.and_eq_true]at h1;exact kS h1.1.1
 v:=fun m hm=>by
  have h1:=hF.aF m hm;simp only[Z9,Bool.and_eq_true]at h1;exact kS h1.1.1
 ml:=by have:=h.ml;omega
 sl:=by have:=h.sl;omega
 vl:=by have:=h.vl;omega
theorem Yk{r:bw}(h:DT r=true):r.ok:=by
 simp only[DT,List.all_cons,List.all_nil,Bool.and_eq_true,Bool.and_true]at h;exact⟨kS h.1,kS h.2.1,kS h.2.2⟩
theorem C8{r:bw}{l:List bw}(h:sV r l=true):r.ok∧∀q∈l,q.ok:=by
 simp only[sV,Bool.and_eq_true,List.all_eq_true]at h;exact⟨Yk h.1,fun q hq=>Yk (h.2.2 q hq)⟩
theorem aO0{x:ay}(hF:rJ x)(h:yw x):aJL x where
 n:=by
  have h1:=h.chl;have h2:=h.vl;unfold gi;rw[List.length_append,List.length_map,List.length_map];omega
 r:=fun y hy=>by
  have hl:=h.aKC y hy;unfold gi at hy;rcases List.mem_append.1 hy with hy | hy
  ·obtain⟨z,hz,rfl⟩:=List.mem_map.1 hy
   have h1:=hF.aj z hz;simp only[AP]at h1;exact⟨(C8 h1).1,oz,(C8 h1).2⟩
  ·obtain⟨z,hz,rfl⟩:=List.mem_map.1 hy
   have h1:=hF.aF z hz;simp only[Z9,Bool.and_eq_true]at h1;exact⟨(C8 h1.1.2).1,oz,(C8 h1.1.2).2⟩
theorem aFi{x:ay}(hF:rJ x):∀y∈x.links.l,0≤y.net∧y.net≤1:=fun y hy=>by
 have h1:=hF.links y hy;simp only[xQ,Bool.and_eq_true,DR,decide_eq_true_eq]at h1;have:=h1.1.2;omega
theorem NW:(Lib.fields oh.data.toList).length=8:=by kernel_rfl
theorem aKF{x:ay}(hF:rJ x):∀y∈x.bQ.l,0≤y.dd∧y.dd≤8:=fun y hy=>by
 have h1:=hF.bQ y hy;simp only[pT,Bool.and_eq_true]at h1;have h2:=h1.2;rcases Decidable.em (y.dd<1∨y.dd>8)with h | h
 ·have e:nY oh y.dd=⟨#[]⟩:=by
   unfold nY F6;rw[NW,if_pos (show y.dd<1∨y.dd>((8:Nat):Int)from h)]
  rw[e]at h2;exact absurd h2 dz
 ·omega
theorem NX{l:List aC}{p:Int}{q:aM}(h:q∈jQ l p):∃y∈l,q∈y.aq.l:=by
 unfold jQ at h
 cases hq:l[p.toNat]? with
 | none=>rw[hq]at h;simp at h
 | some y=>rw[hq]at h;exact⟨y,List.mem_of_getElem? hq,by simpa using h⟩
theorem NY{x:ay}{m:Int}{p:aC}(h:p∈fN x m):∃y∈x.mods.l,p∈y.parts.l:=by
 unfold fN at h
 cases hq:x.mods.l[m.toNat]? with
 | none=>rw[hq]at h;simp at h
 | some y=>rw[hq]at h;exact⟨y,List.mem_of_getElem? hq,by simpa using h⟩
theorem aKG{x:ay}(h:yw x)(r:bw):(fD x r).1.sz≤1000000∧ -1000000≤(fD x r).1.sz:=by
 unfold fD;split
 ·exact⟨dz,dz⟩
 ·dsimp only
  cases hq:(jQ (fN x (mQ x r).1) (mQ x r).2.1)[(mQ x r).2.2.toNat]? with
  | none=>exact⟨dz,dz⟩
  | some q=>
   obtain⟨p,hp,hqp⟩:=NX (List.mem_of_getElem? hq);obtain⟨m,hm,hpm⟩:=NY hp;have:=(KZ (h.part (Jc hm hpm)).1).2.2.2 q hqp;simp only[Option.getD_some];omega
theorem Yl{x:gu}(h:rB x=true):jt x.a∧jt x.b∧jt x.d:=by
 simp only[rB,Bool.and_eq_true,List.all_eq_true]at h;obtain⟨_,h1,h2⟩:=h;have aJ:∀v∈ [x.a,x.b,x.d],jt v:=fun v hv=>by
  rw[←List.take_append_drop (mX x.op).size [x.a,x.b,x.d]]at hv;rcases List.mem_append.1 hv with hv | hv
  ·have:=h1 v hv
   simp only[fH,Bool.and_eq_true,decide_eq_true_eq]at this;exact⟨oz,oz⟩
  ·have:=of_decide_eq_true (h2 v hv)
   exact⟨oz,oz⟩
 exact⟨aJ _ qz,aJ _ qz,aJ _ qz⟩
theorem aFj{x:ay}(hF:rJ x):∀y∈fE x,∀q∈y.2.procs.l,∀z∈q.code.l,jt z.a∧jt z.b∧jt z.d:=fun y hy q hq z hz=>by
 have h1:=(NV (hF.part hy)).2.2 q hq;simp only[xS,Bool.and_eq_true,List.all_eq_true]at h1;exact Yl (h1.2 z hz)
theorem aCB{x:ay}(h:yw x){w:World}{B:Nat}(hr:∀y∈x.causes.l,y.rd w B):∀y∈x.causes.l,y.c.excl.length≤8∧y.c.needs.length≤8:=fun y hy=>by
 have h1:=h.causes y hy;simp only[j6,Bool.and_eq_true,List.all_cons,List.all_nil,dJ,decide_eq_true_eq,Bool.and_true]at h1;have h2:=(hr y hy).nl;have h3:=(hr y hy).xl;omega
theorem Jg(L:List fC):∀(f:Nat) (n:Int) (R:List fC),R.length+2≤f∨(n=R.length∧1≤f)→∃b,Cy L f n R=some b
 | 0,n,R,h=>by omega
 | f+1,n,R,h=>by
  rw[Cy];by_cases hn:n=R.length
  ·rw[if_pos hn];exact⟨_,rfl⟩
  ·rw[if_neg hn]
   refine Jg L f _ _ ?_;have h1:=List.length_filter_le (iW L R) R;rcases h with h | h
   ·by_cases e:(R.filter (iW L R)).length=R.length
    ·exact .inr ⟨by rw[e],oz⟩
    ·exact .inl oz
   ·exact absurd h.1 hn
def C9(x:ay):Bool:=(Cy x.causes.l (x.causes.l.length+2) (-1) x.causes.l).getD false
theorem NZ(x:ay):Cy x.causes.l (x.causes.l.length+2) (-1) x.causes.l=some (C9 x):=by
 obtain⟨b,hb⟩:=Jg x.causes.l (x.causes.l.length+2) (-1) x.causes.l (.inl oz);unfold C9;rw[hb];rfl
def Bz(y:WM):Bool:=y.2.procs.l.all fun q=>q.code.l.all fun z=>mJ y.2 q.code.l.length z
def K0(x:ay):Bool:=(fE x).all Bz
open Go.Act renaming put → zP
open List renaming setIfInBounds_toArray → zA, set_cons_zero → zB, set_cons_succ → zC
theorem aFk(p:aC)(n:Int)(x:gu)(w:World)(hL:ct w)(h0:0≤x.op∧x.op≤255)(ha:jt x.a)(hb:jt x.b)(hd:jt x.d)(hr:fu w w.heap.size p.aq.a p.aq.l):
 CU 85 #[p.val,.int .i64 n,x.val] w (.bool (mJ p n x)):=by
 obtain⟨y0,bR⟩:=ez (w.alloc (.cells p.cl 71));obtain⟨y1,K1⟩:=ez (y0.alloc (.cells #[.int .u8 x.op,.int .i64 x.a,.int .i64 x.b,.int .i64 x.d] 169));have hz0:y0.heap.size=w.heap.size+1:=by rw[bR];simp
 have hz1:y1.heap.size=w.heap.size+1+1:=by rw[K1];simp[hz0]
 have bW:Below w.heap.size w y0:=by rw[bR];exact bN
 have bY:Below w.heap.size w y1:=by rw[K1];exact bW.alloc bW.size _
 have kg:p.bk y1 w.heap.size:=by
  have h1:p.bk y0 w.heap.size:=by rw[bR];exact ah.new w _ _
  rw[K1];exact h1.below (bN) h1.lt
 have gP:x.bk y1 (w.heap.size+1):=by rw[K1,←hz0];exact ah.new y0 _ _
 have Jf:=aB6 x y1 (hL.below bY) h0 ha hb hd;have kx0:=gP.cell 0;have kx1:=gP.cell 1;have kx2:=gP.cell 2;have kx3:=gP.cell 3;rw[hz1]at Jf;have QJ:=Jf;rw[K1,bR]at QJ;have X7:=lz QJ;have cU:=lz bY;have UK:=lz kg;have DU:=lz gP;have dV:=lz bR;have Hy1:=lz K1;have HZ1:=lz hz1;have HL:=lz hL;have H0:=lz h0;have Hr:=lz hr;have HA:=lz (show mJ p n x=(rB x&&(NS x).all fun q=>mS p n x q.1.toNat q.2)from rfl);clear Jf QJ bW bY kg gP bR K1 hz0 hz1 hL hr h0 ha hb hd kx0 kx1 kx2 kx3;go_enter Tryz.func85,Tryz.ntmps85;go_wp2_with fail;refine X7.out.mono ?_;rintro e y2 ⟨⟨s,z,rfl,hz⟩,dI⟩;rw[←dV.out,←Hy1.out]at dI;have kq:Below y1.heap.size y1 y2:=by rw[HZ1.out];exact dI
 have eF:=lz kq;clear dI kq
 cases hq:rB x with
 | false=>
  rw[hq]at hz;have hz1:¬z=0:=by simpa using hz
  go_wp2;go_ret;exact⟨by rw[HA.out,hq];rfl,cU.out.trans (eF.out.mono cU.out.size)⟩
 | true=>
  rw[hq]at hz;obtain rfl:z=0:=by simpa using hz
  clear hz;go_wp2_with fail;refine wp_region_any kz ?_;refine UA (C:=⟨p,n,w.heap.size,w.heap.size+1,y2.drew,_⟩) (mb:=0) ?_ (dP.first _ 0 rfl rfl _ (Below.refl _ _)) ?_
  ·exact⟨rfl,rfl,rfl,rfl,rfl,(UK.out.below eF.out.drew UK.out.lt)⟩
  ·rintro mb ⟨tm,df⟩ w6 h6
   obtain⟨t25,t26,t27,t28,t29,t30,t31,t32,t33,t34,t35,t36,t37,t38,t39,t40,t41,t42,t43,t44,t45,t46,t47,t48,t49,t50,t51,t52,t53,t54,t55,t56,t57,t58,rfl,rfl,rz,kk,D,D8,hfm,RF⟩:=aFe h6;have DV:=lz rz;have Hfm:=lz hfm;have Hfn:=lz RF;have RR:=lz (cU.out.trans ((eF.out.drew.trans (rz.mono eF.out.drew.size)).mono cU.out.size));have UL:=lz (DU.out.below (eF.out.drew.trans (rz.mono eF.out.drew.size)) DU.out.lt);have kx0:=UL.out.cell 0;have kx1:=UL.out.cell 1;have kx2:=UL.out.cell 2;have kx3:=UL.out.cell 3;clear h6 rz hfm RF;have aO3:=UL.out.lt;have aWm:(w6.alloc (.cells #[.int .i64 x.a,.int .i64 x.b,.int .i64 x.d] 215)).cell? ⟨w.heap.size+1,0,none⟩=some (.int .u8 x.op):=(World.cell?_alloc_lt w6 _ ⟨w.heap.size+1,0,none⟩ aO3).trans kx0;have P8:=lz (oq x.op _ (HL.out.below (RR.out.alloc RR.out.size (.cells #[.int .i64 x.a,.int .i64 x.b,.int .i64 x.d] 215))) H0.out.1 H0.out.2);show Exit.then _ _ _ _ _;go_wp2_with fail;refine P8.out.mono ?_;rintro e w7 ⟨rfl,Nk⟩;have RZ:=lz Nk;clear Nk;have HT3:=lz (qE x.op);have HTk:=lz (X9 x.op);obtain⟨t,ht⟩:=ez (mX x.op);rw[←ht]at HT3 HTk;rw[←ht];have Ht:=lz ht;clear ht;have Uy:Hid (Below w.heap.size w w7):=lz ((RR.out.alloc RR.out.size _).trans (RZ.out.mono (RR.out.alloc RR.out.size _).size));go_wp2;go_loopw [13,14] (fun _ _ wr=>∃k:Nat,k≤t.size∧wr.heap[w7.heap.size]?=some (.stringIter t k)∧Hid (Below w7.heap.size w7 wr)∧Hid (((NS x).take k).all (fun q=>mS p n x q.1.toNat q.2)=true)) (fun _ _ wr=>t.size-(match wr.heap[w7.heap.size]? with | some (.stringIter _ q)=>q | _=>0))
   case atStart=>exact⟨0,nZ,World.iter_heap w7 t 0,lz (bN),lz rfl⟩
   case round=>
    obtain⟨k,hk,hit,HW,HK⟩:=hrel;by_cases hlt:k<t.size
    ·have hn:=fun ty=>Go.Lib.run_next_ascii_at (P:=pG) wr w7.heap.size t k ty hit hlt (QI _ (HTk.out _ (by simp[ByteArray.getElem_eq_getElem_data])))
     obtain⟨w9,hw9⟩:=ez (wr.iterAt w7.heap.size t (k+1));simp only[←hw9]at hn;have aKI:w9.heap[w7.heap.size]?=some (.stringIter t (k+1)):=by rw[hw9];exact Lib.iterAt_heap wr _ t k _ hit
     have Jh:Below w7.heap.size w7 w9:=by rw[hw9];exact below_iterAt HW.out _ nL _ _
     have hA6:Below w6.heap.size w6 (w6.alloc (.cells #[.int .i64 x.a,.int .i64 x.b,.int .i64 x.d] 215)):=bN;have aFl:Below w6.heap.size w6 w7:=hA6.trans (RZ.out.mono hA6.size);have UM:Below w6.heap.size w6 w9:=aFl.trans (Jh.mono aFl.size);have zn:k<3:=by have:=HT3.out;omega
     have hnn:=NR hq;have hnk:(0:Int)≤ [x.a,x.b,x.d][k]:=by
      have:k=0∨k=1∨k=2:=by omega
      rcases this with rfl | rfl | rfl
      ·exact hnn.1
      ·exact hnn.2.1
      ·exact hnn.2.2
     obtain⟨m,hm⟩:∃m:Nat,[x.a,x.b,x.d][k]=(m:Int):=Int.eq_ofNat_of_zero_le hnk;have iO:ah w9 w6.heap.size 215 #[.int .i64 x.a,.int .i64 x.b,.int .i64 x.d]:=((ah.new w6 _ _).below RZ.out (ah.lt (ah.new w6 _ _))).below Jh (by have:=RZ.out.size;simp at this;omega);have hcell:w9.cell? ⟨w6.heap.size,k,none⟩=some (.int .i64 (m:Int)):=by
      rw[←hm];have:k=0∨k=1∨k=2:=by omega
      rcases this with rfl | rfl | rfl
      ·exact iO.cell 0
      ·exact iO.cell 1
      ·exact iO.cell 2
     have aKJ:Below y1.heap.size y1 w6:=eF.out.drew.trans (DV.out.mono eF.out.drew.size);obtain⟨f,lb,hat,hen,au⟩:=aJ5 _ x Hfn.out (UK.out.below aKJ UK.out.lt) UL.out ((Hr.out.below RR.out)) hnn.1 t[k].toNat (HTk.out _ (by simp[ByteArray.getElem_eq_getElem_data])) m;have uT:=(Hfm.out.below UM Hfm.out.lt).look t[k].toNat ((show∀k∈QH,(kI (k:Int)).wf=true by decide) _ (HTk.out t[k] (by simp[ByteArray.getElem_eq_getElem_data]))) hat;have Ym:=((Hfm.out.below UM Hfm.out.lt).below (w':=w9.drew) (Below.refl w9.heap.size w9).drew ((Hfm.out.below UM Hfm.out.lt)).lt).look t[k].toNat ((show∀k∈QH,(kI (k:Int)).wf=true by decide) _ (HTk.out t[k] (by simp[ByteArray.getElem_eq_getElem_data]))) hat;have hHeld:w9.drew.cell? ⟨w6.heap.size,k,none⟩=some (.int .i64 (m:Int))∧(Instr.lookup 214 (.map (some mb)) (.int .i32 ((t[k].toNat:Nat):Int)) false).run pG w9.drew= .ok (.func (.func f) #[] lb) w9.drew:=⟨hcell,Ym⟩;have hc9:=au w9.drew UM.drew;have Hc9:=lz hc9;have hl:=NT x;rw[←Ht.out]at hl;have wu:(NS x)[k]'(by omega)=(t[k],(m:Int)):=by
      have h1:(mX x.op).data.toList[k]'(by rw[←Ht.out];simpa using hlt)=t[k]:=by
       have:t=mX x.op:=Ht.out;subst this;simp[ByteArray.getElem_eq_getElem_data]
      unfold NS;rw[List.getElem_zip,h1,hm]
     have Hgl:=lz wu;have Hl:=lz hl;have aDy:=lz hHeld;have Hen:=lz hen;have Hlo:=lz (show∀b,mS p n x t[k].toNat m=b→mS p n x t[k].toNat m=b from fun _ h=>h);clear au hc9 hw9 uT Ym hcell hHeld hen hat hnn hnk hm iO aKJ aFl hA6;go_wp2_with fail;have aKM:=lz aKI;have VA:=lz Jh;have aWn:=lz UM;have Hgl:=lz wu;clear hn aKI Jh UM wu D8 hq;have aWo:(k:Int)<3:=by omega
     refine aT (fun W=>W.cell? ⟨w6.heap.size,k,none⟩=some (.int .i64 (m:Int))∧(Instr.lookup 214 (.map (some mb)) (.int .i32 ((t[k].toNat:Nat):Int)) false).run pG W= .ok (.func (.func f) #[] lb) W) 6 kz aDy.out (fun hHeld=> ?_);refine TS 0 rfl hHeld ?_
     simp only[zP,zA,zB,zC];refine TS 1 rfl hHeld ?_
     simp only[zP,zA,zB,zC];refine TS 2 rfl hHeld ?_
     simp only[zP,zA,zB,zC];refine TS 3 rfl hHeld ?_
     simp only[zP,zA,zB,zC];refine TS 4 rfl hHeld ?_
     simp only[zP,zA,zB,zC];refine TS 5 rfl hHeld ?_
     simp only[zP,zA,zB,zC];refine RQ 6 rfl fun K hK=> ?_;have hen:=Hen.out;go_simp
     trace_state
     refine Hc9.out.mono ?_;rintro e w10 ⟨rfl,zU⟩;refine hK.out _ _ (fun h=>absurd h dz) ?_;clear hK hHeld hen;refine RQ 7 rfl fun K hK=> ?_;go_simp;refine hK.out _ _ (fun h=>absurd h dz) ?_;clear hK;refine aL kz ?_ _;have Yn:=lz (VA.out.drew.trans (zU.mono VA.out.drew.size));have aDz:Hid (w10.heap[w7.heap.size]?=some (.stringIter t (k+1))):=lz ((zU.block _ (gE (show w9.drew.heap[w7.heap.size]?=_ from aKM.out)).1).trans aKM.out);clear zU aDy Hen Hc9
     cases VY:mS p n x t[k].toNat m with
     | false=>
      go_wp2;go_ret;have aJ:(NS x).all (fun q=>mS p n x q.1.toNat q.2)=false:=yq (p:=fun q:UInt8×Int=>mS p n x q.1.toNat q.2) (k:=k) oz (by rw[Hgl.out];exact VY);exact⟨by rw[HA.out,aJ];simp,Uy.out.trans (Yn.out.mono Uy.out.size)⟩
     | true=>
      go_wp2;go_roundw
      case rel=>exact⟨k+1,oz,aDz.out,Yn,lz (uV oz HK.out (by rw[Hgl.out];exact VY))⟩
      case measure=>rw[aDz.out,hit];simp;omega
    ·have hn:=fun ty=>Go.Lib.run_next_end_at (P:=pG) wr w7.heap.size t k ty hit hlt
     go_wp2;go_ret;have hl:=NT x;rw[←Ht.out]at hl;have rZ:=HK.out;rw[List.take_of_length_le oz]at rZ;exact⟨by rw[HA.out,hq,rZ];rfl,Uy.out.trans (HW.out.mono Uy.out.size)⟩
theorem Yo(p:aC)(q:cT)(z:gu)(Bp Bq:Nat)(w:World)(hL:ct w)(hz:z.rd w w.heap.size)(hp:p.rd w w.heap.size)(Ea:ah w Bp 71 #[.string p.nm,.int .i64 p.pe,.int .i64 p.le,.int .i64 p.mem,.slice p.aG.a p.aG.l.length p.aG.c,.int .i64 p.ev,.int .i64 p.bo,.slice p.aX.a p.aX.l.length p.aX.c,.slice p.aq.a p.aq.l.length p.aq.c,.slice p.procs.a p.procs.l.length p.procs.c])(hBq:ah w Bq 76 #[.string q.nm,.int .i64 q.pr,.int .i64 q.pe,.int .i64 q.li,.slice q.code.a q.code.l.length q.code.c])(hi:jt z.a∧jt z.b∧jt z.d):
 CU 84 #[z.val,.pointer (some ⟨Bp,0,none⟩),.pointer (some ⟨Bq,0,none⟩)] w (.bool (mJ p q.code.l.length z)):=by
 obtain⟨y0,bR⟩:=ez (w.alloc (.cells #[.int .u8 z.op,.int .i64 z.a,.int .i64 z.b,.int .i64 z.d] 169));have bW:Below w.heap.size w y0:=by rw[bR];exact bN
 have bS:ah y0 w.heap.size 169 #[.int .u8 z.op,.int .i64 z.a,.int .i64 z.b,.int .i64 z.d]:=by rw[bR];exact ah.new w _ _
 have kg:ah y0 Bp 71 #[.string p.nm,.int .i64 p.pe,.int .i64 p.le,.int .i64 p.mem,.slice p.aG.a p.aG.l.length p.aG.c,.int .i64 p.ev,.int .i64 p.bo,.slice p.aX.a p.aX.l.length p.aX.c,.slice p.aq.a p.aq.l.length p.aq.c,.slice p.procs.a p.procs.l.length p.procs.c]:=Ea.below bW Ea.lt;have hbq:ah y0 Bq 76 #[.string q.nm,.int .i64 q.pr,.int .i64 q.pe,.int .i64 q.li,.slice q.code.a q.code.l.length q.code.c]:=hBq.below bW hBq.lt;have hc:=aFk p q.code.l.length z y0 (hL.below bW) hz.op0 hi.1 hi.2.1 hi.2.2 ((hp.below bW).aq);have k0:=bR▸bS.cell 0;have k1:=bR▸bS.cell 1;have k2:=bR▸bS.cell 2;have k3:=bR▸bS.cell 3;have p0:=bR▸kg.cell 0;have p1:=bR▸kg.cell 1;have p2:=bR▸kg.cell 2;have p3:=bR▸kg.cell 3;have p4:=bR▸kg.cell 4;have p5:=bR▸kg.cell 5;have p6:=bR▸kg.cell 6;have p7:=bR▸kg.cell 7;have p8:=bR▸kg.cell 8;have p9:=bR▸kg.cell 9;have q4:=bR▸hbq.cell 4;have Vx:=Ea.lt;have hlq:=hBq.lt;rw[bR]at hc;have Hc:=lz hc;have aV:=lz bW;have dV:=lz bR;obtain⟨b,hb⟩:=ez (mJ p q.code.l.length z);rw[←hb]at Hc;rw[←hb];clear hc bW bS kg hbq bR hL hz hp Ea hBq hi hb;go_enter Tryz.func84,Tryz.ntmps84;go_wp2_with fail;refine Hc.out.mono ?_;rintro e w1 ⟨rfl,aU⟩;rw[←dV.out]at aU;have HB:=lz (aV.out.trans (aU.mono aV.out.size));clear aU Hc;go_wp2;go_ret;exact⟨rfl,HB.out⟩
theorem aCC(x:ay)(g:Nat)(w:World)(h:tU w g x)(hr:x.rd w w.heap.size)(hL:ct w)(hi:∀y∈fE x,∀q∈y.2.procs.l,∀z∈q.code.l,jt z.a∧jt z.b∧jt z.d):CU 26 #[.pointer (some ⟨g,0,none⟩)] w (.bool (K0 x)):=by
 obtain⟨w1,cN⟩:=ez ((w.alloc (.cells #[.bool false] 4)).alloc (.cells #[.pointer (some ⟨g,0,none⟩)] 92));have aU:Below w.heap.size w w1:=by rw[cN];exact(bN).alloc qz _
 have jy:ah w1 w.heap.size 4 #[.bool false]:=by rw[cN];exact(ah.new w _ _).alloc _
 have gP:ah w1 (w.heap.size+1) 92 #[.pointer (some ⟨g,0,none⟩)]:=by rw[cN];have:=ah.new (w.alloc (.cells #[.bool false] 4)) 92 #[.pointer (some ⟨g,0,none⟩)];rwa[World.size_alloc]at this
 have hz:w1.heap.size=w.heap.size+2:=by rw[cN];simp
 have gH:D6 w1 g (w.heap.size+1) w.heap.size x:=⟨gP,h.below aU,hr.dn nL (cZ aU),oz⟩;have IK:x.mods.l.length≤9223372036854775807:=nT hr.AU (nT hr.AV dz);have um:=lz (CQ x g (w.heap.size+1) w.heap.size (fun _=>False) w1 (fun _ h=>h.elim) (fun _ h=>h.elim) gH IK);have wu:=ah.lt h;have Mk:=lz gH;have lH:=lz cN;have gh:=lz aU;have rT:=lz jy;have Hz:=lz hz;have Hi:=lz hi;have HL:=lz (hL.below aU);clear h hr cN aU jy gP hz gH hi hL;refine(callsIn_wide (n:=9)).1 ?_;refine callsIn_of_wp_marks Tryz.func26 rfl trivial ?_ rfl;simp only[Tryz.ntmps26,List.size_toArray,List.length_cons,List.length_nil,Nat.reduceAdd,Nat.reduceSub,Array.replicate_succ,Array.replicate_zero,List.push_toArray,List.append_toArray,List.nil_append,List.cons_append];refine wpIn_wide.2 ?_;go_wp2_with (go_at_call 70;refine(CX _ _).mono ?_;rintro e w' ⟨rfl,hw'⟩);rw[←lH.out];clear hw';refine(wpIn_wide (n:=9)).1 ?_;have hz1:w.heap.size+2≤w1.heap.size:=Nat.le_of_eq Hz.out.symm;have Xm:w1.heap.size≤w.heap.size+2:=Nat.le_of_eq Hz.out;refine tQ (gf:=151) (lb:= #[.pointer (some ⟨w.heap.size+1,0,none⟩)]) (encs:=II) (xs:=fE x) (X:=fun _=>False) (XE:=fun k=>k=w.heap.size) rfl (enters_of Tryz.func151 kz rfl) (fun _=>rfl) (fun _ h=>h.elim) (fun k e=>by omega) um.out
  (fun T W=>Below w1.heap.size w1 W∧qG Bz T true)
  (fun T W=>ah W w.heap.size 4 #[.bool false]∧Below w.heap.size w W∧qG Bz T false) ?hI ?RU ?TG
  (fun y a' W=>∃m p Bp,y=(m,p)∧w1.heap.size≤Bp∧ah W Bp 71 #[.string p.nm,.int .i64 p.pe,.int .i64 p.le,.int .i64 p.mem,.slice p.aG.a p.aG.l.length p.aG.c,.int .i64 p.ev,.int .i64 p.bo,.slice p.aX.a p.aX.l.length p.aX.c,.slice p.aq.a p.aq.l.length p.aq.c,.slice p.procs.a p.procs.l.length p.procs.c]∧a'={tmps:= #[.pointer (some ⟨g,0,none⟩),undef,.pointer (some ⟨w.heap.size,0,none⟩),undef,.pointer (some ⟨Bp,0,none⟩),undef,undef,.pointer (some ⟨g,0,none⟩),.func (.func 151) #[] #[.pointer (some ⟨w.heap.size+1,0,none⟩)],m.val,p.val,undef,undef,undef,undef,undef,undef,undef,undef,undef,undef,undef,undef,undef],defers:= []}) ?Kf ?assign ?body ?done ?ret
 case hI=>exact fun T W W' h hb=>⟨h.1.trans hb,h.2⟩
 case RU=>exact fun T W W' h hb=>⟨ah.below h.1 hb oz,h.2.1.trans (hb.mono oz),h.2.2⟩
 case TG=>exact⟨Below.refl _ _,rfl⟩
 case Kf=>
  rintro y l a' W o o' hl ho hc ⟨m,p,Bp,e,h2,h4,h5⟩;exact⟨m,p,Bp,e,h2,mW h4 ho hc,h5⟩
 case assign=>
  rintro l T ⟨m,p⟩ W K hT hsz hK;gi_wp2;exact hK _ _ (bN) ⟨m,p,W.heap.size,rfl,oz,ah.new W _ _,rfl⟩
 case body=>
  rintro l T y a' W hT hsz hG ⟨wV,aJ⟩ ⟨m,p,Bp,rfl,h2,kg,rfl⟩;have iU:=CW hT;have hip:=Hi.out _ iU;dsimp only at hip;have fK:=(KH ((Mk.out.gr (X:=fun _=>False) (fun _ h=>h.elim) hG).r) iU).2;have CP:=(Mk.out.gr (X:=fun _=>False) (fun _ h=>h.elim) hG).B;have fK:p.rd W W.heap.size:=fK.more CP;have p9:=kg.cell 9;have Vx:=kg.lt;have iY:=rT.out.below wV oz;have Qm:∀b,Bz (m,p)=b→qG Bz (T++ [(m,p)]) b:=fun b hb=>by unfold qG at *;rw[yd,aJ,hb];rfl
  have yg:∀W2,Below W.heap.size W W2→Bz (m,p)=false→(Gr (fun k=>k=w.heap.size) W (W2.setCell ⟨w.heap.size,0,none⟩ (.bool false))∧ah (W2.setCell ⟨w.heap.size,0,none⟩ (.bool false)) w.heap.size 4 #[.bool false]∧Below w.heap.size w (W2.setCell ⟨w.heap.size,0,none⟩ (.bool false))∧qG Bz (T++ [(m,p)]) false)∧W2.cell? ⟨w.heap.size,0,none⟩=some (.bool false)∧W2.frozen? ⟨w.heap.size,0,none⟩=false:=fun W2 h2 hb=>
   ⟨⟨(Gr.ak h2).trans (Gr.setCell W2 ⟨w.heap.size,0,none⟩ _ rfl),by simpa using(iY.below h2 iY.lt).bX 0 (.bool false),(gh.out.trans ((wV.trans (h2.mono wV.size)).mono gh.out.size)).setCell (p:=⟨w.heap.size,0,none⟩) nL _,Qm _ hb⟩,(iY.below h2 iY.lt).cell 0,(iY.below h2 iY.lt).frozen 0⟩
  have hcb:Bz (m,p)=p.procs.l.all fun q=>q.code.l.all fun z=>mJ p q.code.l.length z:=rfl
  have hpl:(p.procs.l.length:Int)≤9223372036854775807:=by
   have:=nT fK.zG (nT fK.zH (show maxLen≤9223372036854775807 by decide));omega
  have KI:=lz Qm;have ox:=lz yg;have Hbw:=lz wV;have UK:=lz kg;have kX:=lz fK;have Hip:=lz hip;have Hcb:=lz hcb;have HLW:=lz (HL.out.below wV);clear Qm yg wV iY fK iU kg hG aJ hT hip hcb CP;gi_wp2;gi_loopw [14] (fun t wr=>∃k:Nat,k≤p.procs.l.length∧t= .int .i64 k∧Hid ((p.procs.l.take k).all (fun q=>q.code.l.all fun z=>mJ p q.code.l.length z)=true)∧Hid (Below W.heap.size W wr)) (fun t wr=>p.procs.l.length-(intOf t).toNat)
  case atStart=>exact⟨0,nZ,rfl,lz rfl,lz (Below.refl _ _)⟩
  case round=>
   clear p9;obtain⟨k,hk,rfl,HA,HW⟩:=hrel;have aJU:=HW.out.size;by_cases hlt:k<p.procs.l.length
   ·obtain⟨b',o,hA,mz,Mh⟩:=(kX.out.below HW.out).procs oz
    obtain⟨d0,d1,d2,d3,d4,aCD⟩:=Mh k hlt;have pE:=fun(h:(p.procs.l[k].code.l.all fun z=>mJ p p.procs.l[k].code.l.length z)=true)=>uV hlt HA.out h
    have jT:=fun(h:(p.procs.l[k].code.l.all fun z=>mJ p p.procs.l[k].code.l.length z)=false)=>yq (p:=fun q:cT=>q.code.l.all fun z=>mJ p q.code.l.length z) hlt h
    have hik:=Hip.out _ (List.getElem_mem hlt);generalize p.procs.l[k]=q at *;obtain⟨W5,Xj⟩:=ez (wr.alloc (.cells #[.string q.nm,.int .i64 q.pr,.int .i64 q.pe,.int .i64 q.li,.slice q.code.a q.code.l.length q.code.c] 76));have Cp:Below wr.heap.size wr W5:=by rw[Xj];exact bN
    have hbq:ah W5 wr.heap.size 76 #[.string q.nm,.int .i64 q.pr,.int .i64 q.pe,.int .i64 q.li,.slice q.code.a q.code.l.length q.code.c]:=by rw[Xj];exact ah.new wr _ _
    have Yp:Below W.heap.size W W5:=HW.out.trans (Cp.mono aJU);have aFp:=UK.out.below Yp Vx;have hp5:p.rd W5 W5.heap.size:=kX.out.below Yp;have hL5:=HLW.out.below Yp;have au:=Wj 84 #[.pointer (some ⟨Bp,0,none⟩),.pointer (some ⟨wr.heap.size,0,none⟩)] (fun z=>mJ p q.code.l.length z) (enters_of Tryz.func84 kz rfl) q.code.l q.code.a q.code.c W5 (fun W' r hx hW' aE7=>by simpa using Yo p q r Bp wr.heap.size W' (hL5.below hW') aE7 (hp5.below hW') (aFp.below hW' aFp.lt) (hbq.below hW' hbq.lt) (hik r hx)) (aCD.below Cp).code (nT aCD.WB (nT aCD.WC dz));have q4:=hbq.cell 4;rw[Xj]at q4;rw[Xj]at au;obtain⟨bq,NC⟩:=ez (q.code.l.all (fun z=>mJ p q.code.l.length z));rw[←NC]at au pE jT;have aN:=lz au;have lg:=lz pE;have oQ:=lz jT;have ND:=lz Xj;have aKN:=lz Yp;clear au pE jT Mh aCD hik Cp hbq aFp hp5 hL5 NC Xj Yp;rw[hA]at *;gi_wp2;refine jS aN.out ?_;rintro e W2 ⟨rfl,dI⟩;rw[←ND.out]at dI;have eF:=lz (aKN.out.trans (dI.mono aKN.out.size));clear dI aN d0 d1 d2 d3 d4 q4
    cases bq with
    | false=>
     have hb:=ox.out W2 eF.out (by rw[Hcb.out];exact oQ.out rfl);have r0:=hb.2.1;have f0:=hb.2.2;have vN:=lz hb.1;clear hb;gi_wp2;exact vN.out
    | true=>
     have hn:=lz (lg.out rfl);gi_wp2;go_roundw
     case rel=>exact⟨k+1,oz,by go_num,hn,eF⟩
     case measure=>simp[intOf];omega
   ·obtain rfl:k=p.procs.l.length:=by omega
    have ha:=HA.out;rw[List.take_length]at ha;gi_wp2;exact⟨Gr.ak HW.out,Hbw.out.trans (HW.out.mono Hbw.out.size),KI.out _ (by rw[Hcb.out];exact ha)⟩
 case done=>
  rintro D W hD hs ⟨hW,aJ⟩ hk;have HF:=lz (show K0 x=true from aJ);have KJ:D<W.heap.size:=(gE hk).1;have d0:=(rT.out.below hW oz).cell 0;have f0:W.frozen? ⟨w.heap.size,0,none⟩=false:=(rT.out.below hW oz).frozen 0;have sA:=lz (rT.out.below hW oz);have HB:=lz (gh.out.trans (hW.mono gh.out.size));have Hk:=lz hk;clear hW hk aJ;go_wp2_with fail;have hz0:ah (W.setCell ⟨w.heap.size,0,none⟩ (.bool true)) w.heap.size 4 #[.bool true]:=by simpa using sA.out.bX 0 (.bool true)
  have Hz0:=lz hz0;clear hz0;refine bP [D] (W.setCell ⟨w.heap.size,0,none⟩ (.bool true)) (w.heap.size+1) qz (fun E hE=>by simp at hE;subst hE;exact⟨oz,(Below.heap_setCell W ⟨w.heap.size,0,none⟩ _ E qo).trans Hk.out⟩) fun W' j5=> ?_
  have z0:=(Hz0.out.below j5.below oz).cell 0;exact⟨.bool true,by simp[results,Tryz.f26,go_sem,z0],by rw[HF.out],(HB.out.setCell (p:=⟨w.heap.size,0,none⟩) nL _).trans (j5.below.mono oz)⟩
 case ret=>
  rintro D T W3 hD hs hT ⟨h1,h2,h3⟩ hk;have HF:=lz (show K0 x=false from pW hT h3);have KJ:D<W3.heap.size:=(gE hk).1;refine bP [D] W3 D qz (fun E hE=>by simp at hE;subst hE;exact⟨nL,hk⟩) fun W' j5=> ?_
  have z0:=(ah.below h1 j5.below oz).cell 0;exact⟨.bool false,by simp[results,Tryz.f26,go_sem,z0],by rw[HF.out],h2.trans (j5.below.mono oz)⟩
end
end Go.Proofs.YtmdgooofdmpcjaaGreatDoor
