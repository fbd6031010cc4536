import Derived.Test.YtmdgooofdmpcjaaGreatDoorY13
set_option maxRecDepth 100000
set_option maxHeartbeats 8000000
set_option linter.unusedSimpArgs false
set_option linter.unusedVariables false
set_option linter.unusedSectionVars false
open Go.Proofs.Tryz renaming prog → pG
open Bool renaming and_eq_true->BW,false->Bj,true->BR
open List renaming all_eq_true->EL,cons_append->GQ,getElem_mem->CS,length_cons->Ia,length_map->FD,mem_append->E2,mem_append_right->EJ,mem_cons->BU,mem_filter->JJ,mem_map->GR,replicate->Fe,take_length->GS
open Option renaming isSome_iff_exists->Jr,none->Ag,some->Ai
open Go.Proofs.Tryz
namespace Go.Proofs.YtmdgooofdmpcjaaGreatDoor
open Go renaming Addr->EK,Value->Bn,World->Al,undef->BA
open Go.Proofs renaming enters_of->Df
open Instr renaming lookup->E4
open RowKit renaming Below->BD,intOf->E8
open RowKit.Below renaming refl->BK
open World renaming size_alloc->Dj
section
open Go.ChangeShapes Go.WideShapes Go.ChangeAt Go.RowKit
attribute [local go_sem] Oper.semAt_some
def KY(w:Al)(g:Nat)(A:Option EK)(n c:Nat):Prop:=∃v0 v1 v2 v3 v4 v5 v7,ah w g 94 #[v0,v1,v2,v3,v4,v5,.slice A n c,v7]
theorem KY.lt{w:Al}{g:Nat}{A:Option EK}{n c:Nat}(h:KY w g A n c):g<w.heap.size:=let ⟨_,_,_,_,_,_,_,h⟩:=h;h.lt
theorem KY.aDu{w:Al}{g:Nat}{A:Option EK}{n c:Nat}(h:KY w g A n c):w.cell? ⟨g,6,Ag⟩=Ai (.slice A n c):=let ⟨_,_,_,_,_,_,_,h⟩:=h;h.cell 6
theorem KY.alloc{w:Al}{g:Nat}{A:Option EK}{n c:Nat}(h:KY w g A n c)(o:Obj):KY (w.alloc o) g A n c:=let ⟨_,_,_,_,_,_,_,h⟩:=h;⟨_,_,_,_,_,_,_,h.alloc o⟩
theorem KY.below{w w':Al}{g:Nat}{A:Option EK}{n c:Nat}(h:KY w g A n c)(hb:BD w.heap.size w w'):KY w' g A n c:=let ⟨_,_,_,_,_,_,_,h⟩:=h;⟨_,_,_,_,_,_,_,h.below hb h.lt⟩
theorem tU.a{w:Al}{g:Nat}{x:ay}(h:tU w g x):KY w g x.causes.a x.causes.l.length x.causes.c:=⟨_,_,_,_,_,_,_,h⟩
structure rI(w:Al)(g Br Bk B5 B6:Nat)(A:Option EK)(L:List fC)(c:Nat)(AR:Option EK)(R:List fC)(cR:Nat):Prop where
 k:ah w Bk 92 #[.pointer (Ai ⟨g,0,Ag⟩)]
 ck:KY w g A L.length c
 rl:kr w w.heap.size A L
 br:ah w Br 28 #[.slice AR R.length cR]
 rr:kr w w.heap.size AR R
 b5:ah w B5 185 #[.func (.func 94) #[] #[.pointer (Ai ⟨Br,0,Ag⟩)]]
 b6:ah w B6 185 #[.func (.func 97) #[] #[.pointer (Ai ⟨Bk,0,Ag⟩)]]
 ll:L.length<=1000
 lr:R.length<=1000
section
variable {w w':Al} {g Br Bk B5 B6:Nat} {A:Option EK} {L:List fC} {c:Nat} {AR:Option EK} {R:List fC} {cR:Nat}
theorem rI.below(h:rI w g Br Bk B5 B6 A L c AR R cR)(hb:BD w.heap.size w w'):rI w' g Br Bk B5 B6 A L c AR R cR:=
 ⟨h.k.below hb h.k.lt,KY.below h.ck hb,h.rl.below hb,h.br.below hb h.br.lt,h.rr.below hb,h.b5.below hb h.b5.lt,h.b6.below hb h.b6.lt,h.ll,h.lr⟩
theorem Yb(u:ByteArray)(w:Al)(h:rI w g Br Bk B5 B6 A L c AR R cR):CU 94 #[.string u,.pointer (Ai ⟨Br,0,Ag⟩)] w (.bool (yt R u)):=by
 have h1:=h.below (w':=w.alloc (.cells #[.string u] 9)) (bN);have hbu:=ah.new w 9 #[.string u];have aZ:=jJ 96 #[.pointer (Ai ⟨w.heap.size,0,Ag⟩)] (λx=>seqB x.c.unit u) (Df func96 kz rfl) R AR cR (w.alloc (.cells #[.string u] 9))
  (λW x hx hW _=>aJ6 _ u x W (hbu.below hW hbu.lt)) h1.rr (by have:=h.lr;omega)
 have aZ:CU 95 #[.slice AR R.length cR,.func (.func 96) #[] #[.pointer (Ai ⟨w.heap.size,0,Ag⟩)]] (w.alloc (.cells #[.string u] 9)) (.bool (yt R u)):=aZ
 have c0:(w.alloc (.cells #[.string u] 9)).cell? ⟨Br,0,Ag⟩=Ai (.slice AR R.length cR):=h1.br.cell 0;have eP:=lz aZ;have hlt:=h.br.lt;generalize yt R u=q at *;clear aZ h1 hbu h;go_enter func94,ntmps94;go_wp2_with fail;refine eP.out.mono ?_;rintro e w1 ⟨rfl,aU⟩;have HB:=lz (((BK _ w).alloc nL (.cells #[.string u] 9)).trans (aU.mono qz));clear aU eP;go_wp2;go_ret;exact⟨rfl,HB.out⟩
theorem UE(u:ByteArray)(w:Al)(h:rI w g Br Bk B5 B6 A L c AR R cR):CU 97 #[.string u,.pointer (Ai ⟨Bk,0,Ag⟩)] w (.bool (yt L u)):=by
 have h1:=h.below (w':=w.alloc (.cells #[.string u] 9)) (bN);have hbu:=ah.new w 9 #[.string u];have aZ:=jJ 98 #[.pointer (Ai ⟨w.heap.size,0,Ag⟩)] (λx=>seqB x.c.unit u) (Df func98 kz rfl) L A c (w.alloc (.cells #[.string u] 9))
  (λW x hx hW _=>aJ7 _ u x W (hbu.below hW hbu.lt)) h1.rl (by have:=h.ll;omega)
 have aZ:CU 95 #[.slice A L.length c,.func (.func 98) #[] #[.pointer (Ai ⟨w.heap.size,0,Ag⟩)]] (w.alloc (.cells #[.string u] 9)) (.bool (yt L u)):=aZ
 have c0:(w.alloc (.cells #[.string u] 9)).cell? ⟨Bk,0,Ag⟩=Ai (.pointer (Ai ⟨g,0,Ag⟩)):=h1.k.cell 0;have c6:(w.alloc (.cells #[.string u] 9)).cell? ⟨g,6,Ag⟩=Ai (.slice A L.length c):=KY.aDu h1.ck;have eP:=lz aZ;have hlt:=h.k.lt;generalize yt L u=q at *;clear aZ h1 hbu h;go_enter func97,ntmps97;go_wp2_with fail;refine eP.out.mono ?_;rintro e w1 ⟨rfl,aU⟩;have HB:=lz (((BK _ w).alloc nL (.cells #[.string u] 9)).trans (aU.mono qz));clear aU eP;go_wp2;go_ret;exact⟨rfl,HB.out⟩
theorem Yc(u:ByteArray)(w:Al)(h:rI w g Br Bk B5 B6 A L c AR R cR):CU 102 #[.string u,.pointer (Ai ⟨B6,0,Ag⟩),.pointer (Ai ⟨B5,0,Ag⟩)] w (.bool (yt L u&& !yt R u)):=by
 have hk:=UE u w h;have ho:=λW (hW:BD w.heap.size w W)=>Yb u W (h.below hW)
 have c6:w.cell? ⟨B6,0,Ag⟩=Ai (.func (.func 97) #[] #[.pointer (Ai ⟨Bk,0,Ag⟩)]):=h.b6.cell 0;have c5:=λW (hW:BD w.heap.size w W)=>(h.below hW).b5.cell 0
 have Hk:=lz hk;have Ho:=lz ho;have H5:=lz c5;clear hk ho c5 h
 cases hq:yt L u with
 | false=>
  rw[hq]at Hk;clear hq;go_enter func102,ntmps102;go_wp2_with fail;refine Hk.out.mono ?_;rintro e w1 ⟨rfl,aU⟩;go_wp2;go_ret;exact⟨rfl,aU⟩
 | true=>
  rw[hq]at Hk;clear hq;generalize yt R u=q at *;go_enter func102,ntmps102;go_wp2_with fail;refine Hk.out.mono ?_;rintro e w1 ⟨rfl,aU⟩;have d5:w1.cell? ⟨B5,0,Ag⟩=Ai (.func (.func 94) #[] #[.pointer (Ai ⟨Br,0,Ag⟩)]):=H5.out w1 aU;have Hoo:=lz (Ho.out w1 aU);clear H5 Ho Hk;go_wp2_with fail;refine Hoo.out.mono ?_;rintro e w2 ⟨rfl,dI⟩;have HB:=lz (aU.trans (dI.mono aU.size));clear aU dI;go_wp2;go_ret;exact⟨by cases q<;>rfl,HB.out⟩
theorem UF(Bx:Nat)(x y:fC)(w:Al)(h:rI w g Br Bk B5 B6 A L c AR R cR)(hx:ah w Bx 83 #[.string x.c.unit,.slice x.n.a x.n.n x.n.c,.slice x.x.a x.x.n x.x.c])(hy:y.rd w w.heap.size)(yu:y.c.excl.length<=1000):
 CU 100 #[y.val,.pointer (Ai ⟨Bx,0,Ag⟩),.pointer (Ai ⟨B6,0,Ag⟩),.pointer (Ai ⟨B5,0,Ag⟩)] w (.bool (SE L R x y)):=by
 have bY:BD w.heap.size w (w.alloc (.cells #[.string y.c.unit,.slice y.n.a y.n.n y.n.c,.slice y.x.a y.x.n y.x.c] 83)):=bN;have h1:=h.below bY;have TV:=aB7 102 #[.pointer (Ai ⟨B6,0,Ag⟩),.pointer (Ai ⟨B5,0,Ag⟩)] (λu=>yt L u&& !yt R u) (Df func102 kz rfl) y.c.excl y.x.a y.x.c _ (λW u hu hW=>Yc u W (h1.below hW)) (hy.below bY).x oz;rw[<-hy.xl]at TV;have c0:(w.alloc (.cells #[.string y.c.unit,.slice y.n.a y.n.n y.n.c,.slice y.x.a y.x.n y.x.c] 83)).cell? ⟨Bx,0,Ag⟩=Ai (.string x.c.unit):=(hx.alloc _).cell 0;have TV:CU 101 #[.slice y.x.a y.x.n y.x.c,.func (.func 102) #[] #[.pointer (Ai ⟨B6,0,Ag⟩),.pointer (Ai ⟨B5,0,Ag⟩)]] (w.alloc (.cells #[.string y.c.unit,.slice y.n.a y.n.n y.n.c,.slice y.x.a y.x.n y.x.c] 83)) (.bool (Yd L R y)):=TV
 have Hal:=lz TV;have hlt:=hx.lt;have cU:=lz bY;unfold SE;generalize Yd L R y=q at *;clear TV h1 bY h hx hy;dsimp only[fC.val]
 cases hs:seqB y.c.unit x.c.unit with
 | false=>
  have hs':(y.c.unit.toList==x.c.unit.toList)=false:=hs;clear hs;go_enter func100,ntmps100;go_wp2;go_ret;exact⟨rfl,cU.out⟩
 | true=>
  have hs':(y.c.unit.toList==x.c.unit.toList)=true:=hs;clear hs;go_enter func100,ntmps100;go_wp2_with fail;refine Hal.out.mono ?_;rintro e w1 ⟨rfl,aU⟩;have HB:=lz (cU.out.trans (aU.mono qz));clear aU Hal;go_wp2;go_ret;exact⟨by cases q<;>rfl,HB.out⟩
theorem UG(x:fC)(w:Al)(h:rI w g Br Bk B5 B6 A L c AR R cR)(hl:∀y∈R,y.c.excl.length<=1000):
 CU 99 #[x.val,.pointer (Ai ⟨Br,0,Ag⟩),.pointer (Ai ⟨B6,0,Ag⟩),.pointer (Ai ⟨B5,0,Ag⟩)] w (.bool (iW L R x)):=by
 have bY:BD w.heap.size w (w.alloc (.cells #[.string x.c.unit,.slice x.n.a x.n.n x.n.c,.slice x.x.a x.x.n x.x.c] 83)):=bN;have h1:=h.below bY;have gP:=ah.new w 83 #[.string x.c.unit,.slice x.n.a x.n.n x.n.c,.slice x.x.a x.x.n x.x.c];have aZ:=jJ 100 #[.pointer (Ai ⟨w.heap.size,0,Ag⟩),.pointer (Ai ⟨B6,0,Ag⟩),.pointer (Ai ⟨B5,0,Ag⟩)] (λy=>SE L R x y) (Df func100 kz rfl) R AR cR _
  (λW y hy hW fK=>UF w.heap.size x y W (h1.below hW) (gP.below hW gP.lt) fK (hl y hy)) h1.rr (by have:=h.lr;omega)
 have aZ:CU 95 #[.slice AR R.length cR,.func (.func 100) #[] #[.pointer (Ai ⟨w.heap.size,0,Ag⟩),.pointer (Ai ⟨B6,0,Ag⟩),.pointer (Ai ⟨B5,0,Ag⟩)]] (w.alloc (.cells #[.string x.c.unit,.slice x.n.a x.n.n x.n.c,.slice x.x.a x.x.n x.x.c] 83)) (.bool (iW L R x)):=aZ
 have c0:(w.alloc (.cells #[.string x.c.unit,.slice x.n.a x.n.n x.n.c,.slice x.x.a x.x.n x.x.c] 83)).cell? ⟨Br,0,Ag⟩=Ai (.slice AR R.length cR):=h1.br.cell 0;have eP:=lz aZ;have hlt:=h.br.lt;have cU:=lz bY;generalize iW L R x=q at *;clear aZ h1 gP bY h hl;dsimp only[fC.val];go_enter func99,ntmps99;go_wp2_with fail;refine eP.out.mono ?_;rintro e w1 ⟨rfl,aU⟩;have HB:=lz (cU.out.trans (aU.mono qz));clear aU eP;go_wp2;go_ret;exact⟨rfl,HB.out⟩
end
structure Ye(w:Al)(g:Nat)(A:Option EK)(L:List fC)(c:Nat)(AR:Option EK)(R:List fC)(cR:Nat)(W:Al):Prop where
 below:BD w.heap.size w W
 k:ah W w.heap.size 92 #[.pointer (Ai ⟨g,0,Ag⟩)]
 br:ah W (w.heap.size+1) 28 #[.slice AR R.length cR]
 rr:kr W W.heap.size AR R
 sub:∀x∈R,x∈L
 lr:R.length<=L.length
theorem UH(b:Bool)(g:Nat)(A:Option EK)(L:List fC)(c:Nat)(F:Nat)(w:Al)(h:KY w g A L.length c)(hr:kr w w.heap.size A L)(hl:L.length<=1000)(hx:∀x∈L,x.c.excl.length<=1000)(fK:∀x∈L,x.rd w w.heap.size)(hrun:Cy L F (-1) L=Ai b):
 CU 31 #[.pointer (Ai ⟨g,0,Ag⟩)] w (.bool b):=by
 obtain⟨w1,cN⟩:=ez ((w.alloc (.cells #[.pointer (Ai ⟨g,0,Ag⟩)] 92)).alloc (.cells #[.slice A L.length c] 28));have bY:BD w.heap.size w w1:=by rw[cN];exact(bN).alloc qz _
 have Cq:ah w1 w.heap.size 92 #[.pointer (Ai ⟨g,0,Ag⟩)]:=by rw[cN];exact(ah.new w _ _).alloc _
 have aU:ah w1 (w.heap.size+1) 28 #[.slice A L.length c]:=by
  rw[cN];have:=ah.new (w.alloc (.cells #[.pointer (Ai ⟨g,0,Ag⟩)] 92)) 28 #[.slice A L.length c]
  rwa[Dj]at this
 have Hst:Hid (Ye w g A L c A L c w1):=lz (⟨bY,Cq,aU,hr.below bY,λx h=>h,nL⟩);have c6:(w.alloc (.cells #[.pointer (Ai ⟨g,0,Ag⟩)] 92)).cell? ⟨g,6,Ag⟩=Ai (.slice A L.length c):=KY.aDu (KY.alloc h _);have hlt:g<w.heap.size:=KY.lt h;have lH:=lz cN;have H:=lz h;have Hr:=lz hr;have Hx:=lz hx;have kX:=lz fK;have Gs:=lz hrun;clear cN bY Cq aU h hr hx fK hrun;go_enter func31,ntmps31;go_wp2_with fail;rw[<-lH.out];go_loopw [4] (λt wr=>∃(f:Nat) (n:Int) (R:List fC) (AR:Option EK) (cR:Nat),t= .int .i64 n/\Hid (Cy L f n R=Ai b)/\Ye w g A L c AR R cR wr/\f<=F) (λt wr=>aJ8 t (wr.cell? ⟨w.heap.size+1,0,Ag⟩))
 case atStart=>exact⟨F,-1,L,A,c,rfl,Gs,Hst.out,nL⟩
 case round=>
  clear Hst Gs c6;obtain⟨f,n,R,AR,cR,rfl,hrun,hS,hf⟩:=hrel;generalize wr=w4 at *;have yc:w4.cell? ⟨w.heap.size+1,0,Ag⟩=Ai (.slice AR R.length cR):=hS.br.cell 0;have Hm0:=lz yc;by_cases hn:n=R.length
  .have h0:=Yf hrun.out hn
   have hd:((R.length:Int)==0)=b:=by rw[<-h0,Bool.eq_iff_iff];simp
   have hne:(n !=(R.length:Int))=false:=by rw[hn];simp
   have Ef:=hS.below;clear hrun hS h0 hn;go_wp2;go_ret;exact⟨rfl,Ef⟩
  .obtain⟨f',rfl,pE⟩:=UJ hrun.out hn
   have hne:(n !=(R.length:Int))=true:=by simpa using hn
   obtain⟨w5,hw5⟩:=ez ((w4.alloc (.cells #[.func (.func 94) #[] #[.pointer (Ai ⟨w.heap.size+1,0,Ag⟩)]] 185)).alloc (.cells #[.func (.func 97) #[] #[.pointer (Ai ⟨w.heap.size,0,Ag⟩)]] 185));have Cp:BD w4.heap.size w4 w5:=by rw[hw5];exact(bN).alloc qz _
   have jU:ah w5 w4.heap.size 185 #[.func (.func 94) #[] #[.pointer (Ai ⟨w.heap.size+1,0,Ag⟩)]]:=by rw[hw5];exact(ah.new w4 _ _).alloc _
   have rz:ah w5 (w4.heap.size+1) 185 #[.func (.func 97) #[] #[.pointer (Ai ⟨w.heap.size,0,Ag⟩)]]:=by
    rw[hw5];have:=ah.new (w4.alloc (.cells #[.func (.func 94) #[] #[.pointer (Ai ⟨w.heap.size+1,0,Ag⟩)]] 185)) 185 #[.func (.func 97) #[] #[.pointer (Ai ⟨w.heap.size,0,Ag⟩)]]
    rwa[Dj]at this
   have aB8:BD w.heap.size w w5:=hS.below.trans (Cp.mono hS.below.size);have cC:rI w5 g (w.heap.size+1) w.heap.size w4.heap.size (w4.heap.size+1) A L c AR R cR:=
    ⟨hS.k.below Cp hS.k.lt,KY.below H.out aB8,Hr.out.below aB8,hS.br.below Cp hS.br.lt,hS.rr.below Cp,jU,rz,hl,by have:=hS.lr;omega⟩
   have hwz:w.heap.size+1<w4.heap.size:=hS.br.lt;have KX:=hS.lr;have Ej:=lz cC;have aJ9:=lz aB8;have Hw5:=lz hw5;have lg:=lz pE;have aKA:=lz hS.sub;have hz5:w5.heap.size=w4.heap.size+2:=by rw[hw5];simp
   have m5:w5.cell? ⟨w.heap.size+1,0,Ag⟩=Ai (.slice AR R.length cR):=cC.br.cell 0;have aKB:=hz5;have Hz5:=lz aKB;have hmm:((w4.alloc (.cells #[.func (.func 94) #[] #[.pointer (Ai ⟨w.heap.size+1,0,Ag⟩)]] 185)).alloc (.cells #[.func (.func 97) #[] #[.pointer (Ai ⟨w.heap.size,0,Ag⟩)]] 185)).cell? ⟨w.heap.size+1,0,Ag⟩=Ai (.slice AR R.length cR):=by rw[<-hw5];exact m5
   clear pE cC aB8 hw5 jU rz Cp hS hrun aKB hz5;go_wp2_with fail;rw[<-Hw5.out];go_loopw [8,27] (λv t W=>∃k:Nat,k<=R.length/\t= .int .i64 k/\BD w5.heap.size w5 W/\W.ownsRow w5.heap.size 83 3 v ((R.take k).filter (iW L R)).length (((R.take k).filter (iW L R)).flatMap fC.cells)) (λ_ t W=>R.length-(E8 t).toNat)
   case atStart=>exact⟨0,nZ,rfl,BK _ _,World.ownsRow_nil _ _ _ _⟩
   case round=>
    obtain⟨k,hk,rfl,hB,hown⟩:=hrel;generalize wr=W at *;obtain⟨Av,cv,rfl,_⟩:=bp hown;have aWg:w.heap.size+1<w5.heap.size:=by have:=Hz5.out;omega
    have hsW:=hB.size;by_cases sF:k<R.length
    .obtain⟨b,o,rfl,hb,hc⟩:=(Ej.out.rr.keep hB) oz
     obtain⟨d0,d1,d2,_⟩:=hc k sF;have iw:=λh=>Yg (p:=iW L R) sF h
     have jT:=λh=>aB9 (p:=iW L R) sF h
     have hN:=Yh (p:=iW L R) (R:=R) (k:=k);have IG:b<W.heap.size:=World.block_lt_of_cell? W _ d0;have Yi:=λx=>UG x (W.alloc (.cells #[.string R[k].c.unit,.slice R[k].n.a R[k].n.n R[k].n.c,.slice R[k].x.a R[k].x.n R[k].x.c] 83)) ((Ej.out.below hB).below (bN)) (λy hy=>Hx.out y (aKA.out y hy))
     have au:=Yi R[k];have fS:=lz iw;have oQ:=lz jT;have kZ:=lz hown;have HB:=lz hB;clear hc iw jT hown hB Yi m5 hmm yc;obtain⟨i0,lX,hz0,hz1,hz2⟩:=info_parts aFg;generalize (R.take k).filter (iW L R)=N at *;generalize hR:R[k]=x at *;clear hR
     cases hq:iW L R x with
     | true=>
      rw[hq]at au;have Hn:=lz (fS.out hq);have aN:=lz au;clear au hq fS oQ;go_wp2_with fail;refine aN.out.mono ?_;rintro e W2 ⟨rfl,dI⟩;have Pq:BD W.heap.size W W2:=((BK _ W).alloc nL (.cells #[.string x.c.unit,.slice x.n.a x.n.n x.n.c,.slice x.x.a x.x.n x.x.c] 83)).trans (dI.mono qz);have hx2:=(ah.new W 83 #[.string x.c.unit,.slice x.n.a x.n.n x.n.c,.slice x.x.a x.x.n x.x.c]).below dI qz;have e0:W2.cell? ⟨W.heap.size,0,Ag⟩=Ai (.string x.c.unit):=hx2.cell 0;have e1:W2.cell? ⟨W.heap.size,1,Ag⟩=Ai (.slice x.n.a x.n.n x.n.c):=hx2.cell 1;have e2:W2.cell? ⟨W.heap.size,2,Ag⟩=Ai (.slice x.x.a x.x.n x.x.c):=hx2.cell 2;have SF:=lz (lV kZ.out (gL (row:=Ag) Pq) (λr e=>by cases e));have eF:=lz (HB.out.trans (Pq.mono HB.out.size));clear dI Pq hx2 aN;go_wp2_with (at_builtin;refine wpList_append_own _ rfl (.tmp 34) (.tmp 36) 28 rfl w5.heap.size 83 i0 (.agg #[.string ⟨#[]⟩,.slice Ag 0 0,.slice Ag 0 0]) 3 64 underlying28 lX hz0 hz1 hz2 rfl dz _ _ _ rfl (SF.out.alloc _) ⟨W2.heap.size,0,Ag⟩ 1 1 [.string x.c.unit,.slice x.n.a x.n.n x.n.c,.slice x.x.a x.x.n x.x.c] rfl rfl ?c1 ?c2 ?c3 ?c4 ?c5 ?_)
      case c1=>
       intro j u' hj;rw[bO,Nat.zero_add,(ah.new W2 83 #[.string x.c.unit,.slice x.n.a x.n.n x.n.c,.slice x.x.a x.x.n x.x.c]).cell j];simpa using hj
      case c2=>intro u' kQ;simp at kQ;rcases kQ with rfl | rfl | rfl<;>rfl
      case c3=>unfold maxLen;omega
      case c4=>omega
      case c5=>have:=eF.out.size;simp;omega
      intro v5 W5 dQ mE _;have jU:=(eF.out.alloc eF.out.size (.cells #[.string x.c.unit,.slice x.n.a x.n.n x.n.c,.slice x.x.a x.x.n x.x.c] 83)).grown mE (by have:=eF.out.size;simp;omega) (λg hg=>((SF.out.alloc (.cells #[.string x.c.unit,.slice x.n.a x.n.n x.n.c,.slice x.x.a x.x.n x.x.c] 83)).lt g hg).1);have HR:=lz (ai jU dQ);clear dQ mE jU;go_wp2;go_roundw
      case rel=>exact⟨k+1,oz,by go_num,HR.out.1,by rw[Hn.out];simpa [fC.cells]using HR.out.2⟩
      case measure=>simp[E8];omega
     | false=>
      rw[hq]at au;have Hn:=lz (oQ.out hq);have aN:=lz au;clear au hq fS oQ;go_wp2_with fail;refine aN.out.mono ?_;rintro e W2 ⟨rfl,dI⟩;have Pq:BD W.heap.size W W2:=((BK _ W).alloc nL (.cells #[.string x.c.unit,.slice x.n.a x.n.n x.n.c,.slice x.x.a x.x.n x.x.c] 83)).trans (dI.mono qz);have SF:=lz (lV kZ.out (gL (row:=Ag) Pq) (λr e=>by cases e));have eF:=lz (HB.out.trans (Pq.mono HB.out.size));clear dI Pq aN;go_wp2;go_roundw
      case rel=>exact⟨k+1,oz,by go_num,eF.out,by rw[Hn.out];exact SF.out⟩
      case measure=>simp[E8];omega
    .obtain rfl:k=R.length:=by omega
     rw[GS]at hown;have hkW:=Ej.out.k.below hB oz;have aCA:=Ej.out.br.below hB oz;have brc:W.cell? ⟨w.heap.size+1,0,Ag⟩=Ai (.slice AR R.length cR):=aCA.cell 0;have brf:W.frozen? ⟨w.heap.size+1,0,Ag⟩=false:=aCA.frozen 0;have hNl:(R.filter (iW L R)).length<=R.length:=List.length_filter_le _ _;have aDv:∀x∈R.filter (iW L R),x∈L:=λx hx=>aKA.out x (JJ.1 hx).1
     rw[show(List.filter (iW L R) (List.take R.length R)).length=(R.filter (iW L R)).length by rw[GS]]at *;have aOx:=lz lg.out;have aDw:=lz aDv;have kZ:=lz hown;have HB:=lz hB;have HkW:=lz hkW;have aOy:=lz aCA;clear hown hB hkW aCA aDv m5 hmm yc;generalize R.filter (iW L R)=N at *;have hG:=Gr.setCell (X:=(· =w.heap.size+1)) W ⟨w.heap.size+1,0,Ag⟩ (.slice Av N.length cv) rfl;have jY:BD w.heap.size w (W.setCell ⟨w.heap.size+1,0,Ag⟩ (.slice Av N.length cv)):=(aJ9.out.trans (HB.out.mono aJ9.out.size)).setCell qz _;have hown2:=cO kZ.out hG (λj hj e=>by have:=(kZ.out.lt j hj).1;omega);have Ct:=Yj hown2 (λx hx=>(kX.out x (aDw.out x hx)).below jY);have qR:Ye w g A L c Av N cv (W.setCell ⟨w.heap.size+1,0,Ag⟩ (.slice Av N.length cv)):=
      ⟨jY,HkW.out.far qz _,by simpa using aOy.out.bX 0 (.slice Av N.length cv),Ct,aDw.out,oz⟩
     have Hm1:=lz (qR.br.cell 0);have Hst:=lz qR;clear hG jY hown2 Ct qR;go_wp2;go_roundw
     case rel=>exact⟨f',R.length,N,Av,cv,rfl,aOx,Hst.out,oz⟩
     case measure=>
      rw[Hm1.out,Hm0.out,show(#[Value.slice Av N.length cv]:Array Bn)[0]?=Ai (.slice Av N.length cv)from rfl,SG,SG,if_neg hn];split<;>omega
theorem kS{s:ByteArray}(h:dh s=BR):s.size<=maxLen:=by
 unfold dh at h;split at h
 .cases h
 .unfold maxLen;omega
structure rJ(x:ay):Prop where
 mods:∀m∈x.mods.l,Ku m=BR
 aj:∀m∈x.aj.l,AP m=BR
 aP:∀m∈x.aP.l,AQ m=BR
 links:∀m∈x.links.l,xQ m=BR
 aF:∀m∈x.aF.l,Z9 m=BR
 bQ:∀m∈x.bQ.l,pT m=BR
 causes:∀m∈x.causes.l,vD m=BR
 aA:∀m∈x.aA.l,P7 m=BR
theorem aFh{x:ay}(h:mG x=BR):rJ x:=by
 simp only[mG,BW,EL]at h;obtain⟨⟨⟨⟨⟨⟨⟨h1,h2⟩,h3⟩,h4⟩,h5⟩,h6⟩,h7⟩,h8⟩:=h;exact⟨h1,h2,h3,h4,h5,h6,h7,h8⟩
structure yw(x:ay):Prop where
 aKC:∀y∈gi x,y.dst.l.length<=8
 ml:x.mods.l.length<=4
 chl:x.aj.l.length<=16
 vl:x.aF.l.length<=16
 sl:x.aP.l.length<=8
 ll:x.links.l.length<=32
 hl:x.bQ.l.length<=32
 cl:x.causes.l.length<=32
 mods:∀m∈x.mods.l,mZ m=BR
 aP:∀m∈x.aP.l,vJ m=BR
 causes:∀m∈x.causes.l,j6 m=BR
theorem aKD{x:ay}(h:iV x=BR):yw x:=by
 simp only[iV,gU,BW,EL,decide_eq_true_eq]at h;obtain⟨h1,⟨⟨⟨⟨⟨⟨⟨⟨⟨c1,c2⟩,c3⟩,c4⟩,c5⟩,c6⟩,m⟩,s⟩,l⟩,c⟩⟩:=h;have c7:=c6 (x.bQ.l.length:Int) qz;have c8:=c6 (x.causes.l.length:Int) qz;simp only[dJ,BW,decide_eq_true_eq]at c7 c8;exact⟨λy hy=>by have:=h1 y hy;simp only[iL,Bool.not_eq_true',decide_eq_false_iff_not]at this;omega,oz,oz,oz,oz,oz,oz,oz,m,s,c⟩
theorem yw.part{x:ay}(h:yw x){y:WM}(hy:y∈fE x):kP y.2=BR/\y.1.parts.l.length<=6:=by
 obtain⟨hm,hp⟩:=tY (show(y.1,y.2)∈fE x from hy);have h1:=h.mods _ hm;simp only[mZ,BW,EL,decide_eq_true_eq]at h1;exact⟨h1.2 _ hp,by have:=h1.1.2;omega⟩
theorem KZ{p:aC}(h:kP p=BR):p.procs.l.length<=6/\p.aq.l.length<=8/\1<=p.pe/\∀q∈p.aq.l,1<=q.sz/\q.sz<=64:=by
 simp only[kP,BW,EL,decide_eq_true_eq]at h;obtain⟨⟨⟨⟨⟨_,⟨⟨⟨_,_⟩,c1⟩,c2⟩⟩,_⟩,c3⟩,c4⟩,_⟩:=h;have c5:=c3 p.pe qz;simp only[dJ,BW,decide_eq_true_eq]at c5;refine⟨oz,oz,c5.1,λq hq=> ?_⟩;have:=c4 q hq;simp only[D9,BW,List.all_cons,List.all_nil,dJ,decide_eq_true_eq]at this;exact this.2.2.1
theorem rJ.part{x:ay}(h:rJ x){y:WM}(hy:y∈fE x):xT y.2=true:=by
 obtain⟨hm,hp⟩:=tY (show(y.1,y.2)∈fE x from hy);have h1:=h.mods _ hm;simp only[Ku,BW,EL]at h1;exact h1.2 _ hp
theorem NV{p:aC}(h:xT p=BR):dh p.nm=BR/\(∀q∈p.aq.l,AO q=BR)/\∀q∈p.procs.l,xS q=true:=by
 simp only[xT,BW,EL]at h;exact⟨h.1.1.1.1.1,h.1.2,h.2⟩
theorem aKE{x:ay}(h:yw x):∀y∈fE x,¬y.2.pe=0:=λy hy=>by
 have:=(KZ (h.part hy).1).2.2.1;omega
theorem aOz{x:ay}(hF:rJ x)(h:yw x):aI6 x where
 m:=λm hm=>by
  have h1:=hF.mods m hm;have h2:=h.mods m hm;simp only[Ku,mZ,BW,decide_eq_true_eq]at h1 h2;exact⟨kS h1.1.1,by have:=h2.1.2;omega⟩
 p:=λy hy=>by
  obtain⟨h1,h2,h3⟩:=NV (hF.part hy);obtain⟨k1,k2,_,_⟩:=KZ (h.part hy).1;refine⟨kS h1,oz,oz,λq hq=> ?_,λq hq=> ?_⟩
  .have:=h2 q hq
   simp only[AO,BW]at this;exact kS this.1.2
  .have:=h3 q hq
   simp only[xS,BW]at this;exact kS this.1.1
 s:=λm hm=>by
  have h1:=hF.aP m hm;simp only[AQ,BW]at h1;exact kS h1.1.1
 v:=λm hm=>by
  have h1:=hF.aF m hm;simp only[Z9,BW]at h1;exact kS h1.1.1
 ml:=by have:=h.ml;omega
 sl:=by have:=h.sl;omega
 vl:=by have:=h.vl;omega
theorem Yk{r:bw}(h:DT r=BR):r.ok:=by
 simp only[DT,List.all_cons,List.all_nil,BW,Bool.and_true]at h;exact⟨kS h.1,kS h.2.1,kS h.2.2⟩
theorem C8{r:bw}{l:List bw}(h:sV r l=BR):r.ok/\∀q∈l,q.ok:=by
 simp only[sV,BW,EL]at h;exact⟨Yk h.1,λq hq=>Yk (h.2.2 q hq)⟩
theorem aO0{x:ay}(hF:rJ x)(h:yw x):aJL x where
 n:=by
  have h1:=h.chl;have h2:=h.vl;unfold gi;rw[List.length_append,FD,FD];omega
 r:=λy hy=>by
  have hl:=h.aKC y hy;unfold gi at hy;rcases E2.1 hy with hy | hy
  .obtain⟨z,hz,rfl⟩:=GR.1 hy
   have h1:=hF.aj z hz;simp only[AP]at h1;exact⟨(C8 h1).1,oz,(C8 h1).2⟩
  .obtain⟨z,hz,rfl⟩:=GR.1 hy
   have h1:=hF.aF z hz;simp only[Z9,BW]at h1;exact⟨(C8 h1.1.2).1,oz,(C8 h1.1.2).2⟩
theorem aFi{x:ay}(hF:rJ x):∀y∈x.links.l,0<=y.net/\y.net<=1:=λy hy=>by
 have h1:=hF.links y hy;simp only[xQ,BW,DR,decide_eq_true_eq]at h1;have:=h1.1.2;omega
theorem NW:(Lib.fields oh.data.toList).length=8:=by kernel_rfl
theorem aKF{x:ay}(hF:rJ x):∀y∈x.bQ.l,0<=y.dd/\y.dd<=8:=λy hy=>by
 have h1:=hF.bQ y hy;simp only[pT,BW]at h1;have h2:=h1.2;rcases Decidable.em (y.dd<1\/y.dd>8)with h | h
 .have e:nY oh y.dd=⟨#[]⟩:=by
   unfold nY F6;rw[NW,if_pos (show y.dd<1\/y.dd>((8:Nat):Int)from h)]
  rw[e]at h2;exact absurd h2 dz
 .omega
theorem NX{l:List aC}{p:Int}{q:aM}(h:q∈jQ l p):∃y∈l,q∈y.aq.l:=by
 unfold jQ at h
 cases hq:l[p.toNat]? with
 | none=>rw[hq]at h;simp at h
 | some y=>rw[hq]at h;exact⟨y,List.mem_of_getElem? hq,by simpa using h⟩
theorem NY{x:ay}{m:Int}{p:aC}(h:p∈fN x m):∃y∈x.mods.l,p∈y.parts.l:=by
 unfold fN at h
 cases hq:x.mods.l[m.toNat]? with
 | none=>rw[hq]at h;simp at h
 | some y=>rw[hq]at h;exact⟨y,List.mem_of_getElem? hq,by simpa using h⟩
theorem aKG{x:ay}(h:yw x)(r:bw):(fD x r).1.sz<=1000000/\ -1000000<=(fD x r).1.sz:=by
 unfold fD;split
 .exact⟨dz,dz⟩
 .dsimp only
  cases hq:(jQ (fN x (mQ x r).1) (mQ x r).2.1)[(mQ x r).2.2.toNat]? with
  | none=>exact⟨dz,dz⟩
  | some q=>
   obtain⟨p,hp,hqp⟩:=NX (List.mem_of_getElem? hq);obtain⟨m,hm,hpm⟩:=NY hp;have:=(KZ (h.part (Jc hm hpm)).1).2.2.2 q hqp;simp only[Option.getD_some];omega
theorem Yl{x:gu}(h:rB x=BR):jt x.a/\jt x.b/\jt x.d:=by
 simp only[rB,BW,EL]at h;obtain⟨_,h1,h2⟩:=h;have aJ:∀v∈ [x.a,x.b,x.d],jt v:=λv hv=>by
  rw[<-List.take_append_drop (mX x.op).size [x.a,x.b,x.d]]at hv;rcases E2.1 hv with hv | hv
  .have:=h1 v hv
   simp only[fH,BW,decide_eq_true_eq]at this;exact⟨oz,oz⟩
  .have:=of_decide_eq_true (h2 v hv)
   exact⟨oz,oz⟩
 exact⟨aJ _ qz,aJ _ qz,aJ _ qz⟩
theorem aFj{x:ay}(hF:rJ x):∀y∈fE x,∀q∈y.2.procs.l,∀z∈q.code.l,jt z.a/\jt z.b/\jt z.d:=λy hy q hq z hz=>by
 have h1:=(NV (hF.part hy)).2.2 q hq;simp only[xS,BW,EL]at h1;exact Yl (h1.2 z hz)
theorem aCB{x:ay}(h:yw x){w:Al}{B:Nat}(hr:∀y∈x.causes.l,y.rd w B):∀y∈x.causes.l,y.c.excl.length<=8/\y.c.needs.length<=8:=λy hy=>by
 have h1:=h.causes y hy;simp only[j6,BW,List.all_cons,List.all_nil,dJ,decide_eq_true_eq,Bool.and_true]at h1;have h2:=(hr y hy).nl;have h3:=(hr y hy).xl;omega
theorem Jg(L:List fC):∀(f:Nat) (n:Int) (R:List fC),R.length+2<=f\/(n=R.length/\1<=f)->∃b,Cy L f n R=Ai b
 | 0,n,R,h=>by omega
 | f+1,n,R,h=>by
  rw[Cy];by_cases hn:n=R.length
  .rw[if_pos hn];exact⟨_,rfl⟩
  .rw[if_neg hn]
   refine Jg L f _ _ ?_;have h1:=List.length_filter_le (iW L R) R;rcases h with h | h
   .by_cases e:(R.filter (iW L R)).length=R.length
    .exact .inr ⟨by rw[e],oz⟩
    .exact .inl oz
   .exact absurd h.1 hn
def C9(x:ay):Bool:=(Cy x.causes.l (x.causes.l.length+2) (-1) x.causes.l).getD Bj
theorem NZ(x:ay):Cy x.causes.l (x.causes.l.length+2) (-1) x.causes.l=Ai (C9 x):=by
 obtain⟨b,hb⟩:=Jg x.causes.l (x.causes.l.length+2) (-1) x.causes.l (.inl oz);unfold C9;rw[hb];rfl
def Bz(y:WM):Bool:=y.2.procs.l.all λq=>q.code.l.all λz=>mJ y.2 q.code.l.length z
def K0(x:ay):Bool:=(fE x).all Bz
open Go.Act renaming put → zP
open List renaming setIfInBounds_toArray → zA, set_cons_zero → zB, set_cons_succ → zC
theorem aFk(p:aC)(n:Int)(x:gu)(w:Al)(hL:ct w)(h0:0<=x.op/\x.op<=255)(ha:jt x.a)(hb:jt x.b)(hd:jt x.d)(hr:fu w w.heap.size p.aq.a p.aq.l):
 CU 85 #[p.val,.int .i64 n,x.val] w (.bool (mJ p n x)):=by
 obtain⟨y0,bR⟩:=ez (w.alloc (.cells p.cl 71));obtain⟨y1,K1⟩:=ez (y0.alloc (.cells #[.int .u8 x.op,.int .i64 x.a,.int .i64 x.b,.int .i64 x.d] 169));have hz0:y0.heap.size=w.heap.size+1:=by rw[bR];simp
 have hz1:y1.heap.size=w.heap.size+1+1:=by rw[K1];simp[hz0]
 have bW:BD w.heap.size w y0:=by rw[bR];exact bN
 have bY:BD w.heap.size w y1:=by rw[K1];exact bW.alloc bW.size _
 have kg:p.bk y1 w.heap.size:=by
  have h1:p.bk y0 w.heap.size:=by rw[bR];exact ah.new w _ _
  rw[K1];exact h1.below (bN) h1.lt
 have gP:x.bk y1 (w.heap.size+1):=by rw[K1,<-hz0];exact ah.new y0 _ _
 have Jf:=aB6 x y1 (hL.below bY) h0 ha hb hd;have kx0:=gP.cell 0;have kx1:=gP.cell 1;have kx2:=gP.cell 2;have kx3:=gP.cell 3;rw[hz1]at Jf;have QJ:=Jf;rw[K1,bR]at QJ;have X7:=lz QJ;have cU:=lz bY;have UK:=lz kg;have DU:=lz gP;have dV:=lz bR;have Hy1:=lz K1;have HZ1:=lz hz1;have HL:=lz hL;have H0:=lz h0;have Hr:=lz hr;have HA:=lz (show mJ p n x=(rB x&&(NS x).all λq=>mS p n x q.1.toNat q.2)from rfl);clear Jf QJ bW bY kg gP bR K1 hz0 hz1 hL hr h0 ha hb hd kx0 kx1 kx2 kx3;go_enter func85,ntmps85;go_wp2_with fail;refine X7.out.mono ?_;rintro e y2 ⟨⟨s,z,rfl,hz⟩,dI⟩;rw[<-dV.out,<-Hy1.out]at dI;have kq:BD y1.heap.size y1 y2:=by rw[HZ1.out];exact dI
 have eF:=lz kq;clear dI kq
 cases hq:rB x with
 | false=>
  rw[hq]at hz;have hz1:¬z=0:=by simpa using hz
  go_wp2;go_ret;exact⟨by rw[HA.out,hq];rfl,cU.out.trans (eF.out.mono cU.out.size)⟩
 | true=>
  rw[hq]at hz;obtain rfl:z=0:=by simpa using hz
  clear hz;go_wp2_with fail;refine wp_region_any kz ?_;refine UA (C:=⟨p,n,w.heap.size,w.heap.size+1,y2.drew,_⟩) (mb:=0) ?_ (dP.first _ 0 rfl rfl _ (BK _ _)) ?_
  .exact⟨rfl,rfl,rfl,rfl,rfl,(UK.out.below eF.out.drew UK.out.lt)⟩
  .rintro mb ⟨tm,df⟩ w6 h6
   obtain⟨t25,t26,t27,t28,t29,t30,t31,t32,t33,t34,t35,t36,t37,t38,t39,t40,t41,t42,t43,t44,t45,t46,t47,t48,t49,t50,t51,t52,t53,t54,t55,t56,t57,t58,rfl,rfl,rz,kk,D,D8,hfm,RF⟩:=aFe h6;have DV:=lz rz;have Hfm:=lz hfm;have Hfn:=lz RF;have RR:=lz (cU.out.trans ((eF.out.drew.trans (rz.mono eF.out.drew.size)).mono cU.out.size));have UL:=lz (DU.out.below (eF.out.drew.trans (rz.mono eF.out.drew.size)) DU.out.lt);have kx0:=UL.out.cell 0;have kx1:=UL.out.cell 1;have kx2:=UL.out.cell 2;have kx3:=UL.out.cell 3;clear h6 rz hfm RF;have aO3:=UL.out.lt;have aWm:(w6.alloc (.cells #[.int .i64 x.a,.int .i64 x.b,.int .i64 x.d] 215)).cell? ⟨w.heap.size+1,0,Ag⟩=Ai (.int .u8 x.op):=(World.cell?_alloc_lt w6 _ ⟨w.heap.size+1,0,Ag⟩ aO3).trans kx0;have P8:=lz (oq x.op _ (HL.out.below (RR.out.alloc RR.out.size (.cells #[.int .i64 x.a,.int .i64 x.b,.int .i64 x.d] 215))) H0.out.1 H0.out.2);show Exit.then _ _ _ _ _;go_wp2_with fail;refine P8.out.mono ?_;rintro e w7 ⟨rfl,Nk⟩;have RZ:=lz Nk;clear Nk;have HT3:=lz (qE x.op);have HTk:=lz (X9 x.op);obtain⟨t,ht⟩:=ez (mX x.op);rw[<-ht]at HT3 HTk;rw[<-ht];have Ht:=lz ht;clear ht;have Uy:Hid (BD w.heap.size w w7):=lz ((RR.out.alloc RR.out.size _).trans (RZ.out.mono (RR.out.alloc RR.out.size _).size));go_wp2;go_loopw [13,14] (λ_ _ wr=>∃k:Nat,k<=t.size/\wr.heap[w7.heap.size]?=Ai (.stringIter t k)/\Hid (BD w7.heap.size w7 wr)/\Hid (((NS x).take k).all (λq=>mS p n x q.1.toNat q.2)=BR)) (λ_ _ wr=>t.size-(match wr.heap[w7.heap.size]? with | some (.stringIter _ q)=>q | _=>0))
   case atStart=>exact⟨0,nZ,World.iter_heap w7 t 0,lz (bN),lz rfl⟩
   case round=>
    obtain⟨k,hk,hit,HW,HK⟩:=hrel;by_cases hlt:k<t.size
    .have hn:=λty=>Go.Lib.run_next_ascii_at (P:=pG) wr w7.heap.size t k ty hit hlt (QI _ (HTk.out _ (by simp[ByteArray.getElem_eq_getElem_data])))
     obtain⟨w9,hw9⟩:=ez (wr.iterAt w7.heap.size t (k+1));simp only[<-hw9]at hn;have aKI:w9.heap[w7.heap.size]?=Ai (.stringIter t (k+1)):=by rw[hw9];exact Lib.iterAt_heap wr _ t k _ hit
     have Jh:BD w7.heap.size w7 w9:=by rw[hw9];exact below_iterAt HW.out _ nL _ _
     have hA6:BD w6.heap.size w6 (w6.alloc (.cells #[.int .i64 x.a,.int .i64 x.b,.int .i64 x.d] 215)):=bN;have aFl:BD w6.heap.size w6 w7:=hA6.trans (RZ.out.mono hA6.size);have UM:BD w6.heap.size w6 w9:=aFl.trans (Jh.mono aFl.size);have zn:k<3:=by have:=HT3.out;omega
     have hnn:=NR hq;have hnk:(0:Int)<= [x.a,x.b,x.d][k]:=by
      have:k=0\/k=1\/k=2:=by omega
      rcases this with rfl | rfl | rfl
      .exact hnn.1
      .exact hnn.2.1
      .exact hnn.2.2
     obtain⟨m,hm⟩:∃m:Nat,[x.a,x.b,x.d][k]=(m:Int):=Int.eq_ofNat_of_zero_le hnk;have iO:ah w9 w6.heap.size 215 #[.int .i64 x.a,.int .i64 x.b,.int .i64 x.d]:=((ah.new w6 _ _).below RZ.out (ah.lt (ah.new w6 _ _))).below Jh (by have:=RZ.out.size;simp at this;omega);have hcell:w9.cell? ⟨w6.heap.size,k,Ag⟩=Ai (.int .i64 (m:Int)):=by
      rw[<-hm];have:k=0\/k=1\/k=2:=by omega
      rcases this with rfl | rfl | rfl
      .exact iO.cell 0
      .exact iO.cell 1
      .exact iO.cell 2
     have aKJ:BD y1.heap.size y1 w6:=eF.out.drew.trans (DV.out.mono eF.out.drew.size);obtain⟨f,lb,hat,hen,au⟩:=aJ5 _ x Hfn.out (UK.out.below aKJ UK.out.lt) UL.out ((Hr.out.below RR.out)) hnn.1 t[k].toNat (HTk.out _ (by simp[ByteArray.getElem_eq_getElem_data])) m;have uT:=(Hfm.out.below UM Hfm.out.lt).look t[k].toNat ((show∀k∈QH,(kI (k:Int)).wf=BR by decide) _ (HTk.out t[k] (by simp[ByteArray.getElem_eq_getElem_data]))) hat;have Ym:=((Hfm.out.below UM Hfm.out.lt).below (w':=w9.drew) (BK w9.heap.size w9).drew ((Hfm.out.below UM Hfm.out.lt)).lt).look t[k].toNat ((show∀k∈QH,(kI (k:Int)).wf=BR by decide) _ (HTk.out t[k] (by simp[ByteArray.getElem_eq_getElem_data]))) hat;have hHeld:w9.drew.cell? ⟨w6.heap.size,k,Ag⟩=Ai (.int .i64 (m:Int))/\(E4 214 (.map (Ai mb)) (.int .i32 ((t[k].toNat:Nat):Int)) Bj).run pG w9.drew= .ok (.func (.func f) #[] lb) w9.drew:=⟨hcell,Ym⟩;have hc9:=au w9.drew UM.drew;have Hc9:=lz hc9;have hl:=NT x;rw[<-Ht.out]at hl;have wu:(NS x)[k]'(by omega)=(t[k],(m:Int)):=by
      have h1:(mX x.op).data.toList[k]'(by rw[<-Ht.out];simpa using hlt)=t[k]:=by
       have:t=mX x.op:=Ht.out;subst this;simp[ByteArray.getElem_eq_getElem_data]
      unfold NS;rw[List.getElem_zip,h1,hm]
     have Hgl:=lz wu;have Hl:=lz hl;have aDy:=lz hHeld;have Hen:=lz hen;have Hlo:=lz (show∀b,mS p n x t[k].toNat m=b->mS p n x t[k].toNat m=b from λ_ h=>h);clear au hc9 hw9 uT Ym hcell hHeld hen hat hnn hnk hm iO aKJ aFl hA6;go_wp2_with fail;have aKM:=lz aKI;have VA:=lz Jh;have aWn:=lz UM;have Hgl:=lz wu;clear hn aKI Jh UM wu D8 hq;have aWo:(k:Int)<3:=by omega
     refine aT (λW=>W.cell? ⟨w6.heap.size,k,Ag⟩=Ai (.int .i64 (m:Int))/\(E4 214 (.map (Ai mb)) (.int .i32 ((t[k].toNat:Nat):Int)) Bj).run pG W= .ok (.func (.func f) #[] lb) W) 6 kz aDy.out (λhHeld=> ?_);refine TS 0 rfl hHeld ?_
     simp only[zP,zA,zB,zC];refine TS 1 rfl hHeld ?_
     simp only[zP,zA,zB,zC];refine TS 2 rfl hHeld ?_
     simp only[zP,zA,zB,zC];refine TS 3 rfl hHeld ?_
     simp only[zP,zA,zB,zC];refine TS 4 rfl hHeld ?_
     simp only[zP,zA,zB,zC];refine TS 5 rfl hHeld ?_
     simp only[zP,zA,zB,zC];refine RQ 6 rfl λK hK=> ?_;have hen:=Hen.out;go_simp
     trace_state
     refine Hc9.out.mono ?_;rintro e w10 ⟨rfl,zU⟩;refine hK.out _ _ (λh=>absurd h dz) ?_;clear hK hHeld hen;refine RQ 7 rfl λK hK=> ?_;go_simp;refine hK.out _ _ (λh=>absurd h dz) ?_;clear hK;refine aL kz ?_ _;have Yn:=lz (VA.out.drew.trans (zU.mono VA.out.drew.size));have aDz:Hid (w10.heap[w7.heap.size]?=Ai (.stringIter t (k+1))):=lz ((zU.block _ (gE (show w9.drew.heap[w7.heap.size]?=_ from aKM.out)).1).trans aKM.out);clear zU aDy Hen Hc9
     cases VY:mS p n x t[k].toNat m with
     | false=>
      go_wp2;go_ret;have aJ:(NS x).all (λq=>mS p n x q.1.toNat q.2)=false:=yq (p:=λq:UInt8×Int=>mS p n x q.1.toNat q.2) (k:=k) oz (by rw[Hgl.out];exact VY);exact⟨by rw[HA.out,aJ];simp,Uy.out.trans (Yn.out.mono Uy.out.size)⟩
     | true=>
      go_wp2;go_roundw
      case rel=>exact⟨k+1,oz,aDz.out,Yn,lz (uV oz HK.out (by rw[Hgl.out];exact VY))⟩
      case measure=>rw[aDz.out,hit];simp;omega
    .have hn:=λty=>Go.Lib.run_next_end_at (P:=pG) wr w7.heap.size t k ty hit hlt
     go_wp2;go_ret;have hl:=NT x;rw[<-Ht.out]at hl;have rZ:=HK.out;rw[List.take_of_length_le oz]at rZ;exact⟨by rw[HA.out,hq,rZ];rfl,Uy.out.trans (HW.out.mono Uy.out.size)⟩
theorem Yo(p:aC)(q:cT)(z:gu)(Bp Bq:Nat)(w:Al)(hL:ct w)(hz:z.rd w w.heap.size)(hp:p.rd w w.heap.size)(Ea:ah w Bp 71 #[.string p.nm,.int .i64 p.pe,.int .i64 p.le,.int .i64 p.mem,.slice p.aG.a p.aG.l.length p.aG.c,.int .i64 p.ev,.int .i64 p.bo,.slice p.aX.a p.aX.l.length p.aX.c,.slice p.aq.a p.aq.l.length p.aq.c,.slice p.procs.a p.procs.l.length p.procs.c])(hBq:ah w Bq 76 #[.string q.nm,.int .i64 q.pr,.int .i64 q.pe,.int .i64 q.li,.slice q.code.a q.code.l.length q.code.c])(hi:jt z.a/\jt z.b/\jt z.d):
 CU 84 #[z.val,.pointer (Ai ⟨Bp,0,Ag⟩),.pointer (Ai ⟨Bq,0,Ag⟩)] w (.bool (mJ p q.code.l.length z)):=by
 obtain⟨y0,bR⟩:=ez (w.alloc (.cells #[.int .u8 z.op,.int .i64 z.a,.int .i64 z.b,.int .i64 z.d] 169));have bW:BD w.heap.size w y0:=by rw[bR];exact bN
 have bS:ah y0 w.heap.size 169 #[.int .u8 z.op,.int .i64 z.a,.int .i64 z.b,.int .i64 z.d]:=by rw[bR];exact ah.new w _ _
 have kg:ah y0 Bp 71 #[.string p.nm,.int .i64 p.pe,.int .i64 p.le,.int .i64 p.mem,.slice p.aG.a p.aG.l.length p.aG.c,.int .i64 p.ev,.int .i64 p.bo,.slice p.aX.a p.aX.l.length p.aX.c,.slice p.aq.a p.aq.l.length p.aq.c,.slice p.procs.a p.procs.l.length p.procs.c]:=Ea.below bW Ea.lt;have hbq:ah y0 Bq 76 #[.string q.nm,.int .i64 q.pr,.int .i64 q.pe,.int .i64 q.li,.slice q.code.a q.code.l.length q.code.c]:=hBq.below bW hBq.lt;have hc:=aFk p q.code.l.length z y0 (hL.below bW) hz.op0 hi.1 hi.2.1 hi.2.2 ((hp.below bW).aq);have k0:=bR▸bS.cell 0;have k1:=bR▸bS.cell 1;have k2:=bR▸bS.cell 2;have k3:=bR▸bS.cell 3;have p0:=bR▸kg.cell 0;have p1:=bR▸kg.cell 1;have p2:=bR▸kg.cell 2;have p3:=bR▸kg.cell 3;have p4:=bR▸kg.cell 4;have p5:=bR▸kg.cell 5;have p6:=bR▸kg.cell 6;have p7:=bR▸kg.cell 7;have p8:=bR▸kg.cell 8;have p9:=bR▸kg.cell 9;have q4:=bR▸hbq.cell 4;have Vx:=Ea.lt;have hlq:=hBq.lt;rw[bR]at hc;have Hc:=lz hc;have aV:=lz bW;have dV:=lz bR;obtain⟨b,hb⟩:=ez (mJ p q.code.l.length z);rw[<-hb]at Hc;rw[<-hb];clear hc bW bS kg hbq bR hL hz hp Ea hBq hi hb;go_enter func84,ntmps84;go_wp2_with fail;refine Hc.out.mono ?_;rintro e w1 ⟨rfl,aU⟩;rw[<-dV.out]at aU;have HB:=lz (aV.out.trans (aU.mono aV.out.size));clear aU Hc;go_wp2;go_ret;exact⟨rfl,HB.out⟩
theorem aCC(x:ay)(g:Nat)(w:Al)(h:tU w g x)(hr:x.rd w w.heap.size)(hL:ct w)(hi:∀y∈fE x,∀q∈y.2.procs.l,∀z∈q.code.l,jt z.a/\jt z.b/\jt z.d):CU 26 #[.pointer (Ai ⟨g,0,Ag⟩)] w (.bool (K0 x)):=by
 obtain⟨w1,cN⟩:=ez ((w.alloc (.cells #[.bool Bj] 4)).alloc (.cells #[.pointer (Ai ⟨g,0,Ag⟩)] 92));have aU:BD w.heap.size w w1:=by rw[cN];exact(bN).alloc qz _
 have jy:ah w1 w.heap.size 4 #[.bool Bj]:=by rw[cN];exact(ah.new w _ _).alloc _
 have gP:ah w1 (w.heap.size+1) 92 #[.pointer (Ai ⟨g,0,Ag⟩)]:=by rw[cN];have:=ah.new (w.alloc (.cells #[.bool Bj] 4)) 92 #[.pointer (Ai ⟨g,0,Ag⟩)];rwa[Dj]at this
 have hz:w1.heap.size=w.heap.size+2:=by rw[cN];simp
 have gH:D6 w1 g (w.heap.size+1) w.heap.size x:=⟨gP,h.below aU,hr.dn nL (cZ aU),oz⟩;have IK:x.mods.l.length<=9223372036854775807:=nT hr.AU (nT hr.AV dz);have um:=lz (CQ x g (w.heap.size+1) w.heap.size (λ_=>False) w1 (λ_ h=>h.elim) (λ_ h=>h.elim) gH IK);have wu:=ah.lt h;have Mk:=lz gH;have lH:=lz cN;have gh:=lz aU;have rT:=lz jy;have Hz:=lz hz;have Hi:=lz hi;have HL:=lz (hL.below aU);clear h hr cN aU jy gP hz gH hi hL;refine(callsIn_wide (n:=9)).1 ?_;refine callsIn_of_wp_marks func26 rfl trivial ?_ rfl;simp only[ntmps26,List.size_toArray,Ia,List.length_nil,Nat.reduceAdd,Nat.reduceSub,Array.replicate_succ,Array.replicate_zero,List.push_toArray,List.append_toArray,List.nil_append,GQ];refine wpIn_wide.2 ?_;go_wp2_with (go_at_call 70;refine(CX _ _).mono ?_;rintro e w' ⟨rfl,hw'⟩);rw[<-lH.out];clear hw';refine(wpIn_wide (n:=9)).1 ?_;have hz1:w.heap.size+2<=w1.heap.size:=Nat.le_of_eq Hz.out.symm;have Xm:w1.heap.size<=w.heap.size+2:=Nat.le_of_eq Hz.out;refine tQ (gf:=151) (lb:= #[.pointer (Ai ⟨w.heap.size+1,0,Ag⟩)]) (encs:=II) (xs:=fE x) (X:=λ_=>False) (XE:=λk=>k=w.heap.size) rfl (Df func151 kz rfl) (λ_=>rfl) (λ_ h=>h.elim) (λk e=>by omega) um.out
  (λT W=>BD w1.heap.size w1 W/\qG Bz T BR)
  (λT W=>ah W w.heap.size 4 #[.bool Bj]/\BD w.heap.size w W/\qG Bz T Bj) ?hI ?RU ?TG
  (λy a' W=>∃m p Bp,y=(m,p)/\w1.heap.size<=Bp/\ah W Bp 71 #[.string p.nm,.int .i64 p.pe,.int .i64 p.le,.int .i64 p.mem,.slice p.aG.a p.aG.l.length p.aG.c,.int .i64 p.ev,.int .i64 p.bo,.slice p.aX.a p.aX.l.length p.aX.c,.slice p.aq.a p.aq.l.length p.aq.c,.slice p.procs.a p.procs.l.length p.procs.c]/\a'={tmps:= #[.pointer (Ai ⟨g,0,Ag⟩),BA,.pointer (Ai ⟨w.heap.size,0,Ag⟩),BA,.pointer (Ai ⟨Bp,0,Ag⟩),BA,BA,.pointer (Ai ⟨g,0,Ag⟩),.func (.func 151) #[] #[.pointer (Ai ⟨w.heap.size+1,0,Ag⟩)],m.val,p.val,BA,BA,BA,BA,BA,BA,BA,BA,BA,BA,BA,BA,BA],defers:= []}) ?Kf ?assign ?body ?done ?ret
 case hI=>exact λT W W' h hb=>⟨h.1.trans hb,h.2⟩
 case RU=>exact λT W W' h hb=>⟨ah.below h.1 hb oz,h.2.1.trans (hb.mono oz),h.2.2⟩
 case TG=>exact⟨BK _ _,rfl⟩
 case Kf=>
  rintro y l a' W o o' hl ho hc ⟨m,p,Bp,e,h2,h4,h5⟩;exact⟨m,p,Bp,e,h2,mW h4 ho hc,h5⟩
 case assign=>
  rintro l T ⟨m,p⟩ W K hT hsz hK;gi_wp2;exact hK _ _ (bN) ⟨m,p,W.heap.size,rfl,oz,ah.new W _ _,rfl⟩
 case body=>
  rintro l T y a' W hT hsz hG ⟨wV,aJ⟩ ⟨m,p,Bp,rfl,h2,kg,rfl⟩;have iU:=CW hT;have hip:=Hi.out _ iU;dsimp only at hip;have fK:=(KH ((Mk.out.gr (X:=λ_=>False) (λ_ h=>h.elim) hG).r) iU).2;have CP:=(Mk.out.gr (X:=λ_=>False) (λ_ h=>h.elim) hG).B;have fK:p.rd W W.heap.size:=fK.more CP;have p9:=kg.cell 9;have Vx:=kg.lt;have iY:=rT.out.below wV oz;have Qm:∀b,Bz (m,p)=b->qG Bz (T++ [(m,p)]) b:=λb hb=>by unfold qG at *;rw[yd,aJ,hb];rfl
  have yg:∀W2,BD W.heap.size W W2->Bz (m,p)=Bj->(Gr (λk=>k=w.heap.size) W (W2.setCell ⟨w.heap.size,0,Ag⟩ (.bool Bj))/\ah (W2.setCell ⟨w.heap.size,0,Ag⟩ (.bool Bj)) w.heap.size 4 #[.bool Bj]/\BD w.heap.size w (W2.setCell ⟨w.heap.size,0,Ag⟩ (.bool Bj))/\qG Bz (T++ [(m,p)]) Bj)/\W2.cell? ⟨w.heap.size,0,Ag⟩=Ai (.bool Bj)/\W2.frozen? ⟨w.heap.size,0,Ag⟩=false:=λW2 h2 hb=>
   ⟨⟨(Gr.ak h2).trans (Gr.setCell W2 ⟨w.heap.size,0,Ag⟩ _ rfl),by simpa using(iY.below h2 iY.lt).bX 0 (.bool Bj),(gh.out.trans ((wV.trans (h2.mono wV.size)).mono gh.out.size)).setCell (p:=⟨w.heap.size,0,Ag⟩) nL _,Qm _ hb⟩,(iY.below h2 iY.lt).cell 0,(iY.below h2 iY.lt).frozen 0⟩
  have hcb:Bz (m,p)=p.procs.l.all λq=>q.code.l.all λz=>mJ p q.code.l.length z:=rfl
  have hpl:(p.procs.l.length:Int)<=9223372036854775807:=by
   have:=nT fK.zG (nT fK.zH (show maxLen<=9223372036854775807 by decide));omega
  have KI:=lz Qm;have ox:=lz yg;have Hbw:=lz wV;have UK:=lz kg;have kX:=lz fK;have Hip:=lz hip;have Hcb:=lz hcb;have HLW:=lz (HL.out.below wV);clear Qm yg wV iY fK iU kg hG aJ hT hip hcb CP;gi_wp2;gi_loopw [14] (λt wr=>∃k:Nat,k<=p.procs.l.length/\t= .int .i64 k/\Hid ((p.procs.l.take k).all (λq=>q.code.l.all λz=>mJ p q.code.l.length z)=BR)/\Hid (BD W.heap.size W wr)) (λt wr=>p.procs.l.length-(E8 t).toNat)
  case atStart=>exact⟨0,nZ,rfl,lz rfl,lz (BK _ _)⟩
  case round=>
   clear p9;obtain⟨k,hk,rfl,HA,HW⟩:=hrel;have aJU:=HW.out.size;by_cases hlt:k<p.procs.l.length
   .obtain⟨b',o,hA,mz,Mh⟩:=(kX.out.below HW.out).procs oz
    obtain⟨d0,d1,d2,d3,d4,aCD⟩:=Mh k hlt;have pE:=fun(h:(p.procs.l[k].code.l.all λz=>mJ p p.procs.l[k].code.l.length z)=BR)=>uV hlt HA.out h
    have jT:=fun(h:(p.procs.l[k].code.l.all λz=>mJ p p.procs.l[k].code.l.length z)=Bj)=>yq (p:=λq:cT=>q.code.l.all λz=>mJ p q.code.l.length z) hlt h
    have hik:=Hip.out _ (CS hlt);generalize p.procs.l[k]=q at *;obtain⟨W5,Xj⟩:=ez (wr.alloc (.cells #[.string q.nm,.int .i64 q.pr,.int .i64 q.pe,.int .i64 q.li,.slice q.code.a q.code.l.length q.code.c] 76));have Cp:BD wr.heap.size wr W5:=by rw[Xj];exact bN
    have hbq:ah W5 wr.heap.size 76 #[.string q.nm,.int .i64 q.pr,.int .i64 q.pe,.int .i64 q.li,.slice q.code.a q.code.l.length q.code.c]:=by rw[Xj];exact ah.new wr _ _
    have Yp:BD W.heap.size W W5:=HW.out.trans (Cp.mono aJU);have aFp:=UK.out.below Yp Vx;have hp5:p.rd W5 W5.heap.size:=kX.out.below Yp;have hL5:=HLW.out.below Yp;have au:=Wj 84 #[.pointer (Ai ⟨Bp,0,Ag⟩),.pointer (Ai ⟨wr.heap.size,0,Ag⟩)] (λz=>mJ p q.code.l.length z) (Df func84 kz rfl) q.code.l q.code.a q.code.c W5 (λW' r hx hW' aE7=>by simpa using Yo p q r Bp wr.heap.size W' (hL5.below hW') aE7 (hp5.below hW') (aFp.below hW' aFp.lt) (hbq.below hW' hbq.lt) (hik r hx)) (aCD.below Cp).code (nT aCD.WB (nT aCD.WC dz));have q4:=hbq.cell 4;rw[Xj]at q4;rw[Xj]at au;obtain⟨bq,NC⟩:=ez (q.code.l.all (λz=>mJ p q.code.l.length z));rw[<-NC]at au pE jT;have aN:=lz au;have lg:=lz pE;have oQ:=lz jT;have ND:=lz Xj;have aKN:=lz Yp;clear au pE jT Mh aCD hik Cp hbq aFp hp5 hL5 NC Xj Yp;rw[hA]at *;gi_wp2;refine jS aN.out ?_;rintro e W2 ⟨rfl,dI⟩;rw[<-ND.out]at dI;have eF:=lz (aKN.out.trans (dI.mono aKN.out.size));clear dI aN d0 d1 d2 d3 d4 q4
    cases bq with
    | false=>
     have hb:=ox.out W2 eF.out (by rw[Hcb.out];exact oQ.out rfl);have r0:=hb.2.1;have f0:=hb.2.2;have vN:=lz hb.1;clear hb;gi_wp2;exact vN.out
    | true=>
     have hn:=lz (lg.out rfl);gi_wp2;go_roundw
     case rel=>exact⟨k+1,oz,by go_num,hn,eF⟩
     case measure=>simp[E8];omega
   .obtain rfl:k=p.procs.l.length:=by omega
    have ha:=HA.out;rw[GS]at ha;gi_wp2;exact⟨Gr.ak HW.out,Hbw.out.trans (HW.out.mono Hbw.out.size),KI.out _ (by rw[Hcb.out];exact ha)⟩
 case done=>
  rintro D W hD hs ⟨hW,aJ⟩ hk;have HF:=lz (show K0 x=BR from aJ);have KJ:D<W.heap.size:=(gE hk).1;have d0:=(rT.out.below hW oz).cell 0;have f0:W.frozen? ⟨w.heap.size,0,Ag⟩=false:=(rT.out.below hW oz).frozen 0;have sA:=lz (rT.out.below hW oz);have HB:=lz (gh.out.trans (hW.mono gh.out.size));have Hk:=lz hk;clear hW hk aJ;go_wp2_with fail;have hz0:ah (W.setCell ⟨w.heap.size,0,Ag⟩ (.bool BR)) w.heap.size 4 #[.bool BR]:=by simpa using sA.out.bX 0 (.bool BR)
  have Hz0:=lz hz0;clear hz0;refine bP [D] (W.setCell ⟨w.heap.size,0,Ag⟩ (.bool BR)) (w.heap.size+1) qz (λE hE=>by simp at hE;subst hE;exact⟨oz,(Below.heap_setCell W ⟨w.heap.size,0,Ag⟩ _ E qo).trans Hk.out⟩) λW' j5=> ?_
  have z0:=(Hz0.out.below j5.below oz).cell 0;exact⟨.bool BR,by simp[results,f26,go_sem,z0],by rw[HF.out],(HB.out.setCell (p:=⟨w.heap.size,0,Ag⟩) nL _).trans (j5.below.mono oz)⟩
 case ret=>
  rintro D T W3 hD hs hT ⟨h1,h2,h3⟩ hk;have HF:=lz (show K0 x=Bj from pW hT h3);have KJ:D<W3.heap.size:=(gE hk).1;refine bP [D] W3 D qz (λE hE=>by simp at hE;subst hE;exact⟨nL,hk⟩) λW' j5=> ?_
  have z0:=(ah.below h1 j5.below oz).cell 0;exact⟨.bool Bj,by simp[results,f26,go_sem,z0],by rw[HF.out],h2.trans (j5.below.mono oz)⟩
def aR(x:ay):Nat->Bool
 | 0=>mG x
 | 1=>iV x
 | 2=>zR x
 | 3=>KG x
 | 4=>K0 x
 | 5=>tC x
 | 6=>oO x
 | 7=>aFF x
 | 8=>XF x
 | _=>C9 x
def cW(x:ay):Int:=
 if aR x 0=Bj then 100 else if aR x 1=Bj then 101 else if aR x 2=Bj then 102 else if aR x 3=Bj then 103 else if aR x 4=Bj then 104
 else if aR x 5=Bj then 105 else if aR x 6=Bj then 106 else if aR x 7=Bj then 107 else if aR x 8=Bj then 108 else if aR x 9=Bj then 109 else 0
def ko(x:ay)(k:Nat):Prop:=∀j,j<k->aR x j=BR
theorem ko.next{x:ay}{k:Nat}(h:ko x k)(hk:aR x k=BR):ko x (k+1):=λj hj=>by
 by_cases e:j=k
 .subst e;exact hk
 .exact h j oz
theorem aCE{x:ay}:cW x=0↔ko x 10:=by
 unfold cW;refine⟨λh j hj=> ?_,λh=> ?_⟩
 .cases hq:aR x j with
  | true=>rfl
  | false=>
   have h10:j=0\/j=1\/j=2\/j=3\/j=4\/j=5\/j=6\/j=7\/j=8\/j=9:=by omega
   repeat' split at h
   all_goals first | (exact absurd h dz) | (rcases h10 with rfl | rfl | rfl | rfl | rfl | rfl | rfl | rfl | rfl | rfl<;>contradiction)
 .rw[if_neg (by rw[h 0 oz];decide),if_neg (by rw[h 1 oz];decide),if_neg (by rw[h 2 oz];decide),if_neg (by rw[h 3 oz];decide),if_neg (by rw[h 4 oz];decide),if_neg (by rw[h 5 oz];decide),if_neg (by rw[h 6 oz];decide),if_neg (by rw[h 7 oz];decide),if_neg (by rw[h 8 oz];decide),if_neg (by rw[h 9 oz];decide)]
theorem aFq{x:ay}(h:ko x 0)(hq:aR x 0=Bj):cW x=100:=by
 unfold cW;rw[if_pos hq]
theorem aFr{x:ay}(h:ko x 1)(hq:aR x 1=Bj):cW x=101:=by
 unfold cW;rw[if_neg (show¬aR x 0=Bj by rw[h 0 oz];decide),if_pos hq]
theorem aFs{x:ay}(h:ko x 2)(hq:aR x 2=Bj):cW x=102:=by
 unfold cW;rw[if_neg (show¬aR x 0=Bj by rw[h 0 oz];decide),if_neg (show¬aR x 1=Bj by rw[h 1 oz];decide),if_pos hq]
theorem aFt{x:ay}(h:ko x 3)(hq:aR x 3=Bj):cW x=103:=by
 unfold cW;rw[if_neg (show¬aR x 0=Bj by rw[h 0 oz];decide),if_neg (show¬aR x 1=Bj by rw[h 1 oz];decide),if_neg (show¬aR x 2=Bj by rw[h 2 oz];decide),if_pos hq]
theorem aFu{x:ay}(h:ko x 4)(hq:aR x 4=Bj):cW x=104:=by
 unfold cW;rw[if_neg (show¬aR x 0=Bj by rw[h 0 oz];decide),if_neg (show¬aR x 1=Bj by rw[h 1 oz];decide),if_neg (show¬aR x 2=Bj by rw[h 2 oz];decide),if_neg (show¬aR x 3=Bj by rw[h 3 oz];decide),if_pos hq]
theorem aFv{x:ay}(h:ko x 5)(hq:aR x 5=Bj):cW x=105:=by
 unfold cW;rw[if_neg (show¬aR x 0=Bj by rw[h 0 oz];decide),if_neg (show¬aR x 1=Bj by rw[h 1 oz];decide),if_neg (show¬aR x 2=Bj by rw[h 2 oz];decide),if_neg (show¬aR x 3=Bj by rw[h 3 oz];decide),if_neg (show¬aR x 4=Bj by rw[h 4 oz];decide),if_pos hq]
theorem aFw{x:ay}(h:ko x 6)(hq:aR x 6=Bj):cW x=106:=by
 unfold cW;rw[if_neg (show¬aR x 0=Bj by rw[h 0 oz];decide),if_neg (show¬aR x 1=Bj by rw[h 1 oz];decide),if_neg (show¬aR x 2=Bj by rw[h 2 oz];decide),if_neg (show¬aR x 3=Bj by rw[h 3 oz];decide),if_neg (show¬aR x 4=Bj by rw[h 4 oz];decide),if_neg (show¬aR x 5=Bj by rw[h 5 oz];decide),if_pos hq]
theorem aFx{x:ay}(h:ko x 7)(hq:aR x 7=Bj):cW x=107:=by
 unfold cW;rw[if_neg (show¬aR x 0=Bj by rw[h 0 oz];decide),if_neg (show¬aR x 1=Bj by rw[h 1 oz];decide),if_neg (show¬aR x 2=Bj by rw[h 2 oz];decide),if_neg (show¬aR x 3=Bj by rw[h 3 oz];decide),if_neg (show¬aR x 4=Bj by rw[h 4 oz];decide),if_neg (show¬aR x 5=Bj by rw[h 5 oz];decide),if_neg (show¬aR x 6=Bj by rw[h 6 oz];decide),if_pos hq]
theorem aFy{x:ay}(h:ko x 8)(hq:aR x 8=Bj):cW x=108:=by
 unfold cW;rw[if_neg (show¬aR x 0=Bj by rw[h 0 oz];decide),if_neg (show¬aR x 1=Bj by rw[h 1 oz];decide),if_neg (show¬aR x 2=Bj by rw[h 2 oz];decide),if_neg (show¬aR x 3=Bj by rw[h 3 oz];decide),if_neg (show¬aR x 4=Bj by rw[h 4 oz];decide),if_neg (show¬aR x 5=Bj by rw[h 5 oz];decide),if_neg (show¬aR x 6=Bj by rw[h 6 oz];decide),if_neg (show¬aR x 7=Bj by rw[h 7 oz];decide),if_pos hq]
theorem aFz{x:ay}(h:ko x 9)(hq:aR x 9=Bj):cW x=109:=by
 unfold cW;rw[if_neg (show¬aR x 0=Bj by rw[h 0 oz];decide),if_neg (show¬aR x 1=Bj by rw[h 1 oz];decide),if_neg (show¬aR x 2=Bj by rw[h 2 oz];decide),if_neg (show¬aR x 3=Bj by rw[h 3 oz];decide),if_neg (show¬aR x 4=Bj by rw[h 4 oz];decide),if_neg (show¬aR x 5=Bj by rw[h 5 oz];decide),if_neg (show¬aR x 6=Bj by rw[h 6 oz];decide),if_neg (show¬aR x 7=Bj by rw[h 7 oz];decide),if_neg (show¬aR x 8=Bj by rw[h 8 oz];decide),if_pos hq]
theorem aF0(x:ay)(g:Nat)(w:Al)(h:tU w g x)(hr:x.rd w w.heap.size)(hL:ct w)(hx:∀r∈x.causes.l,r.x.n<=8796093021952):
 CU 22 #[.pointer (Ai ⟨g,0,Ag⟩)] w (.bool (mG x)):=by
 have hv:=aBG x w hL hr hx;have k0:=h.cell 0;have k1:=h.cell 1;have k2:=h.cell 2;have k3:=h.cell 3;have k4:=h.cell 4;have k5:=h.cell 5;have k6:=h.cell 6;have k7:=h.cell 7;have Hv:=lz hv;obtain⟨q,hq⟩:=ez (mG x);rw[<-hq]at Hv;rw[<-hq];clear hv h hr hx hL hq;go_enter func22,ntmps22;go_wp2_with fail;refine Hv.out.mono ?_;rintro e w1 ⟨rfl,aU⟩;go_wp2;go_ret;exact⟨rfl,aU⟩
structure Yq(x:ay)(g:Nat)(w:Al):Prop where
 ck:tU w g x
 rd:x.rd w w.heap.size
 laid:ct w
theorem Yq.below{x:ay}{g:Nat}{w w':Al}(h:Yq x g w)(hb:BD w.heap.size w w'):Yq x g w':=⟨h.ck.below hb,h.rd.below hb,h.laid.below hb⟩
theorem Ji{x:ay}{w:Al}{B:Nat}(h:x.rd w B):∀y∈x.causes.l,y.rd w B:=λy hy=>by
 obtain⟨i,hi,rfl⟩:=List.getElem_of_mem hy;obtain⟨b,o,_,_,hc⟩:=h.causes oz;exact(hc i hi).2.2.2
def Rule(x:ay)(k f:Nat):Prop:=ko x k->∀(g:Nat) (w:Al),Yq x g w->CU f #[.pointer (Ai ⟨g,0,Ag⟩)] w (.bool (aR x k))
theorem aKO(x:ay)(hx:∀r∈x.causes.l,r.x.n<=8796093021952):Rule x 0 22:=λh g w H=>aF0 x g w H.ck H.rd H.laid hx
theorem aKP(x:ay):Rule x 1 23:=λh g w H=>Xo x g w H.ck H.rd
theorem ko.form{x:ay}{k:Nat}(h:ko x k)(hk:0<k):rJ x:=aFh (h 0 hk)
theorem ko.lim{x:ay}{k:Nat}(h:ko x k)(hk:1<k):yw x:=aKD (h 1 hk)
theorem aKQ(x:ay):Rule x 2 24:=λh g w H=>aBm x g w H.ck H.rd (aOz (h.form oz) (h.lim oz))
theorem aKR(x:ay):Rule x 3 25:=λh g w H=>aBf x g w H.ck H.rd (aKE (h.lim oz))
theorem aKS(x:ay):Rule x 4 26:=λh g w H=>aCC x g w H.ck H.rd H.laid (aFj (h.form oz))
theorem aKT(x:ay):Rule x 5 27:=λh g w H=>by
 have hl:=h.lim oz;exact aBx x g w H.ck H.rd (by have:=hl.ml;omega) (by have:=hl.sl;omega) (by have:=hl.ll;omega) (aFi (h.form oz))
theorem aKU(x:ay):Rule x 6 28:=λh g w H=>aBz x g w H.ck H.rd (aO0 (h.form oz) (h.lim oz))
theorem aKV(x:ay):Rule x 7 29:=λh g w H=>aJD x g w H.ck H.rd (λy _=>aKG (h.lim oz) y.src)
theorem aKW(x:ay):Rule x 8 30:=λh g w H=>by
 have hl:=h.lim oz;exact aFK x g w H.ck H.rd (by have:=hl.ml;omega) (aKF (h.form oz))
theorem aKX(x:ay):Rule x 9 31:=λh g w H=>by
 have hl:=h.lim oz;exact UH (C9 x) g x.causes.a x.causes.l x.causes.c _ w H.ck.a H.rd.causes (by have:=hl.cl;omega) (λy hy=>by have:=(aCB hl (Ji H.rd) y hy).1;omega) (Ji H.rd) (NZ x)
theorem yx(x:ay)(w:Al)(hr:x.rd w w.heap.size)(hL:ct w)(hx:∀r∈x.causes.l,r.x.n<=8796093021952):
 CU 10 #[x.val] w (.int .i64 (cW x)):=by
 obtain⟨w1,cN⟩:=ez (((w.alloc (.cells #[.slice x.mods.a x.mods.l.length x.mods.c,.slice x.aj.a x.aj.l.length x.aj.c,.slice x.aP.a x.aP.l.length x.aP.c,.slice x.links.a x.links.l.length x.links.c,.slice x.aF.a x.aF.l.length x.aF.c,.slice x.bQ.a x.bQ.l.length x.bQ.c,.slice x.causes.a x.causes.l.length x.causes.c,.slice x.aA.a x.aA.l.length x.aA.c] 31)).alloc (.cells #[.slice x.mods.a x.mods.l.length x.mods.c,.slice x.aj.a x.aj.l.length x.aj.c,.slice x.aP.a x.aP.l.length x.aP.c,.slice x.links.a x.links.l.length x.links.c,.slice x.aF.a x.aF.l.length x.aF.c,.slice x.bQ.a x.bQ.l.length x.bQ.c,.slice x.causes.a x.causes.l.length x.causes.c,.slice x.aA.a x.aA.l.length x.aA.c] 94)).alloc (.cells #[.func (.func 22) #[.pointer (Ai ⟨w.heap.size+1,0,Ag⟩)] #[],.int .i64 100,.func (.func 23) #[.pointer (Ai ⟨w.heap.size+1,0,Ag⟩)] #[],.int .i64 101,.func (.func 24) #[.pointer (Ai ⟨w.heap.size+1,0,Ag⟩)] #[],.int .i64 102,.func (.func 25) #[.pointer (Ai ⟨w.heap.size+1,0,Ag⟩)] #[],.int .i64 103,.func (.func 26) #[.pointer (Ai ⟨w.heap.size+1,0,Ag⟩)] #[],.int .i64 104,.func (.func 27) #[.pointer (Ai ⟨w.heap.size+1,0,Ag⟩)] #[],.int .i64 105,.func (.func 28) #[.pointer (Ai ⟨w.heap.size+1,0,Ag⟩)] #[],.int .i64 106,.func (.func 29) #[.pointer (Ai ⟨w.heap.size+1,0,Ag⟩)] #[],.int .i64 107,.func (.func 30) #[.pointer (Ai ⟨w.heap.size+1,0,Ag⟩)] #[],.int .i64 108,.func (.func 31) #[.pointer (Ai ⟨w.heap.size+1,0,Ag⟩)] #[],.int .i64 109] 96));have bY:BD w.heap.size w w1:=by rw[cN];exact((bN).alloc qz _).alloc qo _
 have gH:tU w1 (w.heap.size+1) x:=by
  rw[cN];have:=ah.new (w.alloc (.cells #[.slice x.mods.a x.mods.l.length x.mods.c,.slice x.aj.a x.aj.l.length x.aj.c,.slice x.aP.a x.aP.l.length x.aP.c,.slice x.links.a x.links.l.length x.links.c,.slice x.aF.a x.aF.l.length x.aF.c,.slice x.bQ.a x.bQ.l.length x.bQ.c,.slice x.causes.a x.causes.l.length x.causes.c,.slice x.aA.a x.aA.l.length x.aA.c] 31)) 94 #[.slice x.mods.a x.mods.l.length x.mods.c,.slice x.aj.a x.aj.l.length x.aj.c,.slice x.aP.a x.aP.l.length x.aP.c,.slice x.links.a x.links.l.length x.links.c,.slice x.aF.a x.aF.l.length x.aF.c,.slice x.bQ.a x.bQ.l.length x.bQ.c,.slice x.causes.a x.causes.l.length x.causes.c,.slice x.aA.a x.aA.l.length x.aA.c];rw[Dj]at this;exact this.alloc _
 have iO:ah w1 (w.heap.size+2) 96 #[.func (.func 22) #[.pointer (Ai ⟨w.heap.size+1,0,Ag⟩)] #[],.int .i64 100,.func (.func 23) #[.pointer (Ai ⟨w.heap.size+1,0,Ag⟩)] #[],.int .i64 101,.func (.func 24) #[.pointer (Ai ⟨w.heap.size+1,0,Ag⟩)] #[],.int .i64 102,.func (.func 25) #[.pointer (Ai ⟨w.heap.size+1,0,Ag⟩)] #[],.int .i64 103,.func (.func 26) #[.pointer (Ai ⟨w.heap.size+1,0,Ag⟩)] #[],.int .i64 104,.func (.func 27) #[.pointer (Ai ⟨w.heap.size+1,0,Ag⟩)] #[],.int .i64 105,.func (.func 28) #[.pointer (Ai ⟨w.heap.size+1,0,Ag⟩)] #[],.int .i64 106,.func (.func 29) #[.pointer (Ai ⟨w.heap.size+1,0,Ag⟩)] #[],.int .i64 107,.func (.func 30) #[.pointer (Ai ⟨w.heap.size+1,0,Ag⟩)] #[],.int .i64 108,.func (.func 31) #[.pointer (Ai ⟨w.heap.size+1,0,Ag⟩)] #[],.int .i64 109]:=by
  rw[cN];have:=ah.new ((w.alloc (.cells #[.slice x.mods.a x.mods.l.length x.mods.c,.slice x.aj.a x.aj.l.length x.aj.c,.slice x.aP.a x.aP.l.length x.aP.c,.slice x.links.a x.links.l.length x.links.c,.slice x.aF.a x.aF.l.length x.aF.c,.slice x.bQ.a x.bQ.l.length x.bQ.c,.slice x.causes.a x.causes.l.length x.causes.c,.slice x.aA.a x.aA.l.length x.aA.c] 31)).alloc (.cells #[.slice x.mods.a x.mods.l.length x.mods.c,.slice x.aj.a x.aj.l.length x.aj.c,.slice x.aP.a x.aP.l.length x.aP.c,.slice x.links.a x.links.l.length x.links.c,.slice x.aF.a x.aF.l.length x.aF.c,.slice x.bQ.a x.bQ.l.length x.bQ.c,.slice x.causes.a x.causes.l.length x.causes.c,.slice x.aA.a x.aA.l.length x.aA.c] 94)) 96 #[.func (.func 22) #[.pointer (Ai ⟨w.heap.size+1,0,Ag⟩)] #[],.int .i64 100,.func (.func 23) #[.pointer (Ai ⟨w.heap.size+1,0,Ag⟩)] #[],.int .i64 101,.func (.func 24) #[.pointer (Ai ⟨w.heap.size+1,0,Ag⟩)] #[],.int .i64 102,.func (.func 25) #[.pointer (Ai ⟨w.heap.size+1,0,Ag⟩)] #[],.int .i64 103,.func (.func 26) #[.pointer (Ai ⟨w.heap.size+1,0,Ag⟩)] #[],.int .i64 104,.func (.func 27) #[.pointer (Ai ⟨w.heap.size+1,0,Ag⟩)] #[],.int .i64 105,.func (.func 28) #[.pointer (Ai ⟨w.heap.size+1,0,Ag⟩)] #[],.int .i64 106,.func (.func 29) #[.pointer (Ai ⟨w.heap.size+1,0,Ag⟩)] #[],.int .i64 107,.func (.func 30) #[.pointer (Ai ⟨w.heap.size+1,0,Ag⟩)] #[],.int .i64 108,.func (.func 31) #[.pointer (Ai ⟨w.heap.size+1,0,Ag⟩)] #[],.int .i64 109];simpa only[Dj]using this
 have VT:Hid (Yq x (w.heap.size+1) w1):=lz (⟨gH,hr.below bY,hL.below bY⟩);have rA:=lz iO;have cU:=lz bY;have Hx:=lz hx;have lH:=lz cN;clear gH iO bY hr hL hx cN;have b0:=ah.new w 31 #[.slice x.mods.a x.mods.l.length x.mods.c,.slice x.aj.a x.aj.l.length x.aj.c,.slice x.aP.a x.aP.l.length x.aP.c,.slice x.links.a x.links.l.length x.links.c,.slice x.aF.a x.aF.l.length x.aF.c,.slice x.bQ.a x.bQ.l.length x.bQ.c,.slice x.causes.a x.causes.l.length x.causes.c,.slice x.aA.a x.aA.l.length x.aA.c];have c0:=b0.cell 0;have c1:=b0.cell 1;have c2:=b0.cell 2;have c3:=b0.cell 3;have c4:=b0.cell 4;have c5:=b0.cell 5;have c6:=b0.cell 6;have c7:=b0.cell 7;clear b0;go_enter func10,ntmps10;go_wp2_with fail;rw[<-lH.out];go_loopw [41] (λt wr=>∃k:Nat,k<=10/\t= .int .i64 k/\BD w1.heap.size w1 wr/\Hid (ko x k)) (λt wr=>10-(E8 t).toNat)
 case atStart=>exact⟨0,oz,rfl,BK _ _,lz (λj hj=>absurd hj oz)⟩
 case round=>
  obtain⟨k,hk,rfl,hB,hu⟩:=hrel;clear c0 c1 c2 c3 c4 c5 c6 c7;have iO:=rA.out.below hB rA.out.lt;have Gt:=lz (VT.out.below hB);have hsz:w.heap.size+2<wr.heap.size:=iO.lt;have HB:=lz hB;have j7:=lz iO;clear hB iO;have h10:k=0\/k=1\/k=2\/k=3\/k=4\/k=5\/k=6\/k=7\/k=8\/k=9\/k=10:=by omega
  rcases h10 with rfl | rfl | rfl | rfl | rfl | rfl | rfl | rfl | rfl | rfl | rfl
  .have d0:=j7.out.cell 0
   have d1:=j7.out.cell 1;have hc:=aKO x Hx.out hu.out (w.heap.size+1) (wr.alloc (.cells #[.func (.func 22) #[.pointer (Ai ⟨w.heap.size+1,0,Ag⟩)] #[],.int .i64 100] 96)) (Gt.out.below ((BK wr.heap.size wr).alloc nL (.cells #[.func (.func 22) #[.pointer (Ai ⟨w.heap.size+1,0,Ag⟩)] #[],.int .i64 100] 96)));have jT:aR x 0=Bj->cW x=100:=aFq hu.out;have iw:aR x 0=BR->ko x 1:=hu.out.next
   have oQ:=lz jT;have fS:=lz iw;have yA:=lz hc;clear hc hu jT iw;generalize aR x 0=q at *;go_wp2_with fail;refine yA.out.mono ?_;rintro e W2 ⟨rfl,dI⟩;have eF:=lz (HB.out.trans (((BK wr.heap.size wr).alloc nL (.cells #[.func (.func 22) #[.pointer (Ai ⟨w.heap.size+1,0,Ag⟩)] #[],.int .i64 100] 96)).trans (dI.mono qz) |>.mono HB.out.size));have k1:=((ah.new wr 96 #[.func (.func 22) #[.pointer (Ai ⟨w.heap.size+1,0,Ag⟩)] #[],.int .i64 100]).below dI qz).cell 1;clear dI yA d0 d1
   cases q with
   | true=>
    have HU:=lz (fS.out rfl);clear oQ fS;go_wp2;go_roundw
    case rel=>exact⟨1,oz,by go_num,eF.out,HU⟩
    case measure=>simp[E8]
   | false=>
    have HV:=lz (oQ.out rfl);clear oQ fS;go_wp2;go_ret;exact⟨by rw[HV.out];rfl,cU.out.trans (eF.out.mono cU.out.size)⟩
  .have d0:=j7.out.cell 2
   have d1:=j7.out.cell 3;have hc:=aKP x hu.out (w.heap.size+1) (wr.alloc (.cells #[.func (.func 23) #[.pointer (Ai ⟨w.heap.size+1,0,Ag⟩)] #[],.int .i64 101] 96)) (Gt.out.below ((BK wr.heap.size wr).alloc nL (.cells #[.func (.func 23) #[.pointer (Ai ⟨w.heap.size+1,0,Ag⟩)] #[],.int .i64 101] 96)));have jT:aR x 1=Bj->cW x=101:=aFr hu.out;have iw:aR x 1=BR->ko x 2:=hu.out.next
   have oQ:=lz jT;have fS:=lz iw;have yA:=lz hc;clear hc hu jT iw;generalize aR x 1=q at *;go_wp2_with fail;refine yA.out.mono ?_;rintro e W2 ⟨rfl,dI⟩;have eF:=lz (HB.out.trans (((BK wr.heap.size wr).alloc nL (.cells #[.func (.func 23) #[.pointer (Ai ⟨w.heap.size+1,0,Ag⟩)] #[],.int .i64 101] 96)).trans (dI.mono qz) |>.mono HB.out.size));have k1:=((ah.new wr 96 #[.func (.func 23) #[.pointer (Ai ⟨w.heap.size+1,0,Ag⟩)] #[],.int .i64 101]).below dI qz).cell 1;clear dI yA d0 d1
   cases q with
   | true=>
    have HU:=lz (fS.out rfl);clear oQ fS;go_wp2;go_roundw
    case rel=>exact⟨2,oz,by go_num,eF.out,HU⟩
    case measure=>simp[E8]
   | false=>
    have HV:=lz (oQ.out rfl);clear oQ fS;go_wp2;go_ret;exact⟨by rw[HV.out];rfl,cU.out.trans (eF.out.mono cU.out.size)⟩
  .have d0:=j7.out.cell 4
   have d1:=j7.out.cell 5;have hc:=aKQ x hu.out (w.heap.size+1) (wr.alloc (.cells #[.func (.func 24) #[.pointer (Ai ⟨w.heap.size+1,0,Ag⟩)] #[],.int .i64 102] 96)) (Gt.out.below ((BK wr.heap.size wr).alloc nL (.cells #[.func (.func 24) #[.pointer (Ai ⟨w.heap.size+1,0,Ag⟩)] #[],.int .i64 102] 96)));have jT:aR x 2=Bj->cW x=102:=aFs hu.out;have iw:aR x 2=BR->ko x 3:=hu.out.next
   have oQ:=lz jT;have fS:=lz iw;have yA:=lz hc;clear hc hu jT iw;generalize aR x 2=q at *;go_wp2_with fail;refine yA.out.mono ?_;rintro e W2 ⟨rfl,dI⟩;have eF:=lz (HB.out.trans (((BK wr.heap.size wr).alloc nL (.cells #[.func (.func 24) #[.pointer (Ai ⟨w.heap.size+1,0,Ag⟩)] #[],.int .i64 102] 96)).trans (dI.mono qz) |>.mono HB.out.size));have k1:=((ah.new wr 96 #[.func (.func 24) #[.pointer (Ai ⟨w.heap.size+1,0,Ag⟩)] #[],.int .i64 102]).below dI qz).cell 1;clear dI yA d0 d1
   cases q with
   | true=>
    have HU:=lz (fS.out rfl);clear oQ fS;go_wp2;go_roundw
    case rel=>exact⟨3,oz,by go_num,eF.out,HU⟩
    case measure=>simp[E8]
   | false=>
    have HV:=lz (oQ.out rfl);clear oQ fS;go_wp2;go_ret;exact⟨by rw[HV.out];rfl,cU.out.trans (eF.out.mono cU.out.size)⟩
  .have d0:=j7.out.cell 6
   have d1:=j7.out.cell 7;have hc:=aKR x hu.out (w.heap.size+1) (wr.alloc (.cells #[.func (.func 25) #[.pointer (Ai ⟨w.heap.size+1,0,Ag⟩)] #[],.int .i64 103] 96)) (Gt.out.below ((BK wr.heap.size wr).alloc nL (.cells #[.func (.func 25) #[.pointer (Ai ⟨w.heap.size+1,0,Ag⟩)] #[],.int .i64 103] 96)));have jT:aR x 3=Bj->cW x=103:=aFt hu.out;have iw:aR x 3=BR->ko x 4:=hu.out.next
   have oQ:=lz jT;have fS:=lz iw;have yA:=lz hc;clear hc hu jT iw;generalize aR x 3=q at *;go_wp2_with fail;refine yA.out.mono ?_;rintro e W2 ⟨rfl,dI⟩;have eF:=lz (HB.out.trans (((BK wr.heap.size wr).alloc nL (.cells #[.func (.func 25) #[.pointer (Ai ⟨w.heap.size+1,0,Ag⟩)] #[],.int .i64 103] 96)).trans (dI.mono qz) |>.mono HB.out.size));have k1:=((ah.new wr 96 #[.func (.func 25) #[.pointer (Ai ⟨w.heap.size+1,0,Ag⟩)] #[],.int .i64 103]).below dI qz).cell 1;clear dI yA d0 d1
   cases q with
   | true=>
    have HU:=lz (fS.out rfl);clear oQ fS;go_wp2;go_roundw
    case rel=>exact⟨4,oz,by go_num,eF.out,HU⟩
    case measure=>simp[E8]
   | false=>
    have HV:=lz (oQ.out rfl);clear oQ fS;go_wp2;go_ret;exact⟨by rw[HV.out];rfl,cU.out.trans (eF.out.mono cU.out.size)⟩
  .have d0:=j7.out.cell 8
   have d1:=j7.out.cell 9;have hc:=aKS x hu.out (w.heap.size+1) (wr.alloc (.cells #[.func (.func 26) #[.pointer (Ai ⟨w.heap.size+1,0,Ag⟩)] #[],.int .i64 104] 96)) (Gt.out.below ((BK wr.heap.size wr).alloc nL (.cells #[.func (.func 26) #[.pointer (Ai ⟨w.heap.size+1,0,Ag⟩)] #[],.int .i64 104] 96)));have jT:aR x 4=Bj->cW x=104:=aFu hu.out;have iw:aR x 4=BR->ko x 5:=hu.out.next
   have oQ:=lz jT;have fS:=lz iw;have yA:=lz hc;clear hc hu jT iw;generalize aR x 4=q at *;go_wp2_with fail;refine yA.out.mono ?_;rintro e W2 ⟨rfl,dI⟩;have eF:=lz (HB.out.trans (((BK wr.heap.size wr).alloc nL (.cells #[.func (.func 26) #[.pointer (Ai ⟨w.heap.size+1,0,Ag⟩)] #[],.int .i64 104] 96)).trans (dI.mono qz) |>.mono HB.out.size));have k1:=((ah.new wr 96 #[.func (.func 26) #[.pointer (Ai ⟨w.heap.size+1,0,Ag⟩)] #[],.int .i64 104]).below dI qz).cell 1;clear dI yA d0 d1
   cases q with
   | true=>
    have HU:=lz (fS.out rfl);clear oQ fS;go_wp2;go_roundw
    case rel=>exact⟨5,oz,by go_num,eF.out,HU⟩
    case measure=>simp[E8]
   | false=>
    have HV:=lz (oQ.out rfl);clear oQ fS;go_wp2;go_ret;exact⟨by rw[HV.out];rfl,cU.out.trans (eF.out.mono cU.out.size)⟩
  .have d0:=j7.out.cell 10
   have d1:=j7.out.cell 11;have hc:=aKT x hu.out (w.heap.size+1) (wr.alloc (.cells #[.func (.func 27) #[.pointer (Ai ⟨w.heap.size+1,0,Ag⟩)] #[],.int .i64 105] 96)) (Gt.out.below ((BK wr.heap.size wr).alloc nL (.cells #[.func (.func 27) #[.pointer (Ai ⟨w.heap.size+1,0,Ag⟩)] #[],.int .i64 105] 96)));have jT:aR x 5=Bj->cW x=105:=aFv hu.out;have iw:aR x 5=BR->ko x 6:=hu.out.next
   have oQ:=lz jT;have fS:=lz iw;have yA:=lz hc;clear hc hu jT iw;generalize aR x 5=q at *;go_wp2_with fail;refine yA.out.mono ?_;rintro e W2 ⟨rfl,dI⟩;have eF:=lz (HB.out.trans (((BK wr.heap.size wr).alloc nL (.cells #[.func (.func 27) #[.pointer (Ai ⟨w.heap.size+1,0,Ag⟩)] #[],.int .i64 105] 96)).trans (dI.mono qz) |>.mono HB.out.size));have k1:=((ah.new wr 96 #[.func (.func 27) #[.pointer (Ai ⟨w.heap.size+1,0,Ag⟩)] #[],.int .i64 105]).below dI qz).cell 1;clear dI yA d0 d1
   cases q with
   | true=>
    have HU:=lz (fS.out rfl);clear oQ fS;go_wp2;go_roundw
    case rel=>exact⟨6,oz,by go_num,eF.out,HU⟩
    case measure=>simp[E8]
   | false=>
    have HV:=lz (oQ.out rfl);clear oQ fS;go_wp2;go_ret;exact⟨by rw[HV.out];rfl,cU.out.trans (eF.out.mono cU.out.size)⟩
  .have d0:=j7.out.cell 12
   have d1:=j7.out.cell 13;have hc:=aKU x hu.out (w.heap.size+1) (wr.alloc (.cells #[.func (.func 28) #[.pointer (Ai ⟨w.heap.size+1,0,Ag⟩)] #[],.int .i64 106] 96)) (Gt.out.below ((BK wr.heap.size wr).alloc nL (.cells #[.func (.func 28) #[.pointer (Ai ⟨w.heap.size+1,0,Ag⟩)] #[],.int .i64 106] 96)));have jT:aR x 6=Bj->cW x=106:=aFw hu.out;have iw:aR x 6=BR->ko x 7:=hu.out.next
   have oQ:=lz jT;have fS:=lz iw;have yA:=lz hc;clear hc hu jT iw;generalize aR x 6=q at *;go_wp2_with fail;refine yA.out.mono ?_;rintro e W2 ⟨rfl,dI⟩;have eF:=lz (HB.out.trans (((BK wr.heap.size wr).alloc nL (.cells #[.func (.func 28) #[.pointer (Ai ⟨w.heap.size+1,0,Ag⟩)] #[],.int .i64 106] 96)).trans (dI.mono qz) |>.mono HB.out.size));have k1:=((ah.new wr 96 #[.func (.func 28) #[.pointer (Ai ⟨w.heap.size+1,0,Ag⟩)] #[],.int .i64 106]).below dI qz).cell 1;clear dI yA d0 d1
   cases q with
   | true=>
    have HU:=lz (fS.out rfl);clear oQ fS;go_wp2;go_roundw
    case rel=>exact⟨7,oz,by go_num,eF.out,HU⟩
    case measure=>simp[E8]
   | false=>
    have HV:=lz (oQ.out rfl);clear oQ fS;go_wp2;go_ret;exact⟨by rw[HV.out];rfl,cU.out.trans (eF.out.mono cU.out.size)⟩
  .have d0:=j7.out.cell 14
   have d1:=j7.out.cell 15;have hc:=aKV x hu.out (w.heap.size+1) (wr.alloc (.cells #[.func (.func 29) #[.pointer (Ai ⟨w.heap.size+1,0,Ag⟩)] #[],.int .i64 107] 96)) (Gt.out.below ((BK wr.heap.size wr).alloc nL (.cells #[.func (.func 29) #[.pointer (Ai ⟨w.heap.size+1,0,Ag⟩)] #[],.int .i64 107] 96)));have jT:aR x 7=Bj->cW x=107:=aFx hu.out;have iw:aR x 7=BR->ko x 8:=hu.out.next
   have oQ:=lz jT;have fS:=lz iw;have yA:=lz hc;clear hc hu jT iw;generalize aR x 7=q at *;go_wp2_with fail;refine yA.out.mono ?_;rintro e W2 ⟨rfl,dI⟩;have eF:=lz (HB.out.trans (((BK wr.heap.size wr).alloc nL (.cells #[.func (.func 29) #[.pointer (Ai ⟨w.heap.size+1,0,Ag⟩)] #[],.int .i64 107] 96)).trans (dI.mono qz) |>.mono HB.out.size));have k1:=((ah.new wr 96 #[.func (.func 29) #[.pointer (Ai ⟨w.heap.size+1,0,Ag⟩)] #[],.int .i64 107]).below dI qz).cell 1;clear dI yA d0 d1
   cases q with
   | true=>
    have HU:=lz (fS.out rfl);clear oQ fS;go_wp2;go_roundw
    case rel=>exact⟨8,oz,by go_num,eF.out,HU⟩
    case measure=>simp[E8]
   | false=>
    have HV:=lz (oQ.out rfl);clear oQ fS;go_wp2;go_ret;exact⟨by rw[HV.out];rfl,cU.out.trans (eF.out.mono cU.out.size)⟩
  .have d0:=j7.out.cell 16
   have d1:=j7.out.cell 17;have hc:=aKW x hu.out (w.heap.size+1) (wr.alloc (.cells #[.func (.func 30) #[.pointer (Ai ⟨w.heap.size+1,0,Ag⟩)] #[],.int .i64 108] 96)) (Gt.out.below ((BK wr.heap.size wr).alloc nL (.cells #[.func (.func 30) #[.pointer (Ai ⟨w.heap.size+1,0,Ag⟩)] #[],.int .i64 108] 96)));have jT:aR x 8=Bj->cW x=108:=aFy hu.out;have iw:aR x 8=BR->ko x 9:=hu.out.next
   have oQ:=lz jT;have fS:=lz iw;have yA:=lz hc;clear hc hu jT iw;generalize aR x 8=q at *;go_wp2_with fail;refine yA.out.mono ?_;rintro e W2 ⟨rfl,dI⟩;have eF:=lz (HB.out.trans (((BK wr.heap.size wr).alloc nL (.cells #[.func (.func 30) #[.pointer (Ai ⟨w.heap.size+1,0,Ag⟩)] #[],.int .i64 108] 96)).trans (dI.mono qz) |>.mono HB.out.size));have k1:=((ah.new wr 96 #[.func (.func 30) #[.pointer (Ai ⟨w.heap.size+1,0,Ag⟩)] #[],.int .i64 108]).below dI qz).cell 1;clear dI yA d0 d1
   cases q with
   | true=>
    have HU:=lz (fS.out rfl);clear oQ fS;go_wp2;go_roundw
    case rel=>exact⟨9,oz,by go_num,eF.out,HU⟩
    case measure=>simp[E8]
   | false=>
    have HV:=lz (oQ.out rfl);clear oQ fS;go_wp2;go_ret;exact⟨by rw[HV.out];rfl,cU.out.trans (eF.out.mono cU.out.size)⟩
  .have d0:=j7.out.cell 18
   have d1:=j7.out.cell 19;have hc:=aKX x hu.out (w.heap.size+1) (wr.alloc (.cells #[.func (.func 31) #[.pointer (Ai ⟨w.heap.size+1,0,Ag⟩)] #[],.int .i64 109] 96)) (Gt.out.below ((BK wr.heap.size wr).alloc nL (.cells #[.func (.func 31) #[.pointer (Ai ⟨w.heap.size+1,0,Ag⟩)] #[],.int .i64 109] 96)));have jT:aR x 9=Bj->cW x=109:=aFz hu.out;have iw:aR x 9=BR->ko x 10:=hu.out.next
   have oQ:=lz jT;have fS:=lz iw;have yA:=lz hc;clear hc hu jT iw;generalize aR x 9=q at *;go_wp2_with fail;refine yA.out.mono ?_;rintro e W2 ⟨rfl,dI⟩;have eF:=lz (HB.out.trans (((BK wr.heap.size wr).alloc nL (.cells #[.func (.func 31) #[.pointer (Ai ⟨w.heap.size+1,0,Ag⟩)] #[],.int .i64 109] 96)).trans (dI.mono qz) |>.mono HB.out.size));have k1:=((ah.new wr 96 #[.func (.func 31) #[.pointer (Ai ⟨w.heap.size+1,0,Ag⟩)] #[],.int .i64 109]).below dI qz).cell 1;clear dI yA d0 d1
   cases q with
   | true=>
    have HU:=lz (fS.out rfl);clear oQ fS;go_wp2;go_roundw
    case rel=>exact⟨10,oz,by go_num,eF.out,HU⟩
    case measure=>simp[E8]
   | false=>
    have HV:=lz (oQ.out rfl);clear oQ fS;go_wp2;go_ret;exact⟨by rw[HV.out];rfl,cU.out.trans (eF.out.mono cU.out.size)⟩
  .have HV:=lz (aCE.2 hu.out)
   clear hu;go_wp2;go_ret;exact⟨by rw[HV.out];rfl,cU.out.trans (HB.out.mono cU.out.size)⟩
def lC(x:ay)(net:Int)(src i:Nat)(y:aO):List aI:=
 if y.net=net then([⟨(bg x y.a).toNat,(bg x y.b).toNat,i⟩,⟨(bg x y.b).toNat,(bg x y.a).toNat,i⟩]:List aI).filter λe=>decide (e.f=src)||decide (x.mods.l.length<=e.f)else[]
def dD(x:ay)(net:Int)(src:Nat):Nat->List aO->List aI
 | _,[]=> []
 | i,y :: r=>lC x net src i y++dD x net src (i+1) r
def gj(x:ay)(net:Int)(src:Nat):List aI:=dD x net src 0 x.links.l
theorem tG(x:ay)(net:Int)(src:Nat):∀(l:List aO) (i:Nat) (y:aO),dD x net src i (l++ [y])=dD x net src i l++lC x net src (i+l.length) y
 | [],i,y=>by simp[dD]
 | z :: l,i,y=>by
  simp only[GQ,dD,List.append_assoc,Ia];rw[tG x net src l (i+1) y,show i+1+l.length=i+(l.length+1)from by omega]
theorem zW(x:ay){net:Int}(src i:Nat){y:aO}(h:¬y.net=net):lC x net src i y= []:=if_neg h
theorem nQ{x:ay}(h:cW x=0):∀k,k<10->aR x k=true:=by
 intro k hk;unfold cW at h;repeat' split at h
 all_goals first
 | (exfalso;exact absurd h dz)
 | skip
 rename_i h0 h1 h2 h3 h4 h5 h6 h7 h8 h9
 match k,hk with
 | 0,_=>simpa using h0
 | 1,_=>simpa using h1
 | 2,_=>simpa using h2
 | 3,_=>simpa using h3
 | 4,_=>simpa using h4
 | 5,_=>simpa using h5
 | 6,_=>simpa using h6
 | 7,_=>simpa using h7
 | 8,_=>simpa using h8
 | 9,_=>simpa using h9
theorem jv{x:ay}(h:cW x=0):x.mods.l.length<=4/\x.aP.l.length<=8/\x.links.l.length<=32/\x.aF.l.length<=16:=by
 have h1:iV x=true:=nQ h 1 oz;unfold iV gU at h1;simp only[BW,decide_eq_true_eq]at h1;omega
theorem SH{x:ay}{net n:Int}{st s1:List kY×Int}(h:iP x net n st=Ai s1):0<=n:=by
 unfold iP at h;split at h
 .cases h
 .omega
theorem Yr{x:ay}{y:aO}{met m:List kY}(h:gA x y met=Ai m):0<=bg x y.a/\0<=bg x y.b/\¬bg x y.a=bg x y.b:=by
 unfold gA at h;split at h
 .cases h
 .rename_i h1
  split at h
  .cases h
  .rename_i h2
   split at h
   .rename_i h3
    exact⟨SH h1,SH h2,h3.2⟩
   .cases h
theorem Jj{x:ay}:∀{l:List aO} {met m:List kY},fJ x l met=Ai m->∀y∈l,0<=bg x y.a/\0<=bg x y.b/\¬bg x y.a=bg x y.b
 | [],_,_,_,y,hy=>by cases hy
 | z :: l,met,m,h,y,hy=>by
  unfold fJ at h;split at h
  .cases h
  .rename_i h1
   rcases BU.1 hy with rfl | hy
   .exact Yr h1
   .exact Jj h y hy
theorem zX{x:ay}(h:cW x=0):∀y∈x.links.l,0<=bg x y.a/\0<=bg x y.b/\¬bg x y.a=bg x y.b:=by
 have h1:tC x=true:=nQ h 5 oz;unfold tC at h1;obtain⟨m,hm⟩:=Jr.1 h1;exact Jj hm
theorem yC(x:ay)(s:ByteArray):bg x s<((x.mods.l.length+x.aP.l.length:Nat):Int):=by
 have h1:=kO (λy:bT=>seqB y.nm s) x.mods.l;have h2:=kO (λy:iI=>seqB y.nm s) x.aP.l;unfold bg;split
 .omega
 .split
  .omega
  .omega
theorem Jm{x:ay}{s:ByteArray}(h:0<=iM x s):bg x s=iM x s:=if_pos h
theorem SI(x:ay)(s:ByteArray):iM x s<x.mods.l.length:=kO _ _
theorem Jo{x:ay}{r:bw}(h:¬(fD x r).2<0):0<=iM x r.m/\(fD x r).2=iM x r.m:=by
 unfold fD at h ⊢;split at h
 .exact absurd dz h
 .rename_i h1
  rw[if_neg h1];unfold mQ at h1 ⊢;split at h1
  .rename_i h2
   rw[if_pos h2];split at h1
   .rename_i h3
    rw[if_pos h3];split at h1
    .rename_i h4
     rw[if_pos h4];exact⟨h2,rfl⟩
    .exact absurd dz h1
   .exact absurd dz h1
  .exact absurd dz h1
theorem aCG{x:ay}{q:aM}{m:Int}{vl:Bool}{u v:List bw}{r:bw}(h:oN x q m vl u r=Ai v):¬(fD x r).2<0/\(!((fD x r).2==m))=vl/\¬r∈u/\v=u++ [r]:=by
 unfold oN at h;split at h
 .cases h
 .rename_i h1
  split at h
  .cases h
  .split at h
   .cases h
   .split at h
    .cases h
    .split at h
     .cases h
     .rename_i h5
      split at h
      .cases h
      .rename_i h6
       cases h
       exact⟨h1,Classical.byContradiction λc=>h5 c,λc=>h6 (nS.2 c),rfl⟩
theorem Oa{x:ay}{q:aM}{m:Int}{vl:Bool}:∀{l u v:List bw},jl x q m vl l u=Ai v->∀r∈l,¬(fD x r).2<0/\(!((fD x r).2==m))=vl
 | [],_,_,_,r,hr=>by cases hr
 | z :: t,u,v,h,r,hr=>by
  have h':(oN x q m vl u z).bind (jl x q m vl t)=Ai v:=h
  cases hz:oN x q m vl u z with
  | none=>rw[hz]at h';cases h'
  | some u'=>
   rw[hz]at h';rcases BU.1 hr with rfl | hr
   .have:=aCG hz;exact⟨this.1,this.2.1⟩
   .exact Oa h' r hr
theorem aCH{x:ay}{u v:List bw}{y:dZ}(h:lu x u y=Ai v):¬(fD x y.src).2<0/\∀r∈y.dst.l,¬(fD x r).2<0/\(!((fD x r).2==(fD x y.src).2))=y.vl:=by
 unfold lu at h;split at h
 .cases h
 .rename_i h1
  split at h
  .cases h
  .split at h
   .cases h
   .exact⟨h1,Oa h⟩
theorem Ob{x:ay}:∀{l:List dZ} {u v:List bw},jq x l u=Ai v->∀y∈l,∃u' v',lu x u' y=Ai v'
 | [],_,_,_,y,hy=>by cases hy
 | z :: t,u,v,h,y,hy=>by
  have h':(lu x u z).bind (jq x t)=Ai v:=h
  cases hz:lu x u z with
  | none=>rw[hz]at h';cases h'
  | some u'=>
   rw[hz]at h';rcases BU.1 hy with rfl | hy
   .exact⟨u,u',hz⟩
   .exact Ob h' y hy
theorem El{x:ay}(h:cW x=0){y:fU}(hy:y∈x.aF.l):0<=iM x y.src.m/\bg x y.src.m=iM x y.src.m/\∀r∈y.dst.l,0<=iM x r.m/\bg x r.m=iM x r.m/\¬iM x r.m=iM x y.src.m:=by
 have h6:oO x=true:=nQ h 6 oz;unfold oO at h6;obtain⟨v,hv⟩:=Jr.1 h6;have iU:dZ.Pg y∈gi x:=EJ _ (GR.2 ⟨y,hy,rfl⟩);obtain⟨u',v',hc⟩:=Ob hv _ iU;obtain⟨h1,h2⟩:=aCH hc;obtain⟨m1,m2⟩:=Jo (r:=y.src) h1;refine⟨m1,Jm m1,λr hr=> ?_⟩;obtain⟨d1,d2⟩:=h2 r hr;obtain⟨n1,n2⟩:=Jo d1;refine⟨n1,Jm n1,λe=> ?_⟩;have d3:(!((fD x r).2==(fD x y.src).2))=true:=d2;rw[n2,m2,e]at d3;simp at d3
theorem Jp{x:ay}(h:cW x=0){y:fU}(hy:y∈x.aF.l):0<y.dst.l.length/\y.dst.l.length<=8:=by
 have h0:mG x=true:=nQ h 0 oz;have h1:iV x=true:=nQ h 1 oz;unfold mG at h0;simp only[BW]at h0;have:=EL.1 h0.1.1.1.2 y hy;unfold iV at h1;simp only[BW]at h1;have h2:=EL.1 h1.1 (dZ.Pg y) (EJ _ (GR.2 ⟨y,hy,rfl⟩));unfold Z9 sV at this;unfold iL at h2;simp only[BW,decide_eq_true_eq]at this h2;refine⟨?_,?_⟩
 .have:=this.1.2;simp at this;omega
 .have:((dZ.Pg y).dst.l.length:Int)<=8:=by simpa using h2
  have e:(dZ.Pg y).dst=y.dst:=rfl;rw[e]at this;omega
theorem Jq{x:ay}{net:Int}{src i:Nat}{y:aO}{e:aI}:e∈lC x net src i y↔y.net=net/\e.l=i/\((e.f=(bg x y.a).toNat/\e.t=(bg x y.b).toNat)\/(e.f=(bg x y.b).toNat/\e.t=(bg x y.a).toNat))/\(e.f=src\/x.mods.l.length<=e.f):=by
 obtain⟨f,t,l⟩:=e;unfold lC;split
 .rename_i c
  simp only[JJ,BU,List.not_mem_nil,or_false,Bool.or_eq_true,decide_eq_true_eq,aI.mk.injEq];constructor
  .rintro⟨h | h,hs⟩
   .exact⟨c,h.2.2,.inl ⟨h.1,h.2.1⟩,hs⟩
   .exact⟨c,h.2.2,.inr ⟨h.1,h.2.1⟩,hs⟩
  .rintro⟨_,rfl,h | h,hs⟩
   .exact⟨.inl ⟨h.1,h.2,rfl⟩,hs⟩
   .exact⟨.inr ⟨h.1,h.2,rfl⟩,hs⟩
 .rename_i c
  simp[c]
theorem Em{x:ay}{net:Int}{src:Nat}{e:aI}:∀{l:List aO} {i:Nat},e∈dD x net src i l↔∃j,∃hj:j<l.length,e∈lC x net src (i+j) l[j]
 | [],i=>by simp[dD]
 | y :: r,i=>by
  rw[dD,E2,Em (l:=r) (i:=i+1)];constructor
  .rintro(h | ⟨j,hj,h⟩)
   .exact⟨0,qz,by simpa using h⟩
   .exact⟨j+1,by simpa using hj,by rw[show i+(j+1)=i+1+j from by omega];simpa using h⟩
  .rintro⟨j,hj,h⟩
   match j,hj,h with
   | 0,_,h=>exact .inl (by simpa using h)
   | j+1,hj,h=>exact .inr ⟨j,by simpa using hj,by rw[show i+1+j=i+(j+1)from by omega];simpa using h⟩
theorem oT{x:ay}{net:Int}{src:Nat}{e:aI}:e∈gj x net src↔∃hj:e.l<x.links.l.length,x.links.l[e.l].net=net/\((e.f=(bg x x.links.l[e.l].a).toNat/\e.t=(bg x x.links.l[e.l].b).toNat)\/(e.f=(bg x x.links.l[e.l].b).toNat/\e.t=(bg x x.links.l[e.l].a).toNat))/\(e.f=src\/x.mods.l.length<=e.f):=by
 unfold gj;rw[Em];constructor
 .rintro⟨j,hj,h⟩
  rw[Jq]at h;obtain⟨h1,h2,h3,h4⟩:=h;have:e.l=j:=by omega
  subst this;exact⟨hj,h1,h3,h4⟩
 .rintro⟨hj,h1,h3,h4⟩
  exact⟨e.l,hj,Jq.2 ⟨h1,oz,h3,h4⟩⟩
theorem qI{x:ay}(h:cW x=0)(net:Int)(src:Nat):∀e∈gj x net src,e.t<x.mods.l.length+x.aP.l.length/\e.f<x.mods.l.length+x.aP.l.length:=λe he=>by
 obtain⟨hj,_,h3,_⟩:=oT.1 he;have hl:=zX h x.links.l[e.l] (CS hj);have ha:=yC x x.links.l[e.l].a;have hb:=yC x x.links.l[e.l].b;rcases h3 with h3 | h3<;>omega
abbrev ay.N(x:ay):Nat:=x.mods.l.length+x.aP.l.length
abbrev dX(x:ay)(y:fU):Nat:=(bg x y.src.m).toNat
def dW(x:ay)(net:Int)(y:fU):aQ:=bfs (gj x net (dX x y)) 12 (dX x y)
theorem En{x:ay}(h:cW x=0){y:fU}(hy:y∈x.aF.l):dX x y<x.mods.l.length/\dX x y<x.N:=by
 obtain⟨h1,h2,_⟩:=El h hy;have:=SI x y.src.m;unfold dX ay.N;rw[h2];omega
theorem Eo{x:ay}(h:cW x=0):x.N<=12:=by
 have:=jv h;unfold ay.N;omega
theorem jw{x:ay}(h:cW x=0)(net:Int){y:fU}(hy:y∈x.aF.l):aQ.Fin (gj x net (dX x y)) 12 (dX x y) (dW x net y):=
 aBZ (λe he=>Nat.lt_of_lt_of_le (qI h net _ e he).1 (Eo h)) (Nat.lt_of_lt_of_le (En h hy).2 (Eo h))
def bV(x:ay)(y:fU):List Nat:=y.dst.l.map λr=>(bg x r.m).toNat
theorem Ep{x:ay}(h:cW x=0){y:fU}(hy:y∈x.aF.l):∀m∈bV x y,m<x.mods.l.length/\m≠dX x y:=λm hm=>by
 obtain⟨r,hr,rfl⟩:=GR.1 hm;obtain⟨h1,h2,h3⟩:=El h hy;obtain⟨d1,d2,d3⟩:=h3 r hr;have:=SI x r.m;unfold dX;rw[d2,h2];exact⟨oz,oz⟩
def ay.arr(x:ay):Array Value:= #[.slice x.mods.a x.mods.l.length x.mods.c,.slice x.aj.a x.aj.l.length x.aj.c,.slice x.aP.a x.aP.l.length x.aP.c,.slice x.links.a x.links.l.length x.links.c,.slice x.aF.a x.aF.l.length x.aF.c,.slice x.bQ.a x.bQ.l.length x.bQ.c,.slice x.causes.a x.causes.l.length x.causes.c,.slice x.aA.a x.aA.l.length x.aA.c]
structure Bg(w0 W:Al)(x:ay)(base gc b mb nm:Nat)(D:DataW Bn)(vf:Nat->Bn)(F:Nat->List aI)(src n:Nat)(E:List aI):Prop where
 box:∃cs,sB W b mb (.slice Ag 0 0) src n (Fe 12 0) (Fe 12 aI.zero) cs
 cfg:ah W gc 31 x.arr
 e:uj W base mb nm D vf F
 f:∀k,k<12->F k=Ph E k
 lE:BD base w0 W
 sz:base<=W.heap.size
 hb:base<=b
section
variable {w0 W W':Al} {x:ay} {base gc b mb nm:Nat} {D:DataW Bn} {vf:Nat->Bn} {F:Nat->List aI} {src n:Nat} {E:List aI}
theorem Bg.below(h:Bg w0 W x base gc b mb nm D vf F src n E)(hb:BD W.heap.size W W'):Bg w0 W' x base gc b mb nm D vf F src n E:=by
 obtain⟨cs,h1⟩:=h.box;exact⟨⟨cs,h1.move (h1.blk.below hb h1.blk.lt)⟩,h.cfg.below hb h.cfg.lt,h.e.below hb,h.f,h.lE.trans (hb.mono h.sz),nT h.sz hb.size,h.hb⟩
theorem Bg.same{E':List aI}(h:Bg w0 W x base gc b mb nm D vf F src n E)(hE:E'=E):Bg w0 W x base gc b mb nm D vf F src n E':=hE▸h
theorem Bg.search(h:Bg w0 W x base gc b mb nm D vf F src n E):yX w0 W base b mb nm D vf F src n ⟨Fe 12 0,Fe 12 aI.zero,[]⟩:=by
 obtain⟨cs,h1⟩:=h.box;exact⟨⟨⟨_,cs,h1,.inl ⟨rfl,rfl⟩⟩,h.hb⟩,h.e,h.lE,h.sz⟩
theorem Bg.reads(h:Bg w0 W x base gc b mb nm D vf F src n E):W.cell? ⟨b,1,Ag⟩=Ai (.map (Ai mb))/\W.cell? ⟨b,2,Ag⟩=Ai (.int .i64 src):=by
 obtain⟨cs,h1⟩:=h.box;exact⟨h1.k1,h1.k2⟩
theorem Bg.conf(h:Bg w0 W x base gc b mb nm D vf F src n E):W.cell? ⟨gc,0,Ag⟩=Ai (.slice x.mods.a x.mods.l.length x.mods.c)/\W.cell? ⟨gc,1,Ag⟩=Ai (.slice x.aj.a x.aj.l.length x.aj.c)/\W.cell? ⟨gc,2,Ag⟩=Ai (.slice x.aP.a x.aP.l.length x.aP.c)/\W.cell? ⟨gc,3,Ag⟩=Ai (.slice x.links.a x.links.l.length x.links.c)/\
 W.cell? ⟨gc,4,Ag⟩=Ai (.slice x.aF.a x.aF.l.length x.aF.c)/\W.cell? ⟨gc,5,Ag⟩=Ai (.slice x.bQ.a x.bQ.l.length x.bQ.c)/\W.cell? ⟨gc,6,Ag⟩=Ai (.slice x.causes.a x.causes.l.length x.causes.c)/\W.cell? ⟨gc,7,Ag⟩=Ai (.slice x.aA.a x.aA.l.length x.aA.c):=
 ⟨h.cfg.cell 0,h.cfg.cell 1,h.cfg.cell 2,h.cfg.cell 3,h.cfg.cell 4,h.cfg.cell 5,h.cfg.cell 6,h.cfg.cell 7⟩
theorem Bg.aKY(h:Bg w0 W x base gc b mb nm D vf F src n E){e:aI}(he:e.f<12):W.cell? ⟨b,1,Ag⟩=Ai (.map (Ai mb))/\(E4 104 (.map (Ai mb)) (.int .i64 (e.f:Int)) Bj).run pG W= .ok (vf e.f) W:=
 ⟨h.reads.1,h.e.map.look (e.f:Int) (x9 e.f oz) (h.e.at_ e.f he)⟩
theorem Bg.looks(h:Bg w0 W x base gc b mb nm D vf F src n E){e:aI}(he:e.f<12):W.cell? ⟨b,1,Ag⟩=Ai (.map (Ai mb))/\(E4 104 (.map (Ai mb)) (.int .i64 (e.f:Int)) Bj).run pG W= .ok (vf e.f) W:=h.aKY he
theorem Bg.looksAt{W1:Al}(h:Bg w0 W x base gc b mb nm D vf F src n E){e:aI}(he:e.f<12)(hG:W.grownBy W1 (vf e.f).ownBlock):
 (W1.cell? ⟨b,1,Ag⟩=Ai (.map (Ai mb))/\(E4 104 (.map (Ai mb)) (.int .i64 (e.f:Int)) Bj).run pG W1= .ok (vf e.f) W1)/\gT W1 mb nm D:=by
 have hg:Gr (λk=>(vf e.f).ownBlock=Ai k) W W1:=Gr.eO hG (λk e=>e);obtain⟨cs,h1⟩:=h.box;have h2:=h1.move (hg.blk h1.blk (aW (h.e.own e.f he) h1.blk dz));have h3:gT W1 mb nm D:=h.e.map.gr hg (λhx=>by
  obtain⟨⟨es,clock,hm,_⟩,_⟩:=h.e.map;exact iQ (h.e.own e.f he) hm rfl hx)
 exact⟨⟨h2.k1,h3.look (e.f:Int) (x9 e.f oz) (h.e.at_ e.f he)⟩,h3⟩
theorem Yt(E:List aI)(e:aI)(k:Nat):Ph (E++ [e]) k=if k=e.f then Ph E k++ [e]else Ph E k:=by
 unfold Ph;rw[List.filter_append];by_cases c:k=e.f
 .rw[if_pos c,List.filter_cons_of_pos (by simp[c])];rfl
 .rw[if_neg c,List.filter_cons_of_neg (by simpa using λh=>c h.symm)];simp
theorem Bg.add{W1 W2:Al}{e:aI}{v:Bn}{o:Obj}(h:Bg w0 W x base gc b mb nm D vf F src n E)(he:e.f<12)
 (hown:W1.ownsRow base 107 3 v ((F e.f).length+1) ((F e.f).flatMap aI.cells++e.cells)) (hG:(W.alloc o).grownBy W1 (vf e.f).ownBlock) (Gl:∀g,v.ownBlock=Ai g->(vf e.f).ownBlock=Ai g\/W.heap.size<=g)
 (hm:gT W2 mb (nm+1) (D.put (kE (e.f:Int)) (.held v))) (AX:W1.grownBy W2 (Ai mb)):Bg w0 W2 x base gc b mb (nm+1) (D.put (kE (e.f:Int)) (.held v)) (λk=>if k=e.f then v else vf k) (aBW F e) src n (E++ [e]):=by
 have h0:=h.below (W':=W.alloc o) (bN);have hg:Gr (λk=>(vf e.f).ownBlock=Ai k\/k=mb) (W.alloc o) W2:=(Gr.eO hG (λk e=> .inl e)).trans' (Gr.eO (X:=(· =mb)) AX (λk e=>by cases e;rfl)) (λj _ e=> .inr e);have hne:∀{g:Nat} {t:TypeId} {cs:Array Bn},ah (W.alloc o) g t cs->107≠t->¬((vf e.f).ownBlock=Ai g\/g=mb):=by
  intro g t cs hb ht hx;rcases hx with hx | hx
  .exact aW (h0.e.own e.f he) hb ht hx
  .obtain⟨⟨es,clock,h1,_⟩,_⟩:=h0.e.map
   subst hx;unfold ah at hb;rw[h1]at hb;cases hb
 obtain⟨cs,h1⟩:=h0.box;refine⟨⟨cs,h1.move (hg.blk h1.blk (hne h1.blk dz))⟩,hg.blk h0.cfg (hne h0.cfg dz),h.e.add he hown hG Gl hm AX,λk hk=> ?_,?_,?_,h.hb⟩
 .rw[Yt]
  unfold aBW;rw[h.f k hk]
 .refine Ed h0.lE h0.sz hg λk hk hx=> ?_
  rcases hx with hx | hx
  .have:=((h0.e.own e.f he).lt k hx).1;omega
  .have:=h0.e.hb;omega
 .exact nT h0.sz hg.size
