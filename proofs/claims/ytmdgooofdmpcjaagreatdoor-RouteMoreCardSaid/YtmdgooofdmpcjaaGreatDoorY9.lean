import Derived.Test.YtmdgooofdmpcjaaGreatDoorY8
set_option maxRecDepth 100000
set_option maxHeartbeats 8000000
set_option linter.unusedSimpArgs false
set_option linter.unusedVariables false
set_option linter.unusedSectionVars false
open Go.Proofs.Tryz renaming prog → pG
open List renaming append_assoc->IZ,cons_append->GQ,flatMap_append->Ig,length_cons->Ia,nil_append->GY,take_length->GS,take_succ_eq_append_getElem->Dl
open Nat renaming lt_of_lt_of_le->EU,zero_add->E9
open Option renaming none->Ag,some->Ai
open Go.Proofs.Tryz
namespace Go.Proofs.YtmdgooofdmpcjaaGreatDoor
open Go renaming Addr->EK,Calls->ET,World->Al,bodyPost_ret->GJ,wpQuiet_nil->E5
open Go.Proofs renaming enters_of->Df
open RowKit renaming Below->BD,intOf->E8
open RowKit.Below renaming refl->BK
open World renaming size_alloc->Dj
section
open Go.ChangeShapes Go.WideShapes Go.ChangeAt Go.RowKit
attribute [local go_sem] Oper.semAt_some
theorem Iz{w:Al}{B o:Nat}{l:List ByteArray}(hB:B<w.heap.size)(h:∀i (hi:i<l.length),w.cell? ⟨B,o+i,Ag⟩=Ai (.string l[i])):iB w w.heap.size (Ai ⟨B,o,Ag⟩) l:=
 λ_=>⟨B,o,rfl,hB,h⟩
def Kr(s:ByteArray):Bool:=decide (s≠⟨#[]⟩)
theorem zF{s:ByteArray}(h:s≠⟨#[]⟩):s.toList.isEmpty=false:=by
 have:=VP h
 cases hs:s.toList with
 | nil=>rw[hs]at this;simp at this
 | cons a l=>rfl
def DR(n:Int):Bool:=decide (n=0\/n=1)
theorem RX{n:Int}(h:DR n=false):(n/2==0)=false:=by
 unfold DR at h;have:=of_decide_eq_false h;simpa using(by omega:¬n/2=0)
theorem Nj{n:Int}(h:DR n=true):(n/2==0)=true:=by
 unfold DR at h;have:=of_decide_eq_true h;simpa using(by omega:n/2=0)
theorem IB(m0:Int)(W:Al):ET pG 209 #[.slice (Ai ⟨W.heap.size,0,Ag⟩) 1 1] (W.alloc (.cells #[.int .i64 m0] 3)) λe w'=>e= .returned (.bool ([m0].all fH))/\BD W.heap.size W w':=by
 refine(sS [m0] _ 1 (W.alloc (.cells #[.int .i64 m0] 3)) (iZ qz (λi hi=>by
  have uz:i=0:=by simp at hi;omega
  rw[E9];rcases uz with rfl<;>exact(ah.new W _ _).cell _)) qz).mono ?_
 rintro e w' ⟨rfl,hb⟩;exact⟨rfl,(bN).trans (hb.mono qz)⟩
theorem tR(m0 m1:Int)(W:Al):ET pG 209 #[.slice (Ai ⟨W.heap.size,0,Ag⟩) 2 2] (W.alloc (.cells #[.int .i64 m0,.int .i64 m1] 3)) λe w'=>e= .returned (.bool ([m0,m1].all fH))/\BD W.heap.size W w':=by
 refine(sS [m0,m1] _ 2 (W.alloc (.cells #[.int .i64 m0,.int .i64 m1] 3)) (iZ qz (λi hi=>by
  have uz:i=0\/i=1:=by simp at hi;omega
  rw[E9];rcases uz with rfl | rfl<;>exact(ah.new W _ _).cell _)) qz).mono ?_
 rintro e w' ⟨rfl,hb⟩;exact⟨rfl,(bN).trans (hb.mono qz)⟩
theorem tS(m0 m1 m2:Int)(W:Al):ET pG 209 #[.slice (Ai ⟨W.heap.size,0,Ag⟩) 3 3] (W.alloc (.cells #[.int .i64 m0,.int .i64 m1,.int .i64 m2] 3)) λe w'=>e= .returned (.bool ([m0,m1,m2].all fH))/\BD W.heap.size W w':=by
 refine(sS [m0,m1,m2] _ 3 (W.alloc (.cells #[.int .i64 m0,.int .i64 m1,.int .i64 m2] 3)) (iZ qz (λi hi=>by
  have uz:i=0\/i=1\/i=2:=by simp at hi;omega
  rw[E9];rcases uz with rfl | rfl | rfl<;>exact(ah.new W _ _).cell _)) qz).mono ?_
 rintro e w' ⟨rfl,hb⟩;exact⟨rfl,(bN).trans (hb.mono qz)⟩
theorem DS(m0 m1:ByteArray)(W:Al)(hL:ct W):ET pG 217 #[.slice (Ai ⟨W.heap.size,0,Ag⟩) 2 2] (W.alloc (.cells #[.string m0,.string m1] 9)) λe w'=>e= .returned (.bool ([m0,m1].all dh))/\BD W.heap.size W w':=by
 refine(Kk [m0,m1] _ 2 (W.alloc (.cells #[.string m0,.string m1] 9)) (hL.below (bN)) (Iz qz (λi hi=>by
  have uz:i=0\/i=1:=by simp at hi;omega
  rw[E9];rcases uz with rfl | rfl<;>exact(ah.new W _ _).cell _)) qz).mono ?_
 rintro e w' ⟨rfl,hb⟩;exact⟨rfl,(bN).trans (hb.mono qz)⟩
theorem PZ(m0 m1 m2:ByteArray)(W:Al)(hL:ct W):ET pG 217 #[.slice (Ai ⟨W.heap.size,0,Ag⟩) 3 3] (W.alloc (.cells #[.string m0,.string m1,.string m2] 9)) λe w'=>e= .returned (.bool ([m0,m1,m2].all dh))/\BD W.heap.size W w':=by
 refine(Kk [m0,m1,m2] _ 3 (W.alloc (.cells #[.string m0,.string m1,.string m2] 9)) (hL.below (bN)) (Iz qz (λi hi=>by
  have uz:i=0\/i=1\/i=2:=by simp at hi;omega
  rw[E9];rcases uz with rfl | rfl | rfl<;>exact(ah.new W _ _).cell _)) qz).mono ?_
 rintro e w' ⟨rfl,hb⟩;exact⟨rfl,(bN).trans (hb.mono qz)⟩
def DT(x:bw):Bool:=([x.m,x.p,x.o].all dh)
theorem aDQ(x:bw)(w:Al)(hL:ct w):CU 271 #[x.val] w (.bool (DT x)):=by
 obtain⟨y0,dV,aV,Hf,jH,qU,kk⟩:=gJ w 41 #[.string x.m,.string x.p,.string x.o];obtain⟨k0,k1,k2⟩:=bw.kl kk;have HL:=lz hL;have HF:=lz (show DT x=(([x.m,x.p,x.o].all dh))from rfl);clear kk hL;go_enter func271,ntmps271;go_wp2_with fail;rw[<-dV.out];have hc:=lz (PZ x.m x.p x.o y0 (HL.out.below (bt aV jH)));generalize ([x.m,x.p,x.o].all dh)=q0 at hc HF;rw[<-qU.out];refine bZ hc jH λy1 fI=> ?_
 clear hc k0 k1 k2;obtain⟨k0,k1,k2⟩:=bw.kl (Hf.out _ fI.out);exact e1
def AO(x:aM):Bool:=((x.kd==1&&x.dp==0)||(x.kd==2&&x.rf==0))&&(dh x.nm)&&([x.sz,x.dp,x.rf].all fH)
theorem aEf(x:aM)(w:Al)(hL:ct w)(hr:x.rd w w.heap.size):CU 267 #[x.val] w (.bool (AO x)):=by
 obtain⟨y0,dV,aV,Hf,jH,qU,kk⟩:=gJ w 73 #[.string x.nm,.int .u8 x.kd,.bool x.out,.int .i64 x.sz,.int .i64 x.dp,.int .i64 x.rf];obtain⟨k0,k1,k2,k3,k4,k5⟩:=aM.kl kk;have HL:=lz hL;have HF:=lz (show AO x=(((x.kd==1&&x.dp==0)||(x.kd==2&&x.rf==0))&&(dh x.nm)&&([x.sz,x.dp,x.rf].all fH))from rfl);have HR:=lz hr;clear kk hL hr;go_enter func267,ntmps267
 cases h0A:(x.kd==1)with
 | false=>
  rw[h0A]at HF
  cases h0C:(x.kd==2)with
  | false=>
   rw[h0C]at HF;exact e0
  | true=>
   rw[h0C]at HF
   cases h0D:(x.rf==0)with
   | false=>
    rw[h0D]at HF;exact e0
   | true=>
    rw[h0D]at HF;go_wp2_with fail;rw[<-dV.out];have hc:=lz (om x.nm y0 (HL.out.below (bt aV jH)));generalize (dh x.nm)=q1 at hc HF;refine bZ hc jH λy1 fI=> ?_
    clear hc k0 k1 k2 k3 k4 k5;obtain⟨k0,k1,k2,k3,k4,k5⟩:=aM.kl (Hf.out _ fI.out)
    cases q1 with
    | false=>exact e1
    | true=>
     go_wp2_with fail;have hc:=lz (tS x.sz x.dp x.rf y1);generalize ([x.sz,x.dp,x.rf].all fH)=q2 at hc HF;refine bZ hc fI λy2 iF=> ?_
     clear hc k0 k1 k2 k3 k4 k5;obtain⟨k0,k1,k2,k3,k4,k5⟩:=aM.kl (Hf.out _ iF.out);exact e2
 | true=>
  rw[h0A]at HF
  cases h0B:(x.dp==0)with
  | false=>
   rw[h0B]at HF
   cases h0C:(x.kd==2)with
   | false=>
    rw[h0C]at HF;exact e0
   | true=>
    rw[h0C]at HF
    cases h0D:(x.rf==0)with
    | false=>
     rw[h0D]at HF;exact e0
    | true=>
     rw[h0D]at HF;go_wp2_with fail;rw[<-dV.out];have hc:=lz (om x.nm y0 (HL.out.below (bt aV jH)));generalize (dh x.nm)=q1 at hc HF;refine bZ hc jH λy1 fI=> ?_
     clear hc k0 k1 k2 k3 k4 k5;obtain⟨k0,k1,k2,k3,k4,k5⟩:=aM.kl (Hf.out _ fI.out)
     cases q1 with
     | false=>exact e1
     | true=>
      go_wp2_with fail;have hc:=lz (tS x.sz x.dp x.rf y1);generalize ([x.sz,x.dp,x.rf].all fH)=q2 at hc HF;refine bZ hc fI λy2 iF=> ?_
      clear hc k0 k1 k2 k3 k4 k5;obtain⟨k0,k1,k2,k3,k4,k5⟩:=aM.kl (Hf.out _ iF.out);exact e2
  | true=>
   rw[h0B]at HF;go_wp2_with fail;rw[<-dV.out];have hc:=lz (om x.nm y0 (HL.out.below (bt aV jH)));generalize (dh x.nm)=q1 at hc HF;refine bZ hc jH λy1 fI=> ?_
   clear hc k0 k1 k2 k3 k4 k5;obtain⟨k0,k1,k2,k3,k4,k5⟩:=aM.kl (Hf.out _ fI.out)
   cases q1 with
   | false=>exact e1
   | true=>
    go_wp2_with fail;have hc:=lz (tS x.sz x.dp x.rf y1);generalize ([x.sz,x.dp,x.rf].all fH)=q2 at hc HF;refine bZ hc fI λy2 iF=> ?_
    clear hc k0 k1 k2 k3 k4 k5;obtain⟨k0,k1,k2,k3,k4,k5⟩:=aM.kl (Hf.out _ iF.out);exact e2
def TU(x:jI):Bool:=(dh x.unit)&&([x.code].all fH)
theorem aEg(x:jI)(w:Al)(hL:ct w):CU 226 #[x.val] w (.bool (TU x)):=by
 obtain⟨y0,dV,aV,Hf,jH,qU,kk⟩:=gJ w 85 #[.string x.unit,.int .i64 x.code];obtain⟨k0,k1⟩:=jI.kl kk;have HL:=lz hL;have HF:=lz (show TU x=((dh x.unit)&&([x.code].all fH))from rfl);clear kk hL;go_enter func226,ntmps226;go_wp2_with fail;rw[<-dV.out];have hc:=lz (om x.unit y0 (HL.out.below (bt aV jH)));generalize (dh x.unit)=q0 at hc HF;refine bZ hc jH λy1 fI=> ?_
 clear hc k0 k1;obtain⟨k0,k1⟩:=jI.kl (Hf.out _ fI.out)
 cases q0 with
 | false=>exact e1
 | true=>
  go_wp2_with fail;have hc:=lz (IB x.code y1);generalize ([x.code].all fH)=q1 at hc HF;refine bZ hc fI λy2 iF=> ?_
  clear hc k0 k1;obtain⟨k0,k1⟩:=jI.kl (Hf.out _ iF.out);exact e2
def sV(r:bw)(l:List bw):Bool:=DT r&&(decide (0<l.length)&&l.all DT)
theorem Ww(r:bw)(l:List bw)(A:Option EK)(c:Nat)(w:Al)(hL:ct w)(h:jo w w.heap.size A l)(hl:l.length<=9223372036854775807):
 CU 214 #[r.val,.slice A l.length c] w (.bool (sV r l)):=by
 obtain⟨y0,bR⟩:=ez (w.alloc (.cells #[.string r.m,.string r.p,.string r.o] 41));have bW:BD w.heap.size w y0:=by rw[bR];exact bN
 have hr:=aDQ r y0 (hL.below bW);have TV:=λW (hW:BD w.heap.size w W)=>Wv 271 #[] DT (Df func271 kz rfl) l A c W (λW' x hx hW'=>by simpa using aDQ x W' ((hL.below hW).below hW')) (h.below hW) hl
 have HF:=lz (show sV r l=(DT r&&(decide (0<l.length)&&l.all DT))from rfl);obtain⟨q,hq⟩:=ez (DT r);obtain⟨q2,lS⟩:∃q,q=l.all DT:=⟨_,rfl⟩;rw[<-hq]at hr HF;rw[<-lS]at HF;have TV:∀W,BD w.heap.size w W->CU 272 #[.slice A l.length c,.func (.func 271) #[] #[]] W (.bool q2):=by rw[lS];exact TV
 have Hr:=lz hr;have Hal:=lz TV;have aV:=lz bW;have dV:=lz bR;clear hr TV bW bR hL h hq lS;dsimp only[bw.val];go_enter func214,ntmps214;go_wp2_with fail;rw[<-dV.out];refine Hr.out.mono ?_;rintro e y1 ⟨rfl,hb⟩;have cU:=lz (aV.out.trans (hb.mono aV.out.size));clear hb
 cases q with
 | false=>
  go_wp2;go_ret;exact⟨by rw[HF.out];rfl,cU.out⟩
 | true=>
  by_cases hn:0<l.length
  .have hd:decide ((l.length:Int)>0)=true:=dT oz
   rw[dT hn]at HF;go_wp2_with fail;refine(Hal.out y1 cU.out).mono ?_;rintro e y2 ⟨rfl,hb⟩;have eF:=lz (cU.out.trans (hb.mono cU.out.size));clear hb;go_wp2;go_ret;exact⟨by rw[HF.out];rfl,eF.out⟩
  .have hd:decide ((l.length:Int)>0)=false:=dF oz
   rw[dF hn]at HF;have hd3:l.length=0:=by omega
   go_wp2;go_ret;exact⟨by rw[HF.out];rfl,cU.out⟩
def sW(s:ByteArray):Bool:=decide (s=⟨#[]⟩)||dh s
theorem RY(s:ByteArray)(w:Al)(hL:ct w):CU 220 #[.string s] w (.bool (sW s)):=by
 have HF:=lz (show sW s=(decide (s=⟨#[]⟩)||dh s)from rfl);have Hw:=lz (om s w hL);clear hL;by_cases hs:s=⟨#[]⟩
 .subst hs
  rw[dT rfl]at HF;go_enter func220,ntmps220;go_wp2;go_ret;exact⟨by rw[HF.out];rfl,BK _ _⟩
 .have he:=zF hs
  rw[dF hs]at HF;clear hs;go_enter func220,ntmps220;go_wp2_with fail;refine Hw.out.mono ?_;rintro e y1 ⟨rfl,hb⟩;go_wp2;go_ret;exact⟨by rw[HF.out];rfl,hb⟩
def vD(x:fC):Bool:=((x.c.unit :: x.c.excl).all dh)&&(decide (0<x.c.needs.length)&&x.c.needs.all TU)
theorem aA8(x:fC)(w:Al)(hL:ct w)(hx:x.rd w w.heap.size)(hxm:x.x.n<=8796093021952):
 CU 130 #[x.val] w (.bool (vD x)):=by
 obtain⟨w1,cN⟩:=ez (w.alloc (.cells #[.string x.c.unit,.slice x.n.a x.n.n x.n.c,.slice x.x.a x.x.n x.x.c] 83));have bY:BD w.heap.size w w1:=by rw[cN];exact bN
 have gP:ah w1 w.heap.size 83 #[.string x.c.unit,.slice x.n.a x.n.n x.n.c,.slice x.x.a x.x.n x.x.c]:=by rw[cN];exact ah.new w _ _
 have Dg:=hx.below bY;obtain⟨i0,lX,hz0,hz1,hz2⟩:=info_parts aDM;have aEh:w1.heap.size=w.heap.size+1:=by rw[cN];simp
 have fK:Reads (w1.alloc (.cells #[.string x.c.unit] 9)) w1.heap.size 1 x.x.a x.x.n (x.c.excl.map Value.string):=by
  refine⟨by rw[List.length_map,<-Dg.xl];omega,λhn=> ?_⟩;obtain⟨b,o,e,hb,hc⟩:=Dg.x (by rw[<-Dg.xl];exact hn);exact⟨_,e,hb,λj u hu=>(World.cell?_alloc_lt w1 _ _ (by rw[qV];exact hb)).trans (V0 hc j u hu)⟩
 have hown:(w1.alloc (.cells #[.string x.c.unit] 9)).ownsRow (w.heap.size+1) 9 1 (.slice (Ai ⟨w.heap.size+1,0,Ag⟩) 1 1) 1 [.string x.c.unit]:=by
  rw[<-aEh];exact World.ownsRow_lit w1 #[.string x.c.unit] 1 nL (by simp[maxLen]) rfl
 have aIS:=hx.xl;have aJ:=λW (hW:BD w.heap.size w W)=>aA9 226 #[] TU (Df func226 kz rfl) x.c.needs x.n.a x.n.c W (λW' r hr hW'=>by simpa using aEg r W' ((hL.below hW).below hW')) ((hx.below hW).n) (by have h1:=hx.nl;have h2:=hx.nc;have h3:=hx.nm;unfold maxLen at h3;omega)
 have TW:=λl A c W (hW:BD w.heap.size w W)=>Kk l A c W (hL.below hW)
 have hnl:=hx.nl;have HF:=lz (show vD x=(((x.c.unit :: x.c.excl).all dh)&&(decide (0<x.c.needs.length)&&x.c.needs.all TU))from rfl);obtain⟨q,hq⟩:=ez ((x.c.unit :: x.c.excl).all dh);obtain⟨q2,lS⟩:∃q,q=x.c.needs.all TU:=⟨_,rfl⟩;rw[<-hq,<-lS,<-hnl]at HF;have aJ:∀W,BD w.heap.size w W->CU 225 #[.slice x.n.a x.n.n x.n.c,.func (.func 226) #[] #[]] W (.bool q2):=by rw[lS,hnl];exact aJ
 have lH:=lz cN;have cU:=lz bY;have DU:=lz gP;have Hx1:=lz Dg;have kX:=lz fK;have kZ:=lz hown;have Co:=lz aJ;have Hwd:=lz TW;have Hq:=lz hq;have Hz:=lz aEh;have Hxl:=lz aIS;have k2:(w1.alloc (.cells #[.string x.c.unit] 9)).cell? ⟨w.heap.size,2,Ag⟩=Ai (.slice x.x.a x.x.n x.x.c):=(gP.alloc _).cell 2;clear cN bY gP Dg fK hown hx aJ hnl aEh aIS TW hq lS hL;dsimp only[fC.val];go_enter func130,ntmps130;go_wp2_with (at_builtin;rw[<-lH.out];refine wO _ rfl (.tmp 5) (.tmp 7) 81 rfl (w.heap.size+1) 9 i0 (.string ⟨#[]⟩) 1 16 underlying81 lX hz0 hz1 hz2 rfl dz _ _ _ rfl kZ.out w1.heap.size x.x.a x.x.n x.x.c _ rfl kX.out ?c1 ?c2 ?c3 ?c4 ?_)
 case c1=>intro u hu;simp at hu;obtain⟨s,_,rfl⟩:=hu;rfl
 case c2=>unfold maxLen;omega
 case c3=>omega
 case c4=>have:=Hz.out;simp;omega
 intro v5 w5 dQ mE _;have jU:BD w1.heap.size w1 w5:=((BK _ w1).alloc nL (.cells #[.string x.c.unit] 9)).grown mE qz (λg hg=>by have:=(kZ.out.lt g hg).1;have:=Hz.out;omega);obtain⟨A5,c5,rfl,_⟩:=bp dQ;have e5:1+x.x.n=(x.c.unit :: x.c.excl).length:=by rw[Hxl.out];simp;omega
 have aIT:iB w5 w5.heap.size A5 (x.c.unit :: x.c.excl):=by
  rw[e5]at dQ;exact qW (l:=x.c.unit :: x.c.excl) dQ
 have Cp:=cU.out.trans (jU.mono cU.out.size);have hws:=Hwd.out (x.c.unit :: x.c.excl) A5 c5 w5 Cp aIT (by rw[<-e5];omega);rw[<-e5,<-Hq.out]at hws;have Hws:=lz hws;have Hb5:=lz jU;have tT:=lz Cp;clear hws aIT dQ mE jU e5 Cp;go_wp2_with fail;refine Hws.out.mono ?_;rintro e w6 ⟨rfl,rz⟩;have yU:=Hb5.out.trans (rz.mono Hb5.out.size);have aIU:=DU.out.below yU DU.out.lt;have k1:=aIU.cell 1;have DV:=lz (cU.out.trans (yU.mono cU.out.size));clear rz yU aIU
 cases q with
 | false=>
  go_wp2;go_ret;exact⟨by rw[HF.out];rfl,DV.out⟩
 | true=>
  by_cases hn:0<x.n.n
  .have hd:decide ((x.n.n:Int)>0)=true:=dT oz
   rw[dT hn]at HF;have Hal:=lz (Co.out w6 DV.out);go_wp2_with fail;refine Hal.out.mono ?_;rintro e w7 ⟨rfl,Nk⟩;have RZ:=lz (DV.out.trans (Nk.mono DV.out.size));clear Nk;go_wp2;go_ret;exact⟨by rw[HF.out];rfl,RZ.out⟩
  .have hd:decide ((x.n.n:Int)>0)=false:=dF oz
   rw[dF hn]at HF;have hd3:x.n.n=0:=by omega
   go_wp2;go_ret;exact⟨by rw[HF.out];rfl,DV.out⟩
def AP(x:gq):Bool:=(sV x.src x.dst.l)
theorem aEi(x:gq)(w:Al)(hL:ct w)(hr:x.rd w w.heap.size):CU 120 #[x.val] w (.bool (AP x)):=by
 obtain⟨y0,dV,aV,Hf,jH,qU,kk⟩:=gJ w 78 #[.string x.src.m,.string x.src.p,.string x.src.o,.slice x.dst.a x.dst.l.length x.dst.c];obtain⟨k0,k1,k2,k3⟩:=gq.kl kk;have HL:=lz hL;have HF:=lz (show AP x=((sV x.src x.dst.l))from rfl);have HR:=lz hr;clear kk hL hr;go_enter func120,ntmps120;go_wp2_with fail;rw[<-dV.out];have hc:=lz (Ww x.src x.dst.l x.dst.a x.dst.c y0 (HL.out.below (bt aV jH)) ((HR.out.below (bt aV jH)).dst) (nT HR.out.P5 (nT HR.out.P6 dz)));generalize (sV x.src x.dst.l)=q0 at hc HF;refine bZ hc jH λy1 fI=> ?_
 clear hc k0 k1 k2 k3;obtain⟨k0,k1,k2,k3⟩:=gq.kl (Hf.out _ fI.out);exact e1
def AQ(x:iI):Bool:=(dh x.nm)&&(DR x.net)&&([x.dl,x.st].all fH)
theorem aEj(x:iI)(w:Al)(hL:ct w):CU 122 #[x.val] w (.bool (AQ x)):=by
 obtain⟨y0,dV,aV,Hf,jH,qU,kk⟩:=gJ w 87 #[.string x.nm,.int .i64 x.net,.int .i64 x.dl,.int .i64 x.st];obtain⟨k0,k1,k2,k3⟩:=iI.kl kk;have HL:=lz hL;have HF:=lz (show AQ x=((dh x.nm)&&(DR x.net)&&([x.dl,x.st].all fH))from rfl);clear kk hL;go_enter func122,ntmps122;go_wp2_with fail;rw[<-dV.out];have hc:=lz (om x.nm y0 (HL.out.below (bt aV jH)));generalize (dh x.nm)=q0 at hc HF;refine bZ hc jH λy1 fI=> ?_
 clear hc k0 k1 k2 k3;obtain⟨k0,k1,k2,k3⟩:=iI.kl (Hf.out _ fI.out)
 cases q0 with
 | false=>exact e1
 | true=>
  cases TX:DR x.net with
  | false=>
   rw[TX]at HF;have HN:=RX TX;clear TX;exact e1
  | true=>
   rw[TX]at HF;have HN:=Nj TX;clear TX;go_wp2_with fail;have hc:=lz (tR x.dl x.st y1);generalize ([x.dl,x.st].all fH)=q2 at hc HF;refine bZ hc fI λy2 iF=> ?_
   clear hc k0 k1 k2 k3;obtain⟨k0,k1,k2,k3⟩:=iI.kl (Hf.out _ iF.out);exact e2
def xQ(x:aO):Bool:=([x.a,x.b].all dh)&&(DR x.net)&&([x.slow].all fH)
theorem aEk(x:aO)(w:Al)(hL:ct w):CU 124 #[x.val] w (.bool (xQ x)):=by
 obtain⟨y0,dV,aV,Hf,jH,qU,kk⟩:=gJ w 46 #[.string x.a,.string x.b,.int .i64 x.net,.int .i64 x.slow];obtain⟨k0,k1,k2,k3⟩:=aO.kl kk;have HL:=lz hL;have HF:=lz (show xQ x=(([x.a,x.b].all dh)&&(DR x.net)&&([x.slow].all fH))from rfl);clear kk hL;go_enter func124,ntmps124;go_wp2_with fail;rw[<-dV.out];have hc:=lz (DS x.a x.b y0 (HL.out.below (bt aV jH)));generalize ([x.a,x.b].all dh)=q0 at hc HF;rw[<-qU.out];refine bZ hc jH λy1 fI=> ?_
 clear hc k0 k1 k2 k3;obtain⟨k0,k1,k2,k3⟩:=aO.kl (Hf.out _ fI.out)
 cases q0 with
 | false=>exact e1
 | true=>
  cases TX:DR x.net with
  | false=>
   rw[TX]at HF;have HN:=RX TX;clear TX;exact e1
  | true=>
   rw[TX]at HF;have HN:=Nj TX;clear TX;go_wp2_with fail;have hc:=lz (IB x.slow y1);generalize ([x.slow].all fH)=q2 at hc HF;refine bZ hc fI λy2 iF=> ?_
   clear hc k0 k1 k2 k3;obtain⟨k0,k1,k2,k3⟩:=aO.kl (Hf.out _ iF.out);exact e2
def Z9(x:fU):Bool:=(dh x.nm)&&(sV x.src x.dst.l)&&([x.lQ,x.mx].all fH)
theorem aNn(x:fU)(w:Al)(hL:ct w)(hr:x.rd w w.heap.size):CU 126 #[x.val] w (.bool (Z9 x)):=by
 obtain⟨y0,dV,aV,Hf,jH,qU,kk⟩:=gJ w 44 #[.string x.nm,.string x.src.m,.string x.src.p,.string x.src.o,.int .i64 x.lQ,.int .i64 x.mx,.slice x.dst.a x.dst.l.length x.dst.c];obtain⟨k0,k1,k2,k3,k4,k5,k6⟩:=fU.kl kk;have HL:=lz hL;have HF:=lz (show Z9 x=((dh x.nm)&&(sV x.src x.dst.l)&&([x.lQ,x.mx].all fH))from rfl);have HR:=lz hr;clear kk hL hr;go_enter func126,ntmps126;go_wp2_with fail;rw[<-dV.out];have hc:=lz (om x.nm y0 (HL.out.below (bt aV jH)));generalize (dh x.nm)=q0 at hc HF;refine bZ hc jH λy1 fI=> ?_
 clear hc k0 k1 k2 k3 k4 k5 k6;obtain⟨k0,k1,k2,k3,k4,k5,k6⟩:=fU.kl (Hf.out _ fI.out)
 cases q0 with
 | false=>exact e1
 | true=>
  go_wp2_with fail;have hc:=lz (Ww x.src x.dst.l x.dst.a x.dst.c y1 (HL.out.below (bt aV fI)) ((HR.out.below (bt aV fI)).dst) (nT HR.out.P5 (nT HR.out.P6 dz)));generalize (sV x.src x.dst.l)=q1 at hc HF;refine bZ hc fI λy2 iF=> ?_
  clear hc k0 k1 k2 k3 k4 k5 k6;obtain⟨k0,k1,k2,k3,k4,k5,k6⟩:=fU.kl (Hf.out _ iF.out)
  cases q1 with
  | false=>exact e2
  | true=>
   go_wp2_with fail;have hc:=lz (tR x.lQ x.mx y2);generalize ([x.lQ,x.mx].all fH)=q2 at hc HF;refine bZ hc iF λy3 pz=> ?_
   clear hc k0 k1 k2 k3 k4 k5 k6;obtain⟨k0,k1,k2,k3,k4,k5,k6⟩:=fU.kl (Hf.out _ pz.out);exact e3
def pT(x:iK):Bool:=(sW x.m)&&(sW x.p)&&(Kr (nY xw x.yV))&&(Kr (nY xO x.lv))&&(Kr (nY oh x.dd))
theorem Wx(x:iK)(w:Al)(hL:ct w)(hr:x.rd w w.heap.size):CU 128 #[x.val] w (.bool (pT x)):=by
 obtain⟨y0,dV,aV,Hf,jH,qU,kk⟩:=gJ w 89 #[.string x.m,.string x.p,.int .u8 x.yV,.int .u8 x.lv,.int .u8 x.dd];obtain⟨k0,k1,k2,k3,k4⟩:=iK.kl kk;have HL:=lz hL;have HF:=lz (show pT x=((sW x.m)&&(sW x.p)&&(Kr (nY xw x.yV))&&(Kr (nY xO x.lv))&&(Kr (nY oh x.dd)))from rfl);have HR:=lz hr;clear kk hL hr;go_enter func128,ntmps128;go_wp2_with fail;rw[<-dV.out];have hc:=lz (RY x.m y0 (HL.out.below (bt aV jH)));generalize (sW x.m)=q0 at hc HF;refine bZ hc jH λy1 fI=> ?_
 clear hc k0 k1 k2 k3 k4;obtain⟨k0,k1,k2,k3,k4⟩:=iK.kl (Hf.out _ fI.out)
 cases q0 with
 | false=>exact e1
 | true=>
  go_wp2_with fail;have hc:=lz (RY x.p y1 (HL.out.below (bt aV fI)));generalize (sW x.p)=q1 at hc HF;refine bZ hc fI λy2 iF=> ?_
  clear hc k0 k1 k2 k3 k4;obtain⟨k0,k1,k2,k3,k4⟩:=iK.kl (Hf.out _ iF.out)
  cases q1 with
  | false=>exact e2
  | true=>
   go_wp2_with fail;have hc:=lz (aA3 x.yV y2 (HL.out.below (bt aV iF)) HR.out.aEl.1 HR.out.aEl.2);generalize (nY xw x.yV)=q2 at hc HF;refine bZ hc iF λy3 pz=> ?_
   clear hc k0 k1 k2 k3 k4;obtain⟨k0,k1,k2,k3,k4⟩:=iK.kl (Hf.out _ pz.out);by_cases aBC:q2=⟨#[]⟩
   .subst aBC
    rw[show Kr ⟨#[]⟩=false from by rfl]at HF;exact e3
   .have aBD:=zF aBC
    rw[show Kr q2=true from dT aBC]at HF;clear aBC;go_wp2_with fail;have hc:=lz (aA4 x.lv y3 (HL.out.below (bt aV pz)) HR.out.lv0.1 HR.out.lv0.2);generalize (nY xO x.lv)=q3 at hc HF;refine bZ hc pz λy4 Fy=> ?_
    clear hc k0 k1 k2 k3 k4;obtain⟨k0,k1,k2,k3,k4⟩:=iK.kl (Hf.out _ Fy.out);by_cases aBE:q3=⟨#[]⟩
    .subst aBE
     rw[show Kr ⟨#[]⟩=false from by rfl]at HF;exact e4
    .have aUJ:=zF aBE
     rw[show Kr q3=true from dT aBE]at HF;clear aBE;go_wp2_with fail;have hc:=lz (Ws x.dd y4 (HL.out.below (bt aV Fy)) HR.out.dd0.1 HR.out.dd0.2);generalize (nY oh x.dd)=q4 at hc HF;refine bZ hc Fy λy5 Md=> ?_
     clear hc k0 k1 k2 k3 k4;obtain⟨k0,k1,k2,k3,k4⟩:=iK.kl (Hf.out _ Md.out);by_cases aBF:q4=⟨#[]⟩
     .subst aBF
      rw[show Kr ⟨#[]⟩=false from by rfl]at HF;exact e5
     .have aUK:=zF aBF
      rw[show Kr q4=true from dT aBF]at HF;clear aBF;exact e5
def P7(x:lF):Bool:=([x.a,x.b].all dh)&&([x.va,x.vb].all fH)
theorem aIV(x:lF)(w:Al)(hL:ct w):CU 132 #[x.val] w (.bool (P7 x)):=by
 obtain⟨y0,dV,aV,Hf,jH,qU,kk⟩:=gJ w 91 #[.string x.a,.int .i64 x.va,.string x.b,.int .i64 x.vb];obtain⟨k0,k1,k2,k3⟩:=lF.kl kk;have HL:=lz hL;have HF:=lz (show P7 x=(([x.a,x.b].all dh)&&([x.va,x.vb].all fH))from rfl);clear kk hL;go_enter func132,ntmps132;go_wp2_with fail;rw[<-dV.out];have hc:=lz (DS x.a x.b y0 (HL.out.below (bt aV jH)));generalize ([x.a,x.b].all dh)=q0 at hc HF;rw[<-qU.out];refine bZ hc jH λy1 fI=> ?_
 clear hc k0 k1 k2 k3;obtain⟨k0,k1,k2,k3⟩:=lF.kl (Hf.out _ fI.out)
 cases q0 with
 | false=>exact e1
 | true=>
  go_wp2_with fail;have hc:=lz (tR x.va x.vb y1);generalize ([x.va,x.vb].all fH)=q1 at hc HF;refine bZ hc fI λy2 iF=> ?_
  clear hc k0 k1 k2 k3;obtain⟨k0,k1,k2,k3⟩:=lF.kl (Hf.out _ iF.out);exact e2
open Go.Act renaming put → zP
open List renaming setIfInBounds_toArray → zA, set_cons_zero → zB, set_cons_succ → zC
theorem R5{W:Al}{B:Nat}{a b d:Int}(h:ah W B 3 #[.int .i64 a,.int .i64 b,.int .i64 d]):∀j (hj:j< [a,b,d].length),W.cell? ⟨B,j,Ag⟩=Ai (.int .i64 [a,b,d][j]):=by
 intro j hj;have hj3:j=0\/j=1\/j=2:=by simp at hj;omega
 rcases hj3 with rfl | rfl | rfl
 .exact h.cell 0
 .exact h.cell 1
 .exact h.cell 2
def R6(x:gu)(w:Al)(e:Ending)(w':Al):Prop:=
 ∃B,e= .returned (.slice (Ai ⟨B,0,Ag⟩) (mX x.op).size 3)/\BD w.heap.size w w'/\B<w'.heap.size/\w'.cell? ⟨B,0,Ag⟩=Ai (.int .i64 x.a)/\w'.cell? ⟨B,1,Ag⟩=Ai (.int .i64 x.b)/\w'.cell? ⟨B,2,Ag⟩=Ai (.int .i64 x.d)
theorem vH(x:gu)(w:Al)(hL:ct w)(h0:0<=x.op/\x.op<=255):ET pG 278 #[x.val] w (R6 x w):=by
 have hop:=λW (hW:BD w.heap.size w W)=>oq x.op W (hL.below hW) h0.1 h0.2
 have hk:=qE x.op;obtain⟨t,ht⟩:=ez (mX x.op);rw[<-ht]at hk;have hop:∀W,BD w.heap.size w W->CU 167 #[.int .u8 x.op] W (.string t):=by rw[ht];exact hop
 have P8:=lz hop;have Ht:=lz ht;have HL:=lz hL;clear hop ht hL;obtain⟨op,a,b,d⟩:=x;dsimp only[gu.val]at P8 Ht h0 ⊢;have hz0:(0:Int)<=(t.size:Int):=by omega
 have IC:(t.size:Int)<=3:=by omega
 obtain⟨y0,bR⟩:=ez (w.alloc (.cells #[.int .u8 op,.int .i64 a,.int .i64 b,.int .i64 d] 169));have bW:BD w.heap.size w y0:=by rw[bR];exact bN
 have bS:ah y0 w.heap.size 169 #[.int .u8 op,.int .i64 a,.int .i64 b,.int .i64 d]:=by rw[bR];exact ah.new w _ _
 have held:∀W,BD y0.heap.size y0 W->(λW=>W.cell? ⟨w.heap.size,0,Ag⟩=Ai (.int .u8 op)/\W.cell? ⟨w.heap.size,1,Ag⟩=Ai (.int .i64 a)/\W.cell? ⟨w.heap.size,2,Ag⟩=Ai (.int .i64 b)/\W.cell? ⟨w.heap.size,3,Ag⟩=Ai (.int .i64 d)) W:=λW hW=>
  have h:=bS.below hW bS.lt
  ⟨h.cell 0,h.cell 1,h.cell 2,h.cell 3⟩
 have uh:=lz held;have sA:=lz bS;have aV:=lz bW;have dV:=lz bR;have qU:=lz (show y0.heap.size=w.heap.size+1 by rw[bR];simp);clear held bS bW bR;go_enter func278,ntmps278;go_wp2_with fail;have hHeld:(λW=>W.cell? ⟨w.heap.size,0,Ag⟩=Ai (.int .u8 op)/\W.cell? ⟨w.heap.size,1,Ag⟩=Ai (.int .i64 a)/\W.cell? ⟨w.heap.size,2,Ag⟩=Ai (.int .i64 b)/\W.cell? ⟨w.heap.size,3,Ag⟩=Ai (.int .i64 d)) (w.alloc (.cells #[.int .u8 op,.int .i64 a,.int .i64 b,.int .i64 d] 169)).drew:=by rw[<-dV.out];exact uh.out _ (BK _ y0).drew
 refine aT (λW=>W.cell? ⟨w.heap.size,0,Ag⟩=Ai (.int .u8 op)/\W.cell? ⟨w.heap.size,1,Ag⟩=Ai (.int .i64 a)/\W.cell? ⟨w.heap.size,2,Ag⟩=Ai (.int .i64 b)/\W.cell? ⟨w.heap.size,3,Ag⟩=Ai (.int .i64 d)) 11 kz hHeld (λhHeld=> ?_);refine TS 0 rfl hHeld ?_
 simp only[zP,zA,zB,zC];refine TS 1 rfl hHeld ?_
 simp only[zP,zA,zB,zC];refine TS 2 rfl hHeld ?_
 simp only[zP,zA,zB,zC];refine TS 3 rfl hHeld ?_
 simp only[zP,zA,zB,zC];refine TS 4 rfl hHeld ?_
 simp only[zP,zA,zB,zC];refine TS 5 rfl hHeld ?_
 simp only[zP,zA,zB,zC];refine TS 7 rfl hHeld ?_
 simp only[zP,zA,zB,zC];refine TS 8 rfl hHeld ?_
 simp only[zP,zA,zB,zC];refine jB (rs:= [6,9]) kz qz ?_;refine dx.cons rfl (λK hK=> ?_) (dx.cons rfl (λK hK=> ?_) dx.nil)
 .go_simp
  rw[<-dV.out];have aU:BD y0.heap.size y0 (y0.drew.alloc (.cells #[.int .i64 a,.int .i64 b,.int .i64 d] 3)):=(BK _ y0).drew.alloc nL _;have iO:ah (y0.drew.alloc (.cells #[.int .i64 a,.int .i64 b,.int .i64 d] 3)) y0.heap.size 3 #[.int .i64 a,.int .i64 b,.int .i64 d]:=ah.new y0.drew _ _;have gh:=lz aU;have rA:=lz iO;refine hK.out _ _ (λ_=>uh.out _ gh.out) ?_;clear hK aU iO hHeld;refine RQ 9 rfl λK hK=> ?_;go_simp;refine(P8.out _ (aV.out.trans (gh.out.mono aV.out.size))).mono ?_;rintro e w2 ⟨rfl,dI⟩;have CM:=lz (gh.out.trans (dI.mono gh.out.size));have jM:=lz (rA.out.below dI rA.out.lt);have hHeld:=uh.out _ CM.out;refine hK.out _ _ (λ_=>hHeld) ?_;clear hK dI gh rA;refine TS 10 rfl hHeld ?_
  simp only[zP,zA,zB,zC];refine RQ 11 rfl λK hK=> ?_;go_simp;refine hK.out _ _ (λh=>absurd h dz) ?_;clear hK hHeld;refine RQ 12 rfl λK hK=> ?_;go_simp;refine hK.out _ _ (λh=>absurd h dz) ?_;clear hK;refine aL kz ?_ _;have hz:y0.heap.size<w2.heap.size:=jM.out.lt;obtain⟨B,hB⟩:=ez y0.heap.size;have HZ:=qU.out;rw[<-hB]at jM hz HZ;rw[<-HZ];have eF:=lz (aV.out.trans (CM.out.mono aV.out.size));have DU:=lz (sA.out.below CM.out sA.out.lt);clear CM hB P8 uh aV dV HZ;have c0:=jM.out.cell 0;have c1:=jM.out.cell 1;have c2:=jM.out.cell 2;clear jM;go_wp2;go_ret;exact⟨B,by rw[<-Ht.out];rfl,eF.out,hz,c0,c1,c2⟩
 .go_simp
  rw[<-dV.out];refine(P8.out _ aV.out.drew).mono ?_;rintro e w2 ⟨rfl,dI⟩;have CM:=lz ((BK y0.heap.size y0).drew.trans (dI.mono nL));have hHeld:=uh.out _ CM.out;refine hK.out _ _ (λ_=>hHeld) ?_;clear hK dI;refine TS 10 rfl hHeld ?_
  simp only[zP,zA,zB,zC];refine RQ 6 rfl λK hK=> ?_;go_simp;have jM:=lz (ah.new w2 3 #[.int .i64 a,.int .i64 b,.int .i64 d]);have Vs:=lz (CM.out.alloc CM.out.size (.cells #[.int .i64 a,.int .i64 b,.int .i64 d] 3));have IC:(w2.alloc (.cells #[.int .i64 a,.int .i64 b,.int .i64 d] 3)).heap.size=w2.heap.size+1:=by simp
  have hHeld:=uh.out _ Vs.out;refine hK.out _ _ (λ_=>hHeld) ?_;clear hK;refine RQ 11 rfl λK hK=> ?_;go_simp;refine hK.out _ _ (λh=>absurd h dz) ?_;clear hK hHeld;refine RQ 12 rfl λK hK=> ?_;go_simp;refine hK.out _ _ (λh=>absurd h dz) ?_;clear hK;refine aL kz ?_ _;have eF:=lz (aV.out.trans (Vs.out.mono aV.out.size));have DU:=lz (sA.out.below Vs.out sA.out.lt);obtain⟨B,hB⟩:=ez w2.heap.size;obtain⟨w3,hw3⟩:=ez (w2.alloc (.cells #[.int .i64 a,.int .i64 b,.int .i64 d] 3));rw[<-hw3,<-hB]at jM;rw[<-hw3]at eF IC DU;rw[<-hw3,<-hB];rw[<-hB]at IC;have hz:B<w3.heap.size:=by omega
  clear CM Vs P8 uh aV dV hw3 hB IC;have c0:=jM.out.cell 0;have c1:=jM.out.cell 1;have c2:=jM.out.cell 2;clear jM;go_wp2;go_ret;exact⟨B,by rw[<-Ht.out];rfl,eF.out,hz,c0,c1,c2⟩
def rB(x:gu):Bool:=Kr (xP x.op)&&(([x.a,x.b,x.d].take (mX x.op).size).all fH&&([x.a,x.b,x.d].drop (mX x.op).size).all (λn=>decide (n=0)))
theorem aDS(x:gu)(w:Al)(hL:ct w)(h0:0<=x.op/\x.op<=255):CU 236 #[x.val] w (.bool (rB x)):=by
 have hop:=λW (hW:BD w.heap.size w W)=>oq x.op W (hL.below hW) h0.1 h0.2
 have hk:=qE x.op;obtain⟨t,ht⟩:=ez (mX x.op);rw[<-ht]at hk;have hop:∀W,BD w.heap.size w W->CU 167 #[.int .u8 x.op] W (.string t):=by rw[ht];exact hop
 have P8:=lz hop;have Ht:=lz ht;have HL:=lz hL;clear hop ht hL;obtain⟨op,a,b,d⟩:=x;dsimp only[gu.val]at P8 Ht h0 ⊢;have hz0:(0:Int)<=(t.size:Int):=by omega
 have IC:(t.size:Int)<=3:=by omega
 obtain⟨y0,bR⟩:=ez (w.alloc (.cells #[.int .u8 op,.int .i64 a,.int .i64 b,.int .i64 d] 169));have bW:BD w.heap.size w y0:=by rw[bR];exact bN
 have bS:ah y0 w.heap.size 169 #[.int .u8 op,.int .i64 a,.int .i64 b,.int .i64 d]:=by rw[bR];exact ah.new w _ _
 have held:∀W,BD y0.heap.size y0 W->(λW=>W.cell? ⟨w.heap.size,0,Ag⟩=Ai (.int .u8 op)/\W.cell? ⟨w.heap.size,1,Ag⟩=Ai (.int .i64 a)/\W.cell? ⟨w.heap.size,2,Ag⟩=Ai (.int .i64 b)/\W.cell? ⟨w.heap.size,3,Ag⟩=Ai (.int .i64 d)) W:=λW hW=>
  have h:=bS.below hW bS.lt
  ⟨h.cell 0,h.cell 1,h.cell 2,h.cell 3⟩
 have uh:=lz held;have sA:=lz bS;have aV:=lz bW;have dV:=lz bR;have qU:=lz (show y0.heap.size=w.heap.size+1 by rw[bR];simp);clear held bS bW bR;go_enter func236,ntmps236;go_wp2_with fail;have hHeld:(λW=>W.cell? ⟨w.heap.size,0,Ag⟩=Ai (.int .u8 op)/\W.cell? ⟨w.heap.size,1,Ag⟩=Ai (.int .i64 a)/\W.cell? ⟨w.heap.size,2,Ag⟩=Ai (.int .i64 b)/\W.cell? ⟨w.heap.size,3,Ag⟩=Ai (.int .i64 d)) (w.alloc (.cells #[.int .u8 op,.int .i64 a,.int .i64 b,.int .i64 d] 169)).drew:=by rw[<-dV.out];exact uh.out _ (BK _ y0).drew
 refine aT (λW=>W.cell? ⟨w.heap.size,0,Ag⟩=Ai (.int .u8 op)/\W.cell? ⟨w.heap.size,1,Ag⟩=Ai (.int .i64 a)/\W.cell? ⟨w.heap.size,2,Ag⟩=Ai (.int .i64 b)/\W.cell? ⟨w.heap.size,3,Ag⟩=Ai (.int .i64 d)) 11 kz hHeld (λhHeld=> ?_);refine TS 0 rfl hHeld ?_
 simp only[zP,zA,zB,zC];refine TS 1 rfl hHeld ?_
 simp only[zP,zA,zB,zC];refine TS 2 rfl hHeld ?_
 simp only[zP,zA,zB,zC];refine TS 3 rfl hHeld ?_
 simp only[zP,zA,zB,zC];refine TS 4 rfl hHeld ?_
 simp only[zP,zA,zB,zC];refine TS 5 rfl hHeld ?_
 simp only[zP,zA,zB,zC];refine TS 7 rfl hHeld ?_
 simp only[zP,zA,zB,zC];refine TS 8 rfl hHeld ?_
 simp only[zP,zA,zB,zC];refine jB (rs:= [6,9]) kz qz ?_;refine dx.cons rfl (λK hK=> ?_) (dx.cons rfl (λK hK=> ?_) dx.nil)
 .go_simp
  rw[<-dV.out];have aU:BD y0.heap.size y0 (y0.drew.alloc (.cells #[.int .i64 a,.int .i64 b,.int .i64 d] 3)):=(BK _ y0).drew.alloc nL _;have iO:ah (y0.drew.alloc (.cells #[.int .i64 a,.int .i64 b,.int .i64 d] 3)) y0.heap.size 3 #[.int .i64 a,.int .i64 b,.int .i64 d]:=ah.new y0.drew _ _;have gh:=lz aU;have rA:=lz iO;refine hK.out _ _ (λ_=>uh.out _ gh.out) ?_;clear hK aU iO hHeld;refine RQ 9 rfl λK hK=> ?_;go_simp;refine(P8.out _ (aV.out.trans (gh.out.mono aV.out.size))).mono ?_;rintro e w2 ⟨rfl,dI⟩;have CM:=lz (gh.out.trans (dI.mono gh.out.size));have jM:=lz (rA.out.below dI rA.out.lt);have hHeld:=uh.out _ CM.out;refine hK.out _ _ (λ_=>hHeld) ?_;clear hK dI gh rA;refine TS 10 rfl hHeld ?_
  simp only[zP,zA,zB,zC];refine RQ 11 rfl λK hK=> ?_;go_simp;refine hK.out _ _ (λh=>absurd h dz) ?_;clear hK hHeld;refine RQ 12 rfl λK hK=> ?_;go_simp;refine hK.out _ _ (λh=>absurd h dz) ?_;clear hK;refine aL kz ?_ _;have hz:y0.heap.size<w2.heap.size:=jM.out.lt;obtain⟨B,hB⟩:=ez y0.heap.size;have HZ:=qU.out;rw[<-hB]at jM hz HZ;rw[<-HZ];have eF:=lz (aV.out.trans (CM.out.mono aV.out.size));have DU:=lz (sA.out.below CM.out sA.out.lt);clear CM hB P8 uh aV dV HZ;obtain⟨A,hA⟩:=ez ((if 3=t.size then Ai (⟨B,0,Ag⟩:EK)else Ai ⟨B,t.size,Ag⟩));rw[<-hA];have hlen:([a,b,d].drop t.size).length=3-t.size:=by simp
  have Nl:([a,b,d].take t.size).length=t.size:=by simp;omega
  have Nn:∀W,BD w2.heap.size w2 W->fV W W.heap.size A ([a,b,d].drop t.size):=λW hW hn=>by
   have zn:t.size<3:=by omega
   rw[hA,if_neg oz];refine⟨B,t.size,rfl,EU hz hW.size,λi hi=> ?_⟩;rw[List.getElem_drop];have hb:=jM.out.below hW hz;exact R5 hb _ _
  have xR:=λW (hW:BD w2.heap.size w2 W)=>Na 280 #[] (λn=>decide (n=0)) (Df func280 kz rfl) ([a,b,d].drop t.size) A (3-t.size) W (λW' r hr hW'=>RW r W') (Nn W hW) oz
  have sZ:=fun(B2:Nat) W (h0:W.cell? ⟨B2,0,Ag⟩=Ai (.int .i64 a)) (h1:W.cell? ⟨B2,1,Ag⟩=Ai (.int .i64 b)) (h2:W.cell? ⟨B2,2,Ag⟩=Ai (.int .i64 d)) (pq:B2<W.heap.size)=>sS ([a,b,d].take t.size) (Ai ⟨B2,0,Ag⟩) 3 W (iZ pq λi hi=>by
   rw[List.getElem_take,E9];have hj:i<3:=by omega
   have hj3:i=0\/i=1\/i=2:=by omega
   rcases hj3 with rfl | rfl | rfl
   .exact h0
   .exact h1
   .exact h2) oz
  have Wy:=λW (hW:BD w.heap.size w W)=>vH ⟨op,a,b,d⟩ W (HL.out.below hW) h0
  have TW:=vC op w2 (HL.out.below eF.out) h0.1 h0.2;have HF:=lz (show rB ⟨op,a,b,d⟩=(Kr (xP op)&&(([a,b,d].take t.size).all fH&&([a,b,d].drop t.size).all (λn=>decide (n=0))))by rw[Ht.out];rfl);obtain⟨v1,Me⟩:∃v,v=xP op:=⟨_,rfl⟩;obtain⟨q2,lS⟩:∃q,q=([a,b,d].take t.size).all fH:=⟨_,rfl⟩;obtain⟨q3,Pc⟩:∃q,q=([a,b,d].drop t.size).all (λn=>decide (n=0)):=⟨_,rfl⟩;rw[<-Me]at TW HF;rw[<-lS]at sZ HF;rw[<-Pc]at xR HF;rw[hlen]at xR;rw[Nl]at sZ;have Np:=lz xR;have Gb:=lz sZ;have Wz:=lz Wy;have Hwd:=lz TW;have c0:=DU.out.cell 0;clear xR sZ Wy TW Me lS Pc hA hlen Nl Nn jM;go_wp2_with fail;refine Hwd.out.mono ?_;rintro e w4 ⟨rfl,mF⟩;have DW:=DU.out.below mF DU.out.lt;have H4:=lz mF;have pN:=lz (eF.out.trans (mF.mono eF.out.size));have c0:=DW.cell 0;have c1:=DW.cell 1;have c2:=DW.cell 2;have c3:=DW.cell 3;clear mF DW Hwd;by_cases hne:v1=⟨#[]⟩
  .subst hne
   rw[show Kr ⟨#[]⟩=false from by rfl]at HF;go_wp2;go_ret;exact⟨by rw[HF.out];rfl,pN.out⟩
  .have uH:=zF hne
   rw[show Kr v1=true from dT hne]at HF;clear hne;have WA:=lz (Wz.out w4 pN.out);clear Wz;go_wp2_with fail;refine WA.out.mono ?_;rintro e w5 ⟨B2,rfl,jU,Cp,d0,d1,d2⟩;dsimp only at d0 d1 d2;rw[<-Ht.out];have Hn5:=lz (Gb.out B2 w5 d0 d1 d2 Cp);have H5:=lz (H4.out.trans (jU.mono H4.out.size));have tT:=lz (pN.out.trans (jU.mono pN.out.size));clear jU d0 d1 d2 Gb WA H4;go_wp2_with fail;refine Hn5.out.mono ?_;rintro e w6 ⟨rfl,rz⟩;have DV:=lz (tT.out.trans (rz.mono tT.out.size));have Hf6:=lz (Np.out w6 (H5.out.trans (rz.mono H5.out.size)));clear rz Hn5 H5 Np
   cases q2 with
   | false=>
    go_wp2;go_ret;exact⟨by rw[HF.out];rfl,DV.out⟩
   | true=>
    go_wp2_with fail;refine Hf6.out.mono ?_;rintro e w7 ⟨rfl,Nk⟩;have RZ:=lz (DV.out.trans (Nk.mono DV.out.size));clear Nk;go_wp2;go_ret;exact⟨by rw[HF.out];rfl,RZ.out⟩
 .go_simp
  rw[<-dV.out];refine(P8.out _ aV.out.drew).mono ?_;rintro e w2 ⟨rfl,dI⟩;have CM:=lz ((BK y0.heap.size y0).drew.trans (dI.mono nL));have hHeld:=uh.out _ CM.out;refine hK.out _ _ (λ_=>hHeld) ?_;clear hK dI;refine TS 10 rfl hHeld ?_
  simp only[zP,zA,zB,zC];refine RQ 6 rfl λK hK=> ?_;go_simp;have jM:=lz (ah.new w2 3 #[.int .i64 a,.int .i64 b,.int .i64 d]);have Vs:=lz (CM.out.alloc CM.out.size (.cells #[.int .i64 a,.int .i64 b,.int .i64 d] 3));have IC:(w2.alloc (.cells #[.int .i64 a,.int .i64 b,.int .i64 d] 3)).heap.size=w2.heap.size+1:=by simp
  have hHeld:=uh.out _ Vs.out;refine hK.out _ _ (λ_=>hHeld) ?_;clear hK;refine RQ 11 rfl λK hK=> ?_;go_simp;refine hK.out _ _ (λh=>absurd h dz) ?_;clear hK hHeld;refine RQ 12 rfl λK hK=> ?_;go_simp;refine hK.out _ _ (λh=>absurd h dz) ?_;clear hK;refine aL kz ?_ _;have eF:=lz (aV.out.trans (Vs.out.mono aV.out.size));have DU:=lz (sA.out.below Vs.out sA.out.lt);obtain⟨B,hB⟩:=ez w2.heap.size;obtain⟨w3,hw3⟩:=ez (w2.alloc (.cells #[.int .i64 a,.int .i64 b,.int .i64 d] 3));rw[<-hw3,<-hB]at jM;rw[<-hw3]at eF IC DU;rw[<-hw3,<-hB];rw[<-hB]at IC;have hz:B<w3.heap.size:=by omega
  clear CM Vs P8 uh aV dV hw3 hB IC;obtain⟨A,hA⟩:=ez ((if 3=t.size then Ai (⟨B,0,Ag⟩:EK)else Ai ⟨B,t.size,Ag⟩));rw[<-hA];have hlen:([a,b,d].drop t.size).length=3-t.size:=by simp
  have Nl:([a,b,d].take t.size).length=t.size:=by simp;omega
  have Nn:∀W,BD w3.heap.size w3 W->fV W W.heap.size A ([a,b,d].drop t.size):=λW hW hn=>by
   have zn:t.size<3:=by omega
   rw[hA,if_neg oz];refine⟨B,t.size,rfl,EU hz hW.size,λi hi=> ?_⟩;rw[List.getElem_drop];have hb:=jM.out.below hW hz;exact R5 hb _ _
  have xR:=λW (hW:BD w3.heap.size w3 W)=>Na 280 #[] (λn=>decide (n=0)) (Df func280 kz rfl) ([a,b,d].drop t.size) A (3-t.size) W (λW' r hr hW'=>RW r W') (Nn W hW) oz
  have sZ:=fun(B2:Nat) W (h0:W.cell? ⟨B2,0,Ag⟩=Ai (.int .i64 a)) (h1:W.cell? ⟨B2,1,Ag⟩=Ai (.int .i64 b)) (h2:W.cell? ⟨B2,2,Ag⟩=Ai (.int .i64 d)) (pq:B2<W.heap.size)=>sS ([a,b,d].take t.size) (Ai ⟨B2,0,Ag⟩) 3 W (iZ pq λi hi=>by
   rw[List.getElem_take,E9];have hj:i<3:=by omega
   have hj3:i=0\/i=1\/i=2:=by omega
   rcases hj3 with rfl | rfl | rfl
   .exact h0
   .exact h1
   .exact h2) oz
  have Wy:=λW (hW:BD w.heap.size w W)=>vH ⟨op,a,b,d⟩ W (HL.out.below hW) h0
  have TW:=vC op w3 (HL.out.below eF.out) h0.1 h0.2;have HF:=lz (show rB ⟨op,a,b,d⟩=(Kr (xP op)&&(([a,b,d].take t.size).all fH&&([a,b,d].drop t.size).all (λn=>decide (n=0))))by rw[Ht.out];rfl);obtain⟨v1,Me⟩:∃v,v=xP op:=⟨_,rfl⟩;obtain⟨q2,lS⟩:∃q,q=([a,b,d].take t.size).all fH:=⟨_,rfl⟩;obtain⟨q3,Pc⟩:∃q,q=([a,b,d].drop t.size).all (λn=>decide (n=0)):=⟨_,rfl⟩;rw[<-Me]at TW HF;rw[<-lS]at sZ HF;rw[<-Pc]at xR HF;rw[hlen]at xR;rw[Nl]at sZ;have Np:=lz xR;have Gb:=lz sZ;have Wz:=lz Wy;have Hwd:=lz TW;have c0:=DU.out.cell 0;clear xR sZ Wy TW Me lS Pc hA hlen Nl Nn jM;go_wp2_with fail;refine Hwd.out.mono ?_;rintro e w4 ⟨rfl,mF⟩;have DW:=DU.out.below mF DU.out.lt;have H4:=lz mF;have pN:=lz (eF.out.trans (mF.mono eF.out.size));have c0:=DW.cell 0;have c1:=DW.cell 1;have c2:=DW.cell 2;have c3:=DW.cell 3;clear mF DW Hwd;by_cases hne:v1=⟨#[]⟩
  .subst hne
   rw[show Kr ⟨#[]⟩=false from by rfl]at HF;go_wp2;go_ret;exact⟨by rw[HF.out];rfl,pN.out⟩
  .have uH:=zF hne
   rw[show Kr v1=true from dT hne]at HF;clear hne;have WA:=lz (Wz.out w4 pN.out);clear Wz;go_wp2_with fail;refine WA.out.mono ?_;rintro e w5 ⟨B2,rfl,jU,Cp,d0,d1,d2⟩;dsimp only at d0 d1 d2;rw[<-Ht.out];have Hn5:=lz (Gb.out B2 w5 d0 d1 d2 Cp);have H5:=lz (H4.out.trans (jU.mono H4.out.size));have tT:=lz (pN.out.trans (jU.mono pN.out.size));clear jU d0 d1 d2 Gb WA H4;go_wp2_with fail;refine Hn5.out.mono ?_;rintro e w6 ⟨rfl,rz⟩;have DV:=lz (tT.out.trans (rz.mono tT.out.size));have Hf6:=lz (Np.out w6 (H5.out.trans (rz.mono H5.out.size)));clear rz Hn5 H5 Np
   cases q2 with
   | false=>
    go_wp2;go_ret;exact⟨by rw[HF.out];rfl,DV.out⟩
   | true=>
    go_wp2_with fail;refine Hf6.out.mono ?_;rintro e w7 ⟨rfl,Nk⟩;have RZ:=lz (DV.out.trans (Nk.mono DV.out.size));clear Nk;go_wp2;go_ret;exact⟨by rw[HF.out];rfl,RZ.out⟩
theorem TY(m0 m1 m2 m3 m4:Int)(W:Al):ET pG 209 #[.slice (Ai ⟨W.heap.size,0,Ag⟩) 5 5] (W.alloc (.cells #[.int .i64 m0,.int .i64 m1,.int .i64 m2,.int .i64 m3,.int .i64 m4] 3)) λe w'=>e= .returned (.bool ([m0,m1,m2,m3,m4].all fH))/\BD W.heap.size W w':=by
 refine(sS [m0,m1,m2,m3,m4] _ 5 (W.alloc (.cells #[.int .i64 m0,.int .i64 m1,.int .i64 m2,.int .i64 m3,.int .i64 m4] 3)) (iZ qz (λi hi=>by
  have uz:i=0\/i=1\/i=2\/i=3\/i=4:=by simp at hi;omega
  rw[E9];rcases uz with rfl | rfl | rfl | rfl | rfl<;>exact(ah.new W _ _).cell _)) qz).mono ?_
 rintro e w' ⟨rfl,hb⟩;exact⟨rfl,(bN).trans (hb.mono qz)⟩
def xS(x:cT):Bool:=(dh x.nm)&&([x.pr,x.pe,x.li].all fH)&&(x.code.l.all rB)
theorem aEm(x:cT)(w:Al)(hL:ct w)(hr:x.rd w w.heap.size):CU 269 #[x.val] w (.bool (xS x)):=by
 obtain⟨y0,dV,aV,Hf,jH,qU,kk⟩:=gJ w 76 #[.string x.nm,.int .i64 x.pr,.int .i64 x.pe,.int .i64 x.li,.slice x.code.a x.code.l.length x.code.c];obtain⟨k0,k1,k2,k3,k4⟩:=cT.kl kk;have HL:=lz hL;have HF:=lz (show xS x=((dh x.nm)&&([x.pr,x.pe,x.li].all fH)&&(x.code.l.all rB))from rfl);have HR:=lz hr;clear kk hL hr;go_enter func269,ntmps269;go_wp2_with fail;rw[<-dV.out];have hc:=lz (om x.nm y0 (HL.out.below (bt aV jH)));generalize (dh x.nm)=q0 at hc HF;refine bZ hc jH λy1 fI=> ?_
 clear hc k0 k1 k2 k3 k4;obtain⟨k0,k1,k2,k3,k4⟩:=cT.kl (Hf.out _ fI.out)
 cases q0 with
 | false=>exact e1
 | true=>
  go_wp2_with fail;have hc:=lz (tS x.pr x.pe x.li y1);generalize ([x.pr,x.pe,x.li].all fH)=q1 at hc HF;refine bZ hc fI λy2 iF=> ?_
  clear hc k0 k1 k2 k3 k4;obtain⟨k0,k1,k2,k3,k4⟩:=cT.kl (Hf.out _ iF.out)
  cases q1 with
  | false=>exact e2
  | true=>
   go_wp2_with fail;have hc:=lz (Ni 236 #[] rB (Df func236 kz rfl) x.code.l x.code.a x.code.c y2 (λW r hx hW fK=>by simpa using aDS r W ((HL.out.below (bt aV iF)).below hW) fK.op0) ((HR.out.below (bt aV iF)).code) (nT HR.out.WB (nT HR.out.WC dz)));generalize (x.code.l.all rB)=q2 at hc HF;refine bZ hc iF λy3 pz=> ?_
   clear hc k0 k1 k2 k3 k4;obtain⟨k0,k1,k2,k3,k4⟩:=cT.kl (Hf.out _ pz.out);exact e3
def xT(x:aC):Bool:=(dh x.nm)&&([x.pe,x.le,x.mem,x.ev,x.bo].all fH)&&(x.aG.l.all fH)&&(x.aX.l.all fH)&&(x.aq.l.all AO)&&(x.procs.l.all xS)
theorem aEn(x:aC)(w:Al)(hL:ct w)(hr:x.rd w w.heap.size):CU 211 #[x.val] w (.bool (xT x)):=by
 obtain⟨y0,dV,aV,Hf,jH,qU,kk⟩:=gJ w 71 #[.string x.nm,.int .i64 x.pe,.int .i64 x.le,.int .i64 x.mem,.slice x.aG.a x.aG.l.length x.aG.c,.int .i64 x.ev,.int .i64 x.bo,.slice x.aX.a x.aX.l.length x.aX.c,.slice x.aq.a x.aq.l.length x.aq.c,.slice x.procs.a x.procs.l.length x.procs.c];obtain⟨k0,k1,k2,k3,k4,k5,k6,k7,k8,k9⟩:=aC.kl kk;have HL:=lz hL;have HF:=lz (show xT x=((dh x.nm)&&([x.pe,x.le,x.mem,x.ev,x.bo].all fH)&&(x.aG.l.all fH)&&(x.aX.l.all fH)&&(x.aq.l.all AO)&&(x.procs.l.all xS))from rfl);have HR:=lz hr;clear kk hL hr;go_enter func211,ntmps211;go_wp2_with fail;rw[<-dV.out];have hc:=lz (om x.nm y0 (HL.out.below (bt aV jH)));generalize (dh x.nm)=q0 at hc HF;refine bZ hc jH λy1 fI=> ?_
 clear hc k0 k1 k2 k3 k4 k5 k6 k7 k8 k9;obtain⟨k0,k1,k2,k3,k4,k5,k6,k7,k8,k9⟩:=aC.kl (Hf.out _ fI.out)
 cases q0 with
 | false=>exact e1
 | true=>
  go_wp2_with fail;have hc:=lz (TY x.pe x.le x.mem x.ev x.bo y1);generalize ([x.pe,x.le,x.mem,x.ev,x.bo].all fH)=q1 at hc HF;refine bZ hc fI λy2 iF=> ?_
  clear hc k0 k1 k2 k3 k4 k5 k6 k7 k8 k9;obtain⟨k0,k1,k2,k3,k4,k5,k6,k7,k8,k9⟩:=aC.kl (Hf.out _ iF.out)
  cases q1 with
  | false=>exact e2
  | true=>
   go_wp2_with fail;have hc:=lz (sS x.aG.l x.aG.a x.aG.c y2 ((HR.out.below (bt aV iF)).aG) (nT HR.out.Ks (nT HR.out.Kt dz)));generalize (x.aG.l.all fH)=q2 at hc HF;refine bZ hc iF λy3 pz=> ?_
   clear hc k0 k1 k2 k3 k4 k5 k6 k7 k8 k9;obtain⟨k0,k1,k2,k3,k4,k5,k6,k7,k8,k9⟩:=aC.kl (Hf.out _ pz.out)
   cases q2 with
   | false=>exact e3
   | true=>
    go_wp2_with fail;have hc:=lz (sS x.aX.l x.aX.a x.aX.c y3 ((HR.out.below (bt aV pz)).aX) (nT HR.out.R7 (nT HR.out.R8 dz)));generalize (x.aX.l.all fH)=q3 at hc HF;refine bZ hc pz λy4 Fy=> ?_
    clear hc k0 k1 k2 k3 k4 k5 k6 k7 k8 k9;obtain⟨k0,k1,k2,k3,k4,k5,k6,k7,k8,k9⟩:=aC.kl (Hf.out _ Fy.out)
    cases q3 with
    | false=>exact e4
    | true=>
     go_wp2_with fail;have hc:=lz (TR 267 #[] AO (Df func267 kz rfl) x.aq.l x.aq.a x.aq.c y4 (λW r hx hW fK=>by simpa using aEf r W ((HL.out.below (bt aV Fy)).below hW) fK) ((HR.out.below (bt aV Fy)).aq) (nT HR.out.DX (nT HR.out.DY dz)));generalize (x.aq.l.all AO)=q4 at hc HF;refine bZ hc Fy λy5 Md=> ?_
     clear hc k0 k1 k2 k3 k4 k5 k6 k7 k8 k9;obtain⟨k0,k1,k2,k3,k4,k5,k6,k7,k8,k9⟩:=aC.kl (Hf.out _ Md.out)
     cases q4 with
     | false=>exact e5
     | true=>
      go_wp2_with fail;have hc:=lz (TT 269 #[] xS (Df func269 kz rfl) x.procs.l x.procs.a x.procs.c y5 (λW r hx hW fK=>by simpa using aEm r W ((HL.out.below (bt aV Md)).below hW) fK) ((HR.out.below (bt aV Md)).procs) (nT HR.out.zG (nT HR.out.zH dz)));generalize (x.procs.l.all xS)=q5 at hc HF;refine bZ hc Md λy6 WD=> ?_
      clear hc k0 k1 k2 k3 k4 k5 k6 k7 k8 k9;obtain⟨k0,k1,k2,k3,k4,k5,k6,k7,k8,k9⟩:=aC.kl (Hf.out _ WD.out);exact e6
def Ku(x:bT):Bool:=(dh x.nm)&&([x.mem,x.fr].all fH)&&(x.parts.l.all xT)
theorem WE(x:bT)(w:Al)(hL:ct w)(hr:x.rd w w.heap.size):CU 118 #[x.val] w (.bool (Ku x)):=by
 obtain⟨y0,dV,aV,Hf,jH,qU,kk⟩:=gJ w 67 #[.string x.nm,.int .i64 x.mem,.int .i64 x.fr,.slice x.parts.a x.parts.l.length x.parts.c];obtain⟨k0,k1,k2,k3⟩:=bT.kl kk;have HL:=lz hL;have HF:=lz (show Ku x=((dh x.nm)&&([x.mem,x.fr].all fH)&&(x.parts.l.all xT))from rfl);have HR:=lz hr;clear kk hL hr;go_enter func118,ntmps118;go_wp2_with fail;rw[<-dV.out];have hc:=lz (om x.nm y0 (HL.out.below (bt aV jH)));generalize (dh x.nm)=q0 at hc HF;refine bZ hc jH λy1 fI=> ?_
 clear hc k0 k1 k2 k3;obtain⟨k0,k1,k2,k3⟩:=bT.kl (Hf.out _ fI.out)
 cases q0 with
 | false=>exact e1
 | true=>
  go_wp2_with fail;have hc:=lz (tR x.mem x.fr y1);generalize ([x.mem,x.fr].all fH)=q1 at hc HF;refine bZ hc fI λy2 iF=> ?_
  clear hc k0 k1 k2 k3;obtain⟨k0,k1,k2,k3⟩:=bT.kl (Hf.out _ iF.out)
  cases q1 with
  | false=>exact e2
  | true=>
   go_wp2_with fail;have hc:=lz (TQ 211 #[] xT (Df func211 kz rfl) x.parts.l x.parts.a x.parts.c y2 (λW r hx hW fK=>by simpa using aEn r W ((HL.out.below (bt aV iF)).below hW) fK) ((HR.out.below (bt aV iF)).parts) (nT HR.out.zI (nT HR.out.zJ dz)));generalize (x.parts.l.all xT)=q2 at hc HF;refine bZ hc iF λy3 pz=> ?_
   clear hc k0 k1 k2 k3;obtain⟨k0,k1,k2,k3⟩:=bT.kl (Hf.out _ pz.out);exact e3
def mG(x:ay):Bool:=(x.mods.l.all Ku)&&(x.aj.l.all AP)&&(x.aP.l.all AQ)&&(x.links.l.all xQ)&&(x.aF.l.all Z9)&&(x.bQ.l.all pT)&&(x.causes.l.all vD)&&(x.aA.l.all P7)
theorem aBG(x:ay)(w:Al)(hL:ct w)(hr:x.rd w w.heap.size)(hx:∀r∈x.causes.l,r.x.n<=8796093021952):CU 51 #[x.val] w (.bool (mG x)):=by
 obtain⟨y0,dV,aV,Hf,jH,qU,kk⟩:=gJ w 31 #[.slice x.mods.a x.mods.l.length x.mods.c,.slice x.aj.a x.aj.l.length x.aj.c,.slice x.aP.a x.aP.l.length x.aP.c,.slice x.links.a x.links.l.length x.links.c,.slice x.aF.a x.aF.l.length x.aF.c,.slice x.bQ.a x.bQ.l.length x.bQ.c,.slice x.causes.a x.causes.l.length x.causes.c,.slice x.aA.a x.aA.l.length x.aA.c];obtain⟨k0,k1,k2,k3,k4,k5,k6,k7⟩:=ay.kl kk;have HL:=lz hL;have HF:=lz (show mG x=((x.mods.l.all Ku)&&(x.aj.l.all AP)&&(x.aP.l.all AQ)&&(x.links.l.all xQ)&&(x.aF.l.all Z9)&&(x.bQ.l.all pT)&&(x.causes.l.all vD)&&(x.aA.l.all P7))from rfl);have HR:=lz hr;have HX:=lz hx;clear kk hL hr hx;go_enter func51,ntmps51;go_wp2_with fail;rw[<-dV.out];have hc:=lz (Nd 118 #[] Ku (Df func118 kz rfl) x.mods.l x.mods.a x.mods.c y0 (λW r hx hW fK=>by simpa using WE r W ((HL.out.below (bt aV jH)).below hW) fK) ((HR.out.below (bt aV jH)).mods) (nT HR.out.AU (nT HR.out.AV dz)));generalize (x.mods.l.all Ku)=q0 at hc HF;refine bZ hc jH λy1 fI=> ?_
 clear hc k0 k1 k2 k3 k4 k5 k6 k7;obtain⟨k0,k1,k2,k3,k4,k5,k6,k7⟩:=ay.kl (Hf.out _ fI.out)
 cases q0 with
 | false=>exact e1
 | true=>
  go_wp2_with fail;have hc:=lz (Km 120 #[] AP (Df func120 kz rfl) x.aj.l x.aj.a x.aj.c y1 (λW r hx hW fK=>by simpa using aEi r W ((HL.out.below (bt aV fI)).below hW) fK) ((HR.out.below (bt aV fI)).aj) (nT HR.out.DZ (nT HR.out.D1 dz)));generalize (x.aj.l.all AP)=q1 at hc HF;refine bZ hc fI λy2 iF=> ?_
  clear hc k0 k1 k2 k3 k4 k5 k6 k7;obtain⟨k0,k1,k2,k3,k4,k5,k6,k7⟩:=ay.kl (Hf.out _ iF.out)
  cases q1 with
  | false=>exact e2
  | true=>
   go_wp2_with fail;have hc:=lz (Nf 122 #[] AQ (Df func122 kz rfl) x.aP.l x.aP.a x.aP.c y2 (λW r hx hW=>by simpa using aEj r W ((HL.out.below (bt aV iF)).below hW)) ((HR.out.below (bt aV iF)).aP) (nT HR.out.aBH (nT HR.out.aBI dz)));generalize (x.aP.l.all AQ)=q2 at hc HF;refine bZ hc iF λy3 pz=> ?_
   clear hc k0 k1 k2 k3 k4 k5 k6 k7;obtain⟨k0,k1,k2,k3,k4,k5,k6,k7⟩:=ay.kl (Hf.out _ pz.out)
   cases q2 with
   | false=>exact e3
   | true=>
    go_wp2_with fail;have hc:=lz (TP 124 #[] xQ (Df func124 kz rfl) x.links.l x.links.a x.links.c y3 (λW r hx hW=>by simpa using aEk r W ((HL.out.below (bt aV pz)).below hW)) ((HR.out.below (bt aV pz)).links) (nT HR.out.D2 (nT HR.out.D3 dz)));generalize (x.links.l.all xQ)=q3 at hc HF;refine bZ hc pz λy4 Fy=> ?_
    clear hc k0 k1 k2 k3 k4 k5 k6 k7;obtain⟨k0,k1,k2,k3,k4,k5,k6,k7⟩:=ay.kl (Hf.out _ Fy.out)
    cases q3 with
    | false=>exact e4
    | true=>
     go_wp2_with fail;have hc:=lz (aA7 126 #[] Z9 (Df func126 kz rfl) x.aF.l x.aF.a x.aF.c y4 (λW r hx hW fK=>by simpa using aNn r W ((HL.out.below (bt aV Fy)).below hW) fK) ((HR.out.below (bt aV Fy)).aF) (nT HR.out.T9 (nT HR.out.Ua dz)));generalize (x.aF.l.all Z9)=q4 at hc HF;refine bZ hc Fy λy5 Md=> ?_
     clear hc k0 k1 k2 k3 k4 k5 k6 k7;obtain⟨k0,k1,k2,k3,k4,k5,k6,k7⟩:=ay.kl (Hf.out _ Md.out)
     cases q4 with
     | false=>exact e5
     | true=>
      go_wp2_with fail;have hc:=lz (Nh 128 #[] pT (Df func128 kz rfl) x.bQ.l x.bQ.a x.bQ.c y5 (λW r hx hW fK=>by simpa using Wx r W ((HL.out.below (bt aV Md)).below hW) fK) ((HR.out.below (bt aV Md)).bQ) (nT HR.out.aBJ (nT HR.out.aBK dz)));generalize (x.bQ.l.all pT)=q5 at hc HF;refine bZ hc Md λy6 WD=> ?_
      clear hc k0 k1 k2 k3 k4 k5 k6 k7;obtain⟨k0,k1,k2,k3,k4,k5,k6,k7⟩:=ay.kl (Hf.out _ WD.out)
      cases q5 with
      | false=>exact e6
      | true=>
       go_wp2_with fail;have hc:=lz (aBL 130 #[] vD (Df func130 kz rfl) x.causes.l x.causes.a x.causes.c y6 (λW r hx hW fK=>by simpa using aA8 r W ((HL.out.below (bt aV WD)).below hW) fK (HX.out r hx)) ((HR.out.below (bt aV WD)).causes) (nT HR.out.CN (nT HR.out.CO dz)));generalize (x.causes.l.all vD)=q6 at hc HF;refine bZ hc WD λy7 HY7=> ?_
       clear hc k0 k1 k2 k3 k4 k5 k6 k7;obtain⟨k0,k1,k2,k3,k4,k5,k6,k7⟩:=ay.kl (Hf.out _ HY7.out)
       cases q6 with
       | false=>exact e7
       | true=>
        go_wp2_with fail;have hc:=lz (Kn 132 #[] P7 (Df func132 kz rfl) x.aA.l x.aA.a x.aA.c y7 (λW r hx hW=>by simpa using aIV r W ((HL.out.below (bt aV HY7)).below hW)) ((HR.out.below (bt aV HY7)).aA) (nT HR.out.R9 (nT HR.out.Sb dz)));generalize (x.aA.l.all P7)=q7 at hc HF;refine bZ hc HY7 λy8 HY8=> ?_
        clear hc k0 k1 k2 k3 k4 k5 k6 k7;obtain⟨k0,k1,k2,k3,k4,k5,k6,k7⟩:=ay.kl (Hf.out _ HY8.out);exact e8
theorem xU(x:bT)(w:Al):CU 35 #[x.val] w (.string x.nm):=by
 go_enter func35,ntmps35;go_wp2;go_ret;exact⟨rfl,(BK _ w).alloc nL (.cells #[.string x.nm,.int .i64 x.mem,.int .i64 x.fr,.slice x.parts.a x.parts.l.length x.parts.c] 67)⟩
theorem xV(x:iI)(w:Al):CU 37 #[x.val] w (.string x.nm):=by
 go_enter func37,ntmps37;go_wp2;go_ret;exact⟨rfl,(BK _ w).alloc nL (.cells #[.string x.nm,.int .i64 x.net,.int .i64 x.dl,.int .i64 x.st] 87)⟩
theorem D4(x:aC)(w:Al):CU 72 #[x.val] w (.string x.nm):=by
 go_enter func72,ntmps72;go_wp2;go_ret;exact⟨rfl,(BK _ w).alloc nL (.cells #[.string x.nm,.int .i64 x.pe,.int .i64 x.le,.int .i64 x.mem,.slice x.aG.a x.aG.l.length x.aG.c,.int .i64 x.ev,.int .i64 x.bo,.slice x.aX.a x.aX.l.length x.aX.c,.slice x.aq.a x.aq.l.length x.aq.c,.slice x.procs.a x.procs.l.length x.procs.c] 71)⟩
theorem D5(x:aM)(w:Al):CU 74 #[x.val] w (.string x.nm):=by
 go_enter func74,ntmps74;go_wp2;go_ret;exact⟨rfl,(BK _ w).alloc nL (.cells #[.string x.nm,.int .u8 x.kd,.bool x.out,.int .i64 x.sz,.int .i64 x.dp,.int .i64 x.rf] 73)⟩
theorem P9(x:cT)(w:Al):CU 76 #[x.val] w (.string x.nm):=by
 go_enter func76,ntmps76;go_wp2;go_ret;exact⟨rfl,(BK _ w).alloc nL (.cells #[.string x.nm,.int .i64 x.pr,.int .i64 x.pe,.int .i64 x.li,.slice x.code.a x.code.l.length x.code.c] 76)⟩
theorem WG(x:fU)(w:Al):CU 81 #[x.val] w (.string x.nm):=by
 go_enter func81,ntmps81;go_wp2;go_ret;exact⟨rfl,(BK _ w).alloc nL (.cells #[.string x.nm,.string x.src.m,.string x.src.p,.string x.src.o,.int .i64 x.lQ,.int .i64 x.mx,.slice x.dst.a x.dst.l.length x.dst.c] 44)⟩
theorem Gc(s:ByteArray)(x:bT)(Bo Bs:Nat)(W:Al)(ho:ah W Bo 112 #[.func (.func 35) #[] #[]])(hs:ah W Bs 9 #[.string s]):
 CU 105 #[x.val,.pointer (Ai ⟨Bo,0,Ag⟩),.pointer (Ai ⟨Bs,0,Ag⟩)] W (.bool (seqB x.nm s)):=by
 obtain⟨y0,bR⟩:=ez ((W.alloc (.cells #[.string x.nm,.int .i64 x.mem,.int .i64 x.fr,.slice x.parts.a x.parts.l.length x.parts.c] 67)));have bW:BD W.heap.size W y0:=by rw[bR];exact bN
 have bS:ah y0 W.heap.size 67 #[.string x.nm,.int .i64 x.mem,.int .i64 x.fr,.slice x.parts.a x.parts.l.length x.parts.c]:=by rw[bR];exact ah.new W _ _
 have Kv:ah y0 Bo 112 #[.func (.func 35) #[] #[]]:=ho.below bW ho.lt;have IG:ah y0 Bs 9 #[.string s]:=hs.below bW hs.lt;have c0:=Kv.cell 0;have c1:=IG.cell 0;have d0:=bS.cell 0;have d1:=bS.cell 1;have d2:=bS.cell 2;have d3:=bS.cell 3;have iR:=bn y0;have hl0:=Kv.lt;have DL:=IG.lt;have Cb:=bS.lt;have au:∀z:Ext y0,CU 35 #[.agg #[.string x.nm,.int .i64 x.mem,.int .i64 x.fr,x.parts.val]] z.w (.string x.nm):=λz=>xU x z.w
 have aN:=lz au;have aV:=lz bW;have dV:=lz bR;clear ho hs Kv IG bS au bW bR;go_enter func105,ntmps105;go_wp2_with fail;rw[<-dV.out];refine aB kz kz ?_;repeat (go_big_quiet_step ((go_at_call 35;with_reducible exact dN (aN.out _))))
 refine E5 ?_;intro _ hw';obtain⟨xx,hw''⟩:=hw';subst hw'';have eF:=lz (aV.out.trans (xx.h.mono aV.out.size));clear iR aN d0 d1 d2 d3 c0 c1;generalize xx.w=w2 at *;go_wp2;go_ret;exact⟨rfl,eF.out⟩
theorem mY(s:ByteArray)(l:List bT)(A:Option EK)(c:Nat)(w:Al)(h:dK w w.heap.size A l)(hl:l.length<=9223372036854775807):
 CU 34 #[.slice A l.length c,.func (.func 35) #[] #[],.string s] w (.int .i64 (cV (λx:bT=>seqB x.nm s) l)):=by
 have bY:BD w.heap.size w ((w.alloc (.cells #[.func (.func 35) #[] #[]] 112)).alloc (.cells #[.string s] 9)):=(bN).alloc qz _;have h1:=(ah.new w 112 #[.func (.func 35) #[] #[]]).alloc (.cells #[.string s] 9);have h2:=ah.new (w.alloc (.cells #[.func (.func 35) #[] #[]] 112)) 9 #[.string s];rw[Dj]at h2;have hI:=xk 105 #[.pointer (Ai ⟨w.heap.size,0,Ag⟩),.pointer (Ai ⟨w.heap.size+1,0,Ag⟩)] (λx=>seqB x.nm s) (Df func105 kz rfl) l A c ((w.alloc (.cells #[.func (.func 35) #[] #[]] 112)).alloc (.cells #[.string s] 9))
  (λW x hx hW _=>Gc s x _ _ W (h1.below hW h1.lt) (h2.below hW h2.lt)) (h.below bY) hl
 have HI:=lz hI;have cU:=lz bY;generalize cV (λx:bT=>seqB x.nm s) l=q at *;clear hI h1 h2 bY h;go_enter func34,ntmps34;go_wp2_with fail;refine HI.out.mono ?_;rintro e w1 ⟨rfl,aU⟩;have HB:=lz (cU.out.trans (aU.mono cU.out.size));clear HI aU cU;go_wp2;go_ret;exact⟨rfl,HB.out⟩
theorem Gd(s:ByteArray)(x:iI)(Bo Bs:Nat)(W:Al)(ho:ah W Bo 114 #[.func (.func 37) #[] #[]])(hs:ah W Bs 9 #[.string s]):
 CU 107 #[x.val,.pointer (Ai ⟨Bo,0,Ag⟩),.pointer (Ai ⟨Bs,0,Ag⟩)] W (.bool (seqB x.nm s)):=by
 obtain⟨y0,bR⟩:=ez ((W.alloc (.cells #[.string x.nm,.int .i64 x.net,.int .i64 x.dl,.int .i64 x.st] 87)));have bW:BD W.heap.size W y0:=by rw[bR];exact bN
 have bS:ah y0 W.heap.size 87 #[.string x.nm,.int .i64 x.net,.int .i64 x.dl,.int .i64 x.st]:=by rw[bR];exact ah.new W _ _
 have Kv:ah y0 Bo 114 #[.func (.func 37) #[] #[]]:=ho.below bW ho.lt;have IG:ah y0 Bs 9 #[.string s]:=hs.below bW hs.lt;have c0:=Kv.cell 0;have c1:=IG.cell 0;have d0:=bS.cell 0;have d1:=bS.cell 1;have d2:=bS.cell 2;have d3:=bS.cell 3;have iR:=bn y0;have hl0:=Kv.lt;have DL:=IG.lt;have Cb:=bS.lt;have au:∀z:Ext y0,CU 37 #[.agg #[.string x.nm,.int .i64 x.net,.int .i64 x.dl,.int .i64 x.st]] z.w (.string x.nm):=λz=>xV x z.w
 have aN:=lz au;have aV:=lz bW;have dV:=lz bR;clear ho hs Kv IG bS au bW bR;go_enter func107,ntmps107;go_wp2_with fail;rw[<-dV.out];refine aB kz kz ?_;repeat (go_big_quiet_step ((go_at_call 37;with_reducible exact dN (aN.out _))))
 refine E5 ?_;intro _ hw';obtain⟨xx,hw''⟩:=hw';subst hw'';have eF:=lz (aV.out.trans (xx.h.mono aV.out.size));clear iR aN d0 d1 d2 d3 c0 c1;generalize xx.w=w2 at *;go_wp2;go_ret;exact⟨rfl,eF.out⟩
theorem xW(s:ByteArray)(l:List iI)(A:Option EK)(c:Nat)(w:Al)(h:dL w w.heap.size A l)(hl:l.length<=9223372036854775807):
 CU 36 #[.slice A l.length c,.func (.func 37) #[] #[],.string s] w (.int .i64 (cV (λx:iI=>seqB x.nm s) l)):=by
 have bY:BD w.heap.size w ((w.alloc (.cells #[.func (.func 37) #[] #[]] 114)).alloc (.cells #[.string s] 9)):=(bN).alloc qz _;have h1:=(ah.new w 114 #[.func (.func 37) #[] #[]]).alloc (.cells #[.string s] 9);have h2:=ah.new (w.alloc (.cells #[.func (.func 37) #[] #[]] 114)) 9 #[.string s];rw[Dj]at h2;have hI:=xq 107 #[.pointer (Ai ⟨w.heap.size,0,Ag⟩),.pointer (Ai ⟨w.heap.size+1,0,Ag⟩)] (λx=>seqB x.nm s) (Df func107 kz rfl) l A c ((w.alloc (.cells #[.func (.func 37) #[] #[]] 114)).alloc (.cells #[.string s] 9))
  (λW x hx hW=>Gd s x _ _ W (h1.below hW h1.lt) (h2.below hW h2.lt)) (h.below bY) hl
 have HI:=lz hI;have cU:=lz bY;generalize cV (λx:iI=>seqB x.nm s) l=q at *;clear hI h1 h2 bY h;go_enter func36,ntmps36;go_wp2_with fail;refine HI.out.mono ?_;rintro e w1 ⟨rfl,aU⟩;have HB:=lz (cU.out.trans (aU.mono cU.out.size));clear HI aU cU;go_wp2;go_ret;exact⟨rfl,HB.out⟩
theorem Nq(s:ByteArray)(x:aC)(Bo Bs:Nat)(W:Al)(ho:ah W Bo 158 #[.func (.func 72) #[] #[]])(hs:ah W Bs 9 #[.string s]):
 CU 286 #[x.val,.pointer (Ai ⟨Bo,0,Ag⟩),.pointer (Ai ⟨Bs,0,Ag⟩)] W (.bool (seqB x.nm s)):=by
 obtain⟨y0,bR⟩:=ez ((W.alloc (.cells #[.string x.nm,.int .i64 x.pe,.int .i64 x.le,.int .i64 x.mem,.slice x.aG.a x.aG.l.length x.aG.c,.int .i64 x.ev,.int .i64 x.bo,.slice x.aX.a x.aX.l.length x.aX.c,.slice x.aq.a x.aq.l.length x.aq.c,.slice x.procs.a x.procs.l.length x.procs.c] 71)));have bW:BD W.heap.size W y0:=by rw[bR];exact bN
 have bS:ah y0 W.heap.size 71 #[.string x.nm,.int .i64 x.pe,.int .i64 x.le,.int .i64 x.mem,.slice x.aG.a x.aG.l.length x.aG.c,.int .i64 x.ev,.int .i64 x.bo,.slice x.aX.a x.aX.l.length x.aX.c,.slice x.aq.a x.aq.l.length x.aq.c,.slice x.procs.a x.procs.l.length x.procs.c]:=by rw[bR];exact ah.new W _ _
 have Kv:ah y0 Bo 158 #[.func (.func 72) #[] #[]]:=ho.below bW ho.lt;have IG:ah y0 Bs 9 #[.string s]:=hs.below bW hs.lt;have c0:=Kv.cell 0;have c1:=IG.cell 0;have d0:=bS.cell 0;have d1:=bS.cell 1;have d2:=bS.cell 2;have d3:=bS.cell 3;have d4:=bS.cell 4;have d5:=bS.cell 5;have d6:=bS.cell 6;have d7:=bS.cell 7;have d8:=bS.cell 8;have d9:=bS.cell 9;have iR:=bn y0;have hl0:=Kv.lt;have DL:=IG.lt;have Cb:=bS.lt;have au:∀z:Ext y0,CU 72 #[.agg #[.string x.nm,.int .i64 x.pe,.int .i64 x.le,.int .i64 x.mem,x.aG.val,.int .i64 x.ev,.int .i64 x.bo,x.aX.val,x.aq.val,x.procs.val]] z.w (.string x.nm):=λz=>D4 x z.w
 have aN:=lz au;have aV:=lz bW;have dV:=lz bR;clear ho hs Kv IG bS au bW bR;go_enter func286,ntmps286;go_wp2_with fail;rw[<-dV.out];refine aB kz kz ?_;repeat (go_big_quiet_step ((go_at_call 72;with_reducible exact dN (aN.out _))))
 refine E5 ?_;intro _ hw';obtain⟨xx,hw''⟩:=hw';subst hw'';have eF:=lz (aV.out.trans (xx.h.mono aV.out.size));clear iR aN d0 d1 d2 d3 d4 d5 d6 d7 d8 d9 c0 c1;generalize xx.w=w2 at *;go_wp2;go_ret;exact⟨rfl,eF.out⟩
theorem Qa(s:ByteArray)(l:List aC)(A:Option EK)(c:Nat)(w:Al)(h:fW w w.heap.size A l)(hl:l.length<=9223372036854775807):
 CU 241 #[.slice A l.length c,.func (.func 72) #[] #[],.string s] w (.int .i64 (cV (λx:aC=>seqB x.nm s) l)):=by
 have bY:BD w.heap.size w ((w.alloc (.cells #[.func (.func 72) #[] #[]] 158)).alloc (.cells #[.string s] 9)):=(bN).alloc qz _;have h1:=(ah.new w 158 #[.func (.func 72) #[] #[]]).alloc (.cells #[.string s] 9);have h2:=ah.new (w.alloc (.cells #[.func (.func 72) #[] #[]] 158)) 9 #[.string s];rw[Dj]at h2;have hI:=DJ 286 #[.pointer (Ai ⟨w.heap.size,0,Ag⟩),.pointer (Ai ⟨w.heap.size+1,0,Ag⟩)] (λx=>seqB x.nm s) (Df func286 kz rfl) l A c ((w.alloc (.cells #[.func (.func 72) #[] #[]] 158)).alloc (.cells #[.string s] 9))
  (λW x hx hW _=>Nq s x _ _ W (h1.below hW h1.lt) (h2.below hW h2.lt)) (h.below bY) hl
 have HI:=lz hI;have cU:=lz bY;generalize cV (λx:aC=>seqB x.nm s) l=q at *;clear hI h1 h2 bY h;go_enter func241,ntmps241;go_wp2_with fail;refine HI.out.mono ?_;rintro e w1 ⟨rfl,aU⟩;have HB:=lz (cU.out.trans (aU.mono cU.out.size));clear HI aU cU;go_wp2;go_ret;exact⟨rfl,HB.out⟩
theorem Nr(s:ByteArray)(x:aM)(Bo Bs:Nat)(W:Al)(ho:ah W Bo 160 #[.func (.func 74) #[] #[]])(hs:ah W Bs 9 #[.string s]):
 CU 287 #[x.val,.pointer (Ai ⟨Bo,0,Ag⟩),.pointer (Ai ⟨Bs,0,Ag⟩)] W (.bool (seqB x.nm s)):=by
 obtain⟨y0,bR⟩:=ez ((W.alloc (.cells #[.string x.nm,.int .u8 x.kd,.bool x.out,.int .i64 x.sz,.int .i64 x.dp,.int .i64 x.rf] 73)));have bW:BD W.heap.size W y0:=by rw[bR];exact bN
 have bS:ah y0 W.heap.size 73 #[.string x.nm,.int .u8 x.kd,.bool x.out,.int .i64 x.sz,.int .i64 x.dp,.int .i64 x.rf]:=by rw[bR];exact ah.new W _ _
 have Kv:ah y0 Bo 160 #[.func (.func 74) #[] #[]]:=ho.below bW ho.lt;have IG:ah y0 Bs 9 #[.string s]:=hs.below bW hs.lt;have c0:=Kv.cell 0;have c1:=IG.cell 0;have d0:=bS.cell 0;have d1:=bS.cell 1;have d2:=bS.cell 2;have d3:=bS.cell 3;have d4:=bS.cell 4;have d5:=bS.cell 5;have iR:=bn y0;have hl0:=Kv.lt;have DL:=IG.lt;have Cb:=bS.lt;have au:∀z:Ext y0,CU 74 #[.agg #[.string x.nm,.int .u8 x.kd,.bool x.out,.int .i64 x.sz,.int .i64 x.dp,.int .i64 x.rf]] z.w (.string x.nm):=λz=>D5 x z.w
 have aN:=lz au;have aV:=lz bW;have dV:=lz bR;clear ho hs Kv IG bS au bW bR;go_enter func287,ntmps287;go_wp2_with fail;rw[<-dV.out];refine aB kz kz ?_;repeat (go_big_quiet_step ((go_at_call 74;with_reducible exact dN (aN.out _))))
 refine E5 ?_;intro _ hw';obtain⟨xx,hw''⟩:=hw';subst hw'';have eF:=lz (aV.out.trans (xx.h.mono aV.out.size));clear iR aN d0 d1 d2 d3 d4 d5 c0 c1;generalize xx.w=w2 at *;go_wp2;go_ret;exact⟨rfl,eF.out⟩
theorem Qb(s:ByteArray)(l:List aM)(A:Option EK)(c:Nat)(w:Al)(h:fu w w.heap.size A l)(hl:l.length<=9223372036854775807):
 CU 242 #[.slice A l.length c,.func (.func 74) #[] #[],.string s] w (.int .i64 (cV (λx:aM=>seqB x.nm s) l)):=by
 have bY:BD w.heap.size w ((w.alloc (.cells #[.func (.func 74) #[] #[]] 160)).alloc (.cells #[.string s] 9)):=(bN).alloc qz _;have h1:=(ah.new w 160 #[.func (.func 74) #[] #[]]).alloc (.cells #[.string s] 9);have h2:=ah.new (w.alloc (.cells #[.func (.func 74) #[] #[]] 160)) 9 #[.string s];rw[Dj]at h2;have hI:=DI 287 #[.pointer (Ai ⟨w.heap.size,0,Ag⟩),.pointer (Ai ⟨w.heap.size+1,0,Ag⟩)] (λx=>seqB x.nm s) (Df func287 kz rfl) l A c ((w.alloc (.cells #[.func (.func 74) #[] #[]] 160)).alloc (.cells #[.string s] 9))
  (λW x hx hW _=>Nr s x _ _ W (h1.below hW h1.lt) (h2.below hW h2.lt)) (h.below bY) hl
 have HI:=lz hI;have cU:=lz bY;generalize cV (λx:aM=>seqB x.nm s) l=q at *;clear hI h1 h2 bY h;go_enter func242,ntmps242;go_wp2_with fail;refine HI.out.mono ?_;rintro e w1 ⟨rfl,aU⟩;have HB:=lz (cU.out.trans (aU.mono cU.out.size));clear HI aU cU;go_wp2;go_ret;exact⟨rfl,HB.out⟩
def tU(w:Al)(g:Nat)(x:ay):Prop:=ah w g 94 #[.slice x.mods.a x.mods.l.length x.mods.c,.slice x.aj.a x.aj.l.length x.aj.c,.slice x.aP.a x.aP.l.length x.aP.c,.slice x.links.a x.links.l.length x.links.c,.slice x.aF.a x.aF.l.length x.aF.c,.slice x.bQ.a x.bQ.l.length x.bQ.c,.slice x.causes.a x.causes.l.length x.causes.c,.slice x.aA.a x.aA.l.length x.aA.c]
theorem tU.cell{w:Al}{g:Nat}{x:ay}(h:tU w g x)(i:Nat):w.cell? ⟨g,i,Ag⟩=(#[.slice x.mods.a x.mods.l.length x.mods.c,.slice x.aj.a x.aj.l.length x.aj.c,.slice x.aP.a x.aP.l.length x.aP.c,.slice x.links.a x.links.l.length x.links.c,.slice x.aF.a x.aF.l.length x.aF.c,.slice x.bQ.a x.bQ.l.length x.bQ.c,.slice x.causes.a x.causes.l.length x.causes.c,.slice x.aA.a x.aA.l.length x.aA.c]:Array Value)[i]?:=ah.cell h i
theorem tU.gr{X:Nat->Prop}{w w':Al}{g:Nat}{x:ay}(h:tU w g x)(hg:Gr X w w')(hx:¬X g):tU w' g x:=Gr.blk hg h hx
theorem tU.below{w w':Al}{g:Nat}{x:ay}(h:tU w g x)(hb:BD w.heap.size w w'):tU w' g x:=ah.below h hb (ah.lt h)
theorem kO{α:Type}(p:α->Bool)(l:List α):cV p l<l.length:=by
 unfold cV
 cases h:l.findIdx? p with
 | none=>simp only;omega
 | some i=>
  have:=(List.findIdx?_eq_some_iff_getElem.1 h).1;simp only;omega
theorem aBN{α:Type}(p:α->Bool)(l:List α): -1<=cV p l:=by
 unfold cV
 cases h:l.findIdx? p with
 | none=>simp
 | some i=>simp only;omega
def bg(x:ay)(s:ByteArray):Int:=
 if cV (λy:bT=>seqB y.nm s) x.mods.l>=0 then cV (λy:bT=>seqB y.nm s) x.mods.l
 else if cV (λy:iI=>seqB y.nm s) x.aP.l>=0 then x.mods.l.length+cV (λy:iI=>seqB y.nm s) x.aP.l else-1
theorem vI(x:ay)(s:ByteArray)(w:Al)(hr:x.rd w w.heap.size)(hm:x.mods.l.length<=1000000)(hs:x.aP.l.length<=1000000):CU 12 #[x.val,.string s] w (.int .i64 (bg x s)):=by
 obtain⟨y0,bR⟩:=ez (w.alloc (.cells #[.slice x.mods.a x.mods.l.length x.mods.c,.slice x.aj.a x.aj.l.length x.aj.c,.slice x.aP.a x.aP.l.length x.aP.c,.slice x.links.a x.links.l.length x.links.c,.slice x.aF.a x.aF.l.length x.aF.c,.slice x.bQ.a x.bQ.l.length x.bQ.c,.slice x.causes.a x.causes.l.length x.causes.c,.slice x.aA.a x.aA.l.length x.aA.c] 31));have bW:BD w.heap.size w y0:=by rw[bR];exact bN
 have bS:ah y0 w.heap.size 31 #[.slice x.mods.a x.mods.l.length x.mods.c,.slice x.aj.a x.aj.l.length x.aj.c,.slice x.aP.a x.aP.l.length x.aP.c,.slice x.links.a x.links.l.length x.links.c,.slice x.aF.a x.aF.l.length x.aF.c,.slice x.bQ.a x.bQ.l.length x.bQ.c,.slice x.causes.a x.causes.l.length x.causes.c,.slice x.aA.a x.aA.l.length x.aA.c]:=by rw[bR];exact ah.new w _ _
 have jy:=hr.below bW;have h1:=mY s x.mods.l x.mods.a x.mods.c y0 jy.mods oz;have h2:=λW (hW:BD y0.heap.size y0 W)=>xW s x.aP.l x.aP.a x.aP.c W (jy.aP.below hW) oz
 have hsw:=kO (λy:iI=>seqB y.nm s) x.aP.l;have Qc:=aBN (λy:iI=>seqB y.nm s) x.aP.l;have HN:=lz (show bg x s=if cV (λy:bT=>seqB y.nm s) x.mods.l>=0 then cV (λy:bT=>seqB y.nm s) x.mods.l
 else if cV (λy:iI=>seqB y.nm s) x.aP.l>=0 then x.mods.l.length+cV (λy:iI=>seqB y.nm s) x.aP.l else-1 from rfl)
 obtain⟨n,hn⟩:=ez (bg x s);rw[<-hn]at HN ⊢;obtain⟨m,Kw⟩:=ez (cV (λy:bT=>seqB y.nm s) x.mods.l);obtain⟨k,WH⟩:=ez (cV (λy:iI=>seqB y.nm s) x.aP.l);rw[<-Kw]at h1 HN;simp only[<-WH]at h2 HN hsw Qc;have hf:∀W,BD y0.heap.size y0 W->ah W w.heap.size 31 #[.slice x.mods.a x.mods.l.length x.mods.c,.slice x.aj.a x.aj.l.length x.aj.c,.slice x.aP.a x.aP.l.length x.aP.c,.slice x.links.a x.links.l.length x.links.c,.slice x.aF.a x.aF.l.length x.aF.c,.slice x.bQ.a x.bQ.l.length x.bQ.c,.slice x.causes.a x.causes.l.length x.causes.c,.slice x.aA.a x.aA.l.length x.aA.c]:=λW hW=>bS.below hW bS.lt
 have k0:=bR▸bS.cell 0;have H1:=lz h1;have H2:=lz h2;have Hf:=lz hf;have aV:=lz bW;have dV:=lz bR;have HW:=lz (show IntKind.i64.wrap ((x.mods.l.length:Int)+k)=x.mods.l.length+k from IntWalk.i64_in _ ⟨oz,oz⟩);clear hn Kw WH h1 h2 hf bW bR bS jy hr;go_enter func12,ntmps12;go_wp2_with fail;rw[<-dV.out];refine H1.out.mono ?_;rintro e y1 ⟨rfl,aU⟩;have fI:=lz aU;clear aU k0 H1;have k0:y1.cell? ⟨w.heap.size,0,Ag⟩=Ai (.slice x.mods.a x.mods.l.length x.mods.c):=(Hf.out _ fI.out).cell 0;have k2:y1.cell? ⟨w.heap.size,2,Ag⟩=Ai (.slice x.aP.a x.aP.l.length x.aP.c):=(Hf.out _ fI.out).cell 2;by_cases h0:m>=0
 .have d0:decide (m>=0)=true:=dT h0
  have tg:=lz (show n=m by rw[HN.out,if_pos h0]);clear HN;go_wp2;go_ret;exact⟨by rw[tg.out]<;>rfl,aV.out.trans (fI.out.mono aV.out.size)⟩
 .have d0:decide (m>=0)=false:=dF h0
  have tg:=lz (show n=if k>=0 then x.mods.l.length+k else-1 by rw[HN.out,if_neg h0]);have H3:=lz (H2.out y1 fI.out);clear HN H2;go_wp2_with fail;refine H3.out.mono ?_;rintro e y2 ⟨rfl,dI⟩;have iF:=lz (fI.out.trans (dI.mono fI.out.size));clear dI k0 k2 H3;have k0:y2.cell? ⟨w.heap.size,0,Ag⟩=Ai (.slice x.mods.a x.mods.l.length x.mods.c):=(Hf.out _ iF.out).cell 0;by_cases h1:k>=0
  .have d1:decide (k>=0)=true:=dT h1
   have Pf:=lz (show n=x.mods.l.length+k by rw[tg.out,if_pos h1]);have hw:=HW.out;clear tg HW;go_wp2;go_ret;exact⟨by rw[Pf.out]<;>rfl,aV.out.trans (iF.out.mono aV.out.size)⟩
  .have d1:decide (k>=0)=false:=dF h1
   have Pf:=lz (show n= -1 by rw[tg.out,if_neg h1]);clear tg HW;go_wp2;go_ret;exact⟨by rw[Pf.out]<;>rfl,aV.out.trans (iF.out.mono aV.out.size)⟩
structure dZ where
 src:bw
 dst:Sl bw
 vl:Bool
abbrev dZ.val(x:dZ):Value:= .agg #[.string x.src.m,.string x.src.p,.string x.src.o,.slice x.dst.a x.dst.l.length x.dst.c,.bool x.vl]
def dZ.Mf(x:gq):dZ:=⟨x.src,x.dst,false⟩
def dZ.Pg(x:fU):dZ:=⟨x.src,x.dst,true⟩
def gi(x:ay):List dZ:=x.aj.l.map dZ.Mf++x.aF.l.map dZ.Pg
abbrev dZ.enc(x:dZ):Array Value:= #[x.val]
theorem tV{α β:Type}(f:α->β){l:List α}{k:Nat}(h:k<l.length):(l.take (k+1)).map f=(l.take k).map f++ [f l[k]]:=by
 rw[Dl h,List.map_append];rfl
theorem Ub{x:ay}{k:Nat}(h:k<=x.aj.l.length):(x.aj.l.take k).map dZ.Mf <+: gi x:=by
 unfold gi;exact((List.take_prefix k x.aj.l).map dZ.Mf).trans (List.prefix_append _ _)
theorem Uc{x:ay}{k:Nat}(h:k<=x.aF.l.length):x.aj.l.map dZ.Mf++(x.aF.l.take k).map dZ.Pg <+: gi x:=by
 unfold gi;exact(List.prefix_append_right_inj _).2 ((List.take_prefix k x.aF.l).map dZ.Pg)
structure D6(w:Al)(g Bl B:Nat)(x:ay):Prop where
 l:ah w Bl 92 #[.pointer (Ai ⟨g,0,Ag⟩)]
 g:tU w g x
 r:x.rd w B
 B:B<=w.heap.size
theorem D6.gr{X:Nat->Prop}{w w':Al}{g Bl B:Nat}{x:ay}(h:D6 w g Bl B x)(hX:∀k,X k->k≠Bl/\k≠g/\B<=k)(hg:Gr X w w'):D6 w' g Bl B x:=
 ⟨hg.blk h.l λhx=>(hX _ hx).1 rfl,h.g.gr hg λhx=>(hX _ hx).2.1 rfl,h.r.dn nL (kN hg h.B λk hk=>(hX k hk).2.2),nT h.B hg.size⟩
theorem WI(x:ay)(g Bl B:Nat)(X:Nat->Prop)(w:Al)(hX:∀k,X k->k≠Bl/\k≠g/\B<=k)(h:D6 w g Bl B x)(hc1:x.aj.l.length<=9223372036854775807)(qc:x.aF.l.length<=9223372036854775807):
 aAz X 143 #[.pointer (Ai ⟨Bl,0,Ag⟩)] dZ.enc (gi x) w:=by
 intro l W J Jx hW hJ hJx h0 hY;have HF:=lz (λW (hG:Gr X w W)=>h.gr hX hG);have hGW:Gr X w W:=Gr.ak hW;have c0:W.cell? ⟨Bl,0,Ag⟩=Ai (.pointer (Ai ⟨g,0,Ag⟩)):=(HF.out _ hGW).l.cell 0;have k1:W.cell? ⟨g,1,Ag⟩=Ai (.slice x.aj.a x.aj.l.length x.aj.c):=(HF.out _ hGW).g.cell 1;have HY:=lz hY;have HJ:=lz hJ;clear hY hJ hJx h hW;refine callsIn_of_wp func143 rfl trivial ?_ rfl;simp only[ntmps143,List.size_toArray,Ia,List.length_nil,Nat.reduceAdd,Nat.reduceSub,Array.replicate_succ,Array.replicate_zero,List.push_toArray,List.append_toArray,GY,GQ];gi_wp2;gi_loopw [13] (λt wr=>∃k:Nat,k<=x.aj.l.length/\t= .int .i64 k/\J ((x.aj.l.take k).map dZ.Mf) wr/\Gr X w wr) (λt wr=>x.aj.l.length-(E8 t).toNat)
 case atStart=>exact⟨0,nZ,rfl,by simpa using h0,hGW⟩
 case round=>
  clear h0 hGW c0 k1;obtain⟨k,hk,rfl,M0,hG⟩:=hrel;by_cases hlt:k<x.aj.l.length
  .have hf:=HF.out _ hG
   obtain⟨b,o,hA,hb,hc⟩:=hf.r.aj oz;obtain⟨d0,d1,d2,d3,_⟩:=hc k hlt;have CP:=hf.B;have hlc:=hf.l.lt;have pE:=tV dZ.Mf hlt;have Ge:(x.aj.l.take k).map dZ.Mf++ [dZ.Mf x.aj.l[k]] <+: gi x:=by
    have:=Ub (x:=x) (k:=k+1) oz;rw[pE]at this;simpa [IZ]using this
   have hGb:∀v,Gr X w (wr.alloc (.cells v 78)):=λv=>hG.trans (Gr.alloc _ _ _)
   have hJb:∀v,J ((x.aj.l.take k).map dZ.Mf) (wr.alloc (.cells v 78)):=λv=>HJ.out _ _ _ M0 (bN)
   obtain⟨fn,tmps,assign,body,hy,hR⟩:=HY.out _ _ (wr.alloc (.cells #[.string x.aj.l[k].src.m,.string x.aj.l[k].src.p,.string x.aj.l[k].src.o,.slice x.aj.l[k].dst.a x.aj.l[k].dst.l.length x.aj.l[k].dst.c] 78)) Ge (hGb _) (hJb _);have lg:=lz (show(x.aj.l.take (k+1)).map dZ.Mf=(x.aj.l.take k).map dZ.Mf++ [dZ.Mf x.aj.l[k]]by rw[pE]);have WJ:=lz Ge;have HG:=lz hG;clear Ge pE M0 hG hGb hJb hf hc;dsimp only[dZ.enc,dZ.val,dZ.Mf]at hy;rw[hA]at *;generalize hyk:x.aj.l[k]=y at *;gi_wp2;refine hR.mono ?_;rintro e' W3 (⟨rfl,WK,wk⟩ | ⟨rfl,Gf⟩)
   .have HJ3:=lz WK
    have Qd:=lz wk;clear WK wk;gi_wp2;go_roundw
    case rel=>exact⟨k+1,oz,by go_num,by rw[lg.out];exact HJ3.out,(HG.out.trans (Gr.alloc _ _ _)).trans Qd.out⟩
    case measure=>simp[E8];omega
   .have WL:=lz Gf
    clear Gf;gi_wp2;refine GJ (results_none rfl _ _ _) rfl ?_;exact⟨⟨_,rfl⟩,.inr ⟨_,WJ.out,WL.out⟩⟩
  .obtain rfl:k=x.aj.l.length:=by omega
   rw[GS]at M0;have hf:=HF.out _ hG;have c0:=hf.l.cell 0;have k4:=hf.g.cell 4;have hJE:=lz M0;have HGE:=lz hG;clear M0 hG hf;gi_wp2;gi_loopw [32] (λt wr=>∃k:Nat,k<=x.aF.l.length/\t= .int .i64 k/\J (x.aj.l.map dZ.Mf++(x.aF.l.take k).map dZ.Pg) wr/\Gr X w wr) (λt wr=>x.aF.l.length-(E8 t).toNat)
   case atStart=>exact⟨0,nZ,rfl,by simpa using hJE.out,HGE.out⟩
   case round=>
    clear hJE HGE c0 k4;obtain⟨k,hk,rfl,M0,hG⟩:=hrel;by_cases hlt:k<x.aF.l.length
    .have hf:=HF.out _ hG
     obtain⟨b,o,hA,hb,hc⟩:=hf.r.aF oz;obtain⟨d0,d1,d2,d3,d4,d5,d6,_⟩:=hc k hlt;have CP:=hf.B;have hlc:=hf.l.lt;have pE:=tV dZ.Pg hlt;have Ge:x.aj.l.map dZ.Mf++(x.aF.l.take k).map dZ.Pg++ [dZ.Pg x.aF.l[k]] <+: gi x:=by
      have:=Uc (x:=x) (k:=k+1) oz;rw[pE]at this;simpa [IZ]using this
     have hGb:∀v,Gr X w (wr.alloc (.cells v 44)):=λv=>hG.trans (Gr.alloc _ _ _)
     have hJb:∀v,J (x.aj.l.map dZ.Mf++(x.aF.l.take k).map dZ.Pg) (wr.alloc (.cells v 44)):=λv=>HJ.out _ _ _ M0 (bN)
     obtain⟨fn,tmps,assign,body,hy,hR⟩:=HY.out _ _ (wr.alloc (.cells #[.string x.aF.l[k].nm,.string x.aF.l[k].src.m,.string x.aF.l[k].src.p,.string x.aF.l[k].src.o,.int .i64 x.aF.l[k].lQ,.int .i64 x.aF.l[k].mx,.slice x.aF.l[k].dst.a x.aF.l[k].dst.l.length x.aF.l[k].dst.c] 44)) Ge (hGb _) (hJb _);have lg:=lz (show x.aj.l.map dZ.Mf++(x.aF.l.take (k+1)).map dZ.Pg=x.aj.l.map dZ.Mf++(x.aF.l.take k).map dZ.Pg++ [dZ.Pg x.aF.l[k]]by rw[pE];rw[IZ]);have WJ:=lz Ge;have HG:=lz hG;clear Ge pE M0 hG hGb hJb hf hc;dsimp only[dZ.enc,dZ.val,dZ.Pg]at hy;rw[hA]at *;generalize hyk:x.aF.l[k]=y at *;gi_wp2;refine hR.mono ?_;rintro e' W3 (⟨rfl,WK,wk⟩ | ⟨rfl,Gf⟩)
     .have HJ3:=lz WK
      have Qd:=lz wk;clear WK wk;gi_wp2;go_roundw
      case rel=>exact⟨k+1,oz,by go_num,by rw[lg.out];exact HJ3.out,(HG.out.trans (Gr.alloc _ _ _)).trans Qd.out⟩
      case measure=>simp[E8];omega
     .have WL:=lz Gf
      clear Gf;gi_wp2;refine GJ (results_none rfl _ _ _) rfl ?_;exact⟨⟨_,rfl⟩,.inr ⟨_,WJ.out,WL.out⟩⟩
    .obtain rfl:k=x.aF.l.length:=by omega
     rw[GS]at M0;have HJk:=lz (show J (gi x) wr from M0);clear M0;gi_wp2;go_end0;exact⟨⟨_,rfl⟩,.inl HJk.out⟩
abbrev WM:=bT×aC
abbrev II(y:WM):Array Value:= #[y.1.val,y.2.val]
def D7(m:bT):List WM:=m.parts.l.map λp=>(m,p)
def fE(x:ay):List WM:=x.mods.l.flatMap D7
theorem IJ{α β:Type}(f:α->List β){l:List α}{k:Nat}(h:k<l.length):(l.take (k+1)).flatMap f=(l.take k).flatMap f++f l[k]:=by
 rw[Dl h,Ig];simp
theorem WO{α β:Type}(f:α->List β)(l:List α)(k:Nat):(l.take k).flatMap f <+: l.flatMap f:=by
 have:l.flatMap f=(l.take k).flatMap f++(l.drop k).flatMap f:=by rw[<-Ig,List.take_append_drop]
 rw[this];exact List.prefix_append _ _
theorem Ud{x:ay}{i j:Nat}(hi:i<x.mods.l.length)(hj:j<x.mods.l[i].parts.l.length):(x.mods.l.take i).flatMap D7++(x.mods.l[i].parts.l.take j).map (λp=>(x.mods.l[i],p))++ [(x.mods.l[i],x.mods.l[i].parts.l[j])] <+: fE x:=by
 have h1:=WO D7 x.mods.l (i+1);rw[IJ D7 hi]at h1;refine List.IsPrefix.trans ?_ h1;rw[IZ];refine(List.prefix_append_right_inj _).2 ?_;rw[<-tV (λp=>(x.mods.l[i],p)) hj];exact(List.take_prefix _ _).map _
theorem CQ(x:ay)(g Bl B:Nat)(X:Nat->Prop)(w:Al)(hX:∀k,X k->k≠Bl/\k≠g/\B<=k)(hX2:∀k,X k->k<w.heap.size)(h:D6 w g Bl B x)(hc1:x.mods.l.length<=9223372036854775807):
 aAz X 151 #[.pointer (Ai ⟨Bl,0,Ag⟩)] II (fE x) w:=by
 intro l W J Jx hW hJ hJx h0 hY;have HF:=lz (λW (hG:Gr X w W)=>h.gr hX hG);have hGW:Gr X w W:=Gr.ak hW;have c0:W.cell? ⟨Bl,0,Ag⟩=Ai (.pointer (Ai ⟨g,0,Ag⟩)):=(HF.out _ hGW).l.cell 0;have k0:W.cell? ⟨g,0,Ag⟩=Ai (.slice x.mods.a x.mods.l.length x.mods.c):=(HF.out _ hGW).g.cell 0;have HY:=lz hY;have HJ:=lz hJ;have qB:=lz hX2;clear hY hJ hJx h hW hX2;refine callsIn_of_wp func151 rfl trivial ?_ rfl;simp only[ntmps151,List.size_toArray,Ia,List.length_nil,Nat.reduceAdd,Nat.reduceSub,Array.replicate_succ,Array.replicate_zero,List.push_toArray,List.append_toArray,GY,GQ];gi_wp2;gi_loopw [13] (λt wr=>∃i:Nat,i<=x.mods.l.length/\t= .int .i64 i/\J ((x.mods.l.take i).flatMap D7) wr/\Gr X w wr) (λt wr=>x.mods.l.length-(E8 t).toNat)
 case atStart=>exact⟨0,nZ,rfl,by simpa using h0,hGW⟩
 case round=>
  clear h0 hGW c0 k0;obtain⟨i,hi,rfl,hJi,hG⟩:=hrel;by_cases hlt:i<x.mods.l.length
  .have hf:=HF.out _ hG
   obtain⟨b,o,hA,hb,hc⟩:=hf.r.mods oz;obtain⟨d0,d1,d2,d3,Gg⟩:=hc i hlt;have CP:=hf.B;have Ge:=λj hj=>Ud (x:=x) (i:=i) (j:=j) hlt hj
   have aNs:=lz (IJ D7 hlt);have WJ:=lz Ge;clear Ge hf hc;rw[hA]at *;generalize x.mods.l[i]=m at *;obtain⟨w1,cN⟩:=ez (wr.alloc (.cells #[.string m.nm,.int .i64 m.mem,.int .i64 m.fr,.slice m.parts.a m.parts.l.length m.parts.c] 67));have aU:ah w1 wr.heap.size 67 #[.string m.nm,.int .i64 m.mem,.int .i64 m.fr,.slice m.parts.a m.parts.l.length m.parts.c]:=by rw[cN];exact ah.new _ _ _
   have bY:BD wr.heap.size wr w1:=by rw[cN];exact bN
   have k3:=cN▸aU.cell 3;have hGw:=hG.trans (Gr.ak bY);have hJw:=HJ.out _ _ _ hJi bY;have hsz:=hG.size;have Hmr:=lz (show m.rd w1 B from Gg.dn nL (λb o hb=>bY.cell (p:=⟨b,o,Ag⟩) (EU hb CP)));have aNt:B<=w1.heap.size:=nT CP bY.size;obtain⟨nb,uH⟩:=ez wr.heap.size;have aNu:∀k,X k->¬k=nb:=λk hx e=>by have:=qB.out k hx;have:=hsz;omega
   rw[<-uH]at aU;have gh:=lz aU;have lH:=lz cN;have hG':=lz hG;have IK:m.parts.l.length<=9223372036854775807:=nT Gg.zI (nT Gg.zJ dz);clear Gg aU cN bY hJi hG;gi_wp2;rw[<-lH.out,<-uH];clear uH;gi_loopw [20] (λt wr'=>∃j:Nat,j<=m.parts.l.length/\t= .int .i64 j/\J ((x.mods.l.take i).flatMap D7++(m.parts.l.take j).map λp=>(m,p)) wr'/\Gr X w1 wr'/\Gr X w wr') (λt wr'=>m.parts.l.length-(E8 t).toNat)
   case atStart=>exact⟨0,nZ,rfl,by simpa using hJw,Gr.refl _ _,hGw⟩
   case round=>
    clear hJw hGw k3 d0 d1 d2 d3;obtain⟨j,hj,rfl,hJj,sK,AX⟩:=hrel;have HW:=lz AX;by_cases aEp:j<m.parts.l.length
    .have hf:=HF.out _ AX
     have D8:=sK.blk gh.out (λhx=>aNu _ hx rfl);have aIb:=Hmr.out.dn nL (kN sK aNt (λk hk=>(hX k hk).2.2));obtain⟨b2,o2,hA2,dI,qc⟩:=aIb.parts oz;have Gh:=qc j aEp;have pE:=tV (λp=>(m,p)) aEp;have Mg:=WJ.out j aEp;have aUN:=hf.B;have aNv:=D8.lt;have e0:=D8.cell 0;have e1:=D8.cell 1;have e2:=D8.cell 2;have e3:=D8.cell 3;have hGb:∀v,Gr X w (wr.alloc (.cells v 71)):=λv=>AX.trans (Gr.alloc _ _ _)
     have hJb:∀v,J ((x.mods.l.take i).flatMap D7++(m.parts.l.take j).map λp=>(m,p)) (wr.alloc (.cells v 71)):=λv=>HJ.out _ _ _ hJj (bN)
     obtain⟨fn,tmps,assign,body,hy,hR⟩:=HY.out _ _ (wr.alloc (.cells #[.string m.parts.l[j].nm,.int .i64 m.parts.l[j].pe,.int .i64 m.parts.l[j].le,.int .i64 m.parts.l[j].mem,.slice m.parts.l[j].aG.a m.parts.l[j].aG.l.length m.parts.l[j].aG.c,.int .i64 m.parts.l[j].ev,.int .i64 m.parts.l[j].bo,.slice m.parts.l[j].aX.a m.parts.l[j].aX.l.length m.parts.l[j].aX.c,.slice m.parts.l[j].aq.a m.parts.l[j].aq.l.length m.parts.l[j].aq.c,.slice m.parts.l[j].procs.a m.parts.l[j].procs.l.length m.parts.l[j].procs.c] 71)) Mg (hGb _) (hJb _);have lg:=lz (show(x.mods.l.take i).flatMap D7++(m.parts.l.take (j+1)).map (λp=>(m,p))=(x.mods.l.take i).flatMap D7++(m.parts.l.take j).map (λp=>(m,p))++ [(m,m.parts.l[j])]by rw[pE,IZ]);have Hpr:=lz Mg;have Qe:=lz sK;clear Mg pE hJj sK AX hGb hJb hf qc aIb D8;dsimp only[II,bT.val,aC.val,Sl.val]at hy;rw[hA2]at *;generalize m.parts.l[j]=p at *;obtain⟨q0,q1,q2,q3,q4,q5,q6,q7,q8,q9,_⟩:=Gh;gi_wp2;refine hR.mono ?_;rintro e' W3 (⟨rfl,WK,wk⟩ | ⟨rfl,Gf⟩)
     .have HJ3:=lz WK
      have Qd:=lz wk;clear WK wk;gi_wp2;go_roundw
      case rel=>exact⟨j+1,oz,by go_num,by rw[lg.out];exact HJ3.out,(Qe.out.trans (Gr.alloc _ _ _)).trans Qd.out,(HW.out.trans (Gr.alloc _ _ _)).trans Qd.out⟩
      case measure=>simp[E8];omega
     .have WL:=lz Gf
      clear Gf;gi_wp2;refine GJ (results_none rfl _ _ _) rfl ?_;exact⟨⟨_,rfl⟩,.inr ⟨_,Hpr.out,WL.out⟩⟩
    .obtain rfl:j=m.parts.l.length:=by omega
     rw[GS]at hJj;have HJj:=lz (show J ((x.mods.l.take (i+1)).flatMap D7) wr by rw[aNs.out];exact hJj);clear hJj;gi_wp2;go_roundw
     case rel=>exact⟨i+1,oz,by go_num,HJj.out,HW.out⟩
     case measure=>simp[E8];omega
  .obtain rfl:i=x.mods.l.length:=by omega
   rw[GS]at hJi;have HJi:=lz (show J (fE x) wr from hJi);clear hJi;gi_wp2;go_end0;exact⟨⟨_,rfl⟩,.inl HJi.out⟩
theorem dG(lo hi m1:Int)(W:Al):ET pG 53 #[.int .i64 lo,.int .i64 hi,.slice (Ai ⟨W.heap.size,0,Ag⟩) 1 1] (W.alloc (.cells #[.int .i64 m1] 3)) λe w'=>e= .returned (.bool ([m1].all (dJ lo hi)))/\BD W.heap.size W w':=by
 refine(lY lo hi [m1] _ 1 (W.alloc (.cells #[.int .i64 m1] 3)) (iZ qz (λi hi=>by
  have uz:i=0:=by simp at hi;omega
  rw[E9];rcases uz with rfl<;>exact(ah.new W _ _).cell _)) qz).mono ?_
 rintro e w' ⟨rfl,hb⟩;exact⟨rfl,(bN).trans (hb.mono qz)⟩
theorem AY(lo hi m1 m2:Int)(W:Al):ET pG 53 #[.int .i64 lo,.int .i64 hi,.slice (Ai ⟨W.heap.size,0,Ag⟩) 2 2] (W.alloc (.cells #[.int .i64 m1,.int .i64 m2] 3)) λe w'=>e= .returned (.bool ([m1,m2].all (dJ lo hi)))/\BD W.heap.size W w':=by
 refine(lY lo hi [m1,m2] _ 2 (W.alloc (.cells #[.int .i64 m1,.int .i64 m2] 3)) (iZ qz (λi hi=>by
  have uz:i=0\/i=1:=by simp at hi;omega
  rw[E9];rcases uz with rfl | rfl<;>exact(ah.new W _ _).cell _)) qz).mono ?_
 rintro e w' ⟨rfl,hb⟩;exact⟨rfl,(bN).trans (hb.mono qz)⟩
theorem Ns(lo hi m1 m2 m3:Int)(W:Al):ET pG 53 #[.int .i64 lo,.int .i64 hi,.slice (Ai ⟨W.heap.size,0,Ag⟩) 3 3] (W.alloc (.cells #[.int .i64 m1,.int .i64 m2,.int .i64 m3] 3)) λe w'=>e= .returned (.bool ([m1,m2,m3].all (dJ lo hi)))/\BD W.heap.size W w':=by
 refine(lY lo hi [m1,m2,m3] _ 3 (W.alloc (.cells #[.int .i64 m1,.int .i64 m2,.int .i64 m3] 3)) (iZ qz (λi hi=>by
  have uz:i=0\/i=1\/i=2:=by simp at hi;omega
  rw[E9];rcases uz with rfl | rfl | rfl<;>exact(ah.new W _ _).cell _)) qz).mono ?_
 rintro e w' ⟨rfl,hb⟩;exact⟨rfl,(bN).trans (hb.mono qz)⟩
theorem Nt(lo hi m1 m2 m3 m4:Int)(W:Al):ET pG 53 #[.int .i64 lo,.int .i64 hi,.slice (Ai ⟨W.heap.size,0,Ag⟩) 4 4] (W.alloc (.cells #[.int .i64 m1,.int .i64 m2,.int .i64 m3,.int .i64 m4] 3)) λe w'=>e= .returned (.bool ([m1,m2,m3,m4].all (dJ lo hi)))/\BD W.heap.size W w':=by
 refine(lY lo hi [m1,m2,m3,m4] _ 4 (W.alloc (.cells #[.int .i64 m1,.int .i64 m2,.int .i64 m3,.int .i64 m4] 3)) (iZ qz (λi hi=>by
  have uz:i=0\/i=1\/i=2\/i=3:=by simp at hi;omega
  rw[E9];rcases uz with rfl | rfl | rfl | rfl<;>exact(ah.new W _ _).cell _)) qz).mono ?_
 rintro e w' ⟨rfl,hb⟩;exact⟨rfl,(bN).trans (hb.mono qz)⟩
def IL(x:cT):Bool:=(decide (x.pr<=255))&&(decide ((x.code.l.length:Int)<=24))
theorem Ue(x:cT)(w:Al)(hr:x.rd w w.heap.size):CU 54 #[x.val] w (.bool (IL x)):=by
 obtain⟨y0,dV,aV,Hf,jH,qU,kk⟩:=gJ w 76 #[.string x.nm,.int .i64 x.pr,.int .i64 x.pe,.int .i64 x.li,.slice x.code.a x.code.l.length x.code.c];obtain⟨k0,k1,k2,k3,k4⟩:=cT.kl kk;have HF:=lz (show IL x=((decide (x.pr<=255))&&(decide ((x.code.l.length:Int)<=24)))from rfl);have HR:=lz hr;clear kk hr;go_enter func54,ntmps54
 cases a1:decide (x.pr<=255)with
 | false=>
  rw[a1]at HF;exact e0
 | true=>
  rw[a1]at HF
  cases a2:decide ((x.code.l.length:Int)<=24)with
  | false=>
   rw[a2]at HF;have a22:decide (x.code.l.length<=24)=false:=by have:=of_decide_eq_false a2;exact dF oz
   exact e0
  | true=>
   rw[a2]at HF;have a22:decide (x.code.l.length<=24)=true:=by have:=of_decide_eq_true a2;exact dT oz
   exact e0
def vJ(x:iI):Bool:=(decide (x.dl<=1000))&&([x.st].all (dJ 1 65536))
theorem aBP(x:iI)(w:Al):CU 60 #[x.val] w (.bool (vJ x)):=by
 obtain⟨y0,dV,aV,Hf,jH,qU,kk⟩:=gJ w 87 #[.string x.nm,.int .i64 x.net,.int .i64 x.dl,.int .i64 x.st];obtain⟨k0,k1,k2,k3⟩:=iI.kl kk;have HF:=lz (show vJ x=((decide (x.dl<=1000))&&([x.st].all (dJ 1 65536)))from rfl);clear kk;go_enter func60,ntmps60
 cases a1:decide (x.dl<=1000)with
 | false=>
  rw[a1]at HF;exact e0
 | true=>
  rw[a1]at HF;go_wp2_with fail;rw[<-dV.out];have hc:=lz (dG 1 65536 (x.st) y0);generalize ([x.st].all (dJ 1 65536))=q2 at hc HF;rw[<-qU.out];refine bZ hc jH λy1 fI=> ?_
  clear hc;clear k0 k1 k2 k3;obtain⟨k0,k1,k2,k3⟩:=iI.kl (Hf.out _ fI.out);exact e1
def ou(x:aO):Bool:=([x.slow].all (dJ 1 16))
theorem Uf(x:aO)(w:Al):CU 61 #[x.val] w (.bool (ou x)):=by
 obtain⟨y0,dV,aV,Hf,jH,qU,kk⟩:=gJ w 46 #[.string x.a,.string x.b,.int .i64 x.net,.int .i64 x.slow];obtain⟨k0,k1,k2,k3⟩:=aO.kl kk;have HF:=lz (show ou x=(([x.slow].all (dJ 1 16)))from rfl);clear kk;go_enter func61,ntmps61;go_wp2_with fail;rw[<-dV.out];have hc:=lz (dG 1 16 (x.slow) y0);generalize ([x.slow].all (dJ 1 16))=q1 at hc HF;rw[<-qU.out];refine bZ hc jH λy1 fI=> ?_
 clear hc;clear k0 k1 k2 k3;obtain⟨k0,k1,k2,k3⟩:=aO.kl (Hf.out _ fI.out);exact e1
def rC(x:jI):Bool:=(decide (x.code<=255))
theorem WQ(x:jI)(w:Al):CU 62 #[x.val] w (.bool (rC x)):=by
 obtain⟨y0,dV,aV,Hf,jH,qU,kk⟩:=gJ w 85 #[.string x.unit,.int .i64 x.code];obtain⟨k0,k1⟩:=jI.kl kk;have HF:=lz (show rC x=((decide (x.code<=255)))from rfl);clear kk;go_enter func62,ntmps62
 cases a1:decide (x.code<=255)with
 | false=>
  rw[a1]at HF;exact e0
 | true=>
  rw[a1]at HF;exact e0
def D9(x:aM):Bool:=(x.kd==2||(x.out==(x.rf==0)))&&((x.kd==1|| [x.dp].all (dJ 1 16))&& [x.sz].all (dJ 1 64))
theorem Ug(x:aM)(w:Al)(hr:x.rd w w.heap.size):CU 52 #[x.val] w (.bool (D9 x)):=by
 obtain⟨y0,dV,aV,Hf,jH,qU,kk⟩:=gJ w 73 #[.string x.nm,.int .u8 x.kd,.bool x.out,.int .i64 x.sz,.int .i64 x.dp,.int .i64 x.rf];obtain⟨k0,k1,k2,k3,k4,k5⟩:=aM.kl kk;have HF:=lz (show D9 x=((x.kd==2||(x.out==(x.rf==0)))&&((x.kd==1|| [x.dp].all (dJ 1 16))&& [x.sz].all (dJ 1 64)))from rfl);have HR:=lz hr;clear kk hr;go_enter func52,ntmps52
 cases a1:(x.kd==2)with
 | false=>
  rw[a1]at HF
  cases a2:(x.rf==0)with
  | false=>
   rw[a2]at HF
   cases a3:x.out with
   | false=>
    rw[a3]at HF;rw[a3]at dV k0 k1 k2 k3 k4 k5
    cases a4:(x.kd==1)with
    | false=>
     rw[a4]at HF;go_wp2_with fail;rw[<-dV.out];have hc:=lz (dG 1 16 (x.dp) y0);generalize ([x.dp].all (dJ 1 16))=q5 at hc HF;rw[<-qU.out];refine bZ hc jH λy1 fI=> ?_
     clear hc;clear k0 k1 k2 k3 k4 k5;obtain⟨k0,k1,k2,k3,k4,k5⟩:=aM.kl (Hf.out _ fI.out)
     cases q5 with
     | false=>exact e1
     | true=>
      go_wp2_with fail;have hc:=lz (dG 1 64 (x.sz) y1);generalize ([x.sz].all (dJ 1 64))=q6 at hc HF;refine bZ hc fI λy2 iF=> ?_
      clear hc;clear k0 k1 k2 k3 k4 k5;obtain⟨k0,k1,k2,k3,k4,k5⟩:=aM.kl (Hf.out _ iF.out);exact e2
    | true=>
     rw[a4]at HF;go_wp2_with fail;rw[<-dV.out];have hc:=lz (dG 1 64 (x.sz) y0);generalize ([x.sz].all (dJ 1 64))=q7 at hc HF;rw[<-qU.out];refine bZ hc jH λy1 fI=> ?_
     clear hc;clear k0 k1 k2 k3 k4 k5;obtain⟨k0,k1,k2,k3,k4,k5⟩:=aM.kl (Hf.out _ fI.out);exact e1
   | true=>
    rw[a3]at HF;rw[a3]at dV k0 k1 k2 k3 k4 k5
    cases a8:(x.kd==1)with
    | false=>
     rw[a8]at HF;go_wp2_with fail;rw[<-dV.out];have hc:=lz (dG 1 16 (x.dp) y0);generalize ([x.dp].all (dJ 1 16))=q9 at hc HF;rw[<-qU.out];refine bZ hc jH λy1 fI=> ?_
     clear hc;clear k0 k1 k2 k3 k4 k5;obtain⟨k0,k1,k2,k3,k4,k5⟩:=aM.kl (Hf.out _ fI.out)
     cases q9 with
     | false=>exact e1
     | true=>exact e1
    | true=>
     rw[a8]at HF;exact e0
  | true=>
   rw[a2]at HF
   cases Qf:x.out with
   | false=>
    rw[Qf]at HF;rw[Qf]at dV k0 k1 k2 k3 k4 k5
    cases a11:(x.kd==1)with
    | false=>
     rw[a11]at HF;go_wp2_with fail;rw[<-dV.out];have hc:=lz (dG 1 16 (x.dp) y0);generalize ([x.dp].all (dJ 1 16))=q12 at hc HF;rw[<-qU.out];refine bZ hc jH λy1 fI=> ?_
     clear hc;clear k0 k1 k2 k3 k4 k5;obtain⟨k0,k1,k2,k3,k4,k5⟩:=aM.kl (Hf.out _ fI.out)
     cases q12 with
     | false=>exact e1
     | true=>exact e1
    | true=>
     rw[a11]at HF;exact e0
   | true=>
    rw[Qf]at HF;rw[Qf]at dV k0 k1 k2 k3 k4 k5
    cases a13:(x.kd==1)with
    | false=>
     rw[a13]at HF;go_wp2_with fail;rw[<-dV.out];have hc:=lz (dG 1 16 (x.dp) y0);generalize ([x.dp].all (dJ 1 16))=q14 at hc HF;rw[<-qU.out];refine bZ hc jH λy1 fI=> ?_
     clear hc;clear k0 k1 k2 k3 k4 k5;obtain⟨k0,k1,k2,k3,k4,k5⟩:=aM.kl (Hf.out _ fI.out)
     cases q14 with
     | false=>exact e1
     | true=>
      go_wp2_with fail;have hc:=lz (dG 1 64 (x.sz) y1);generalize ([x.sz].all (dJ 1 64))=q15 at hc HF;refine bZ hc fI λy2 iF=> ?_
      clear hc;clear k0 k1 k2 k3 k4 k5;obtain⟨k0,k1,k2,k3,k4,k5⟩:=aM.kl (Hf.out _ iF.out);exact e2
    | true=>
     rw[a13]at HF;go_wp2_with fail;rw[<-dV.out];have hc:=lz (dG 1 64 (x.sz) y0);generalize ([x.sz].all (dJ 1 64))=q16 at hc HF;rw[<-qU.out];refine bZ hc jH λy1 fI=> ?_
     clear hc;clear k0 k1 k2 k3 k4 k5;obtain⟨k0,k1,k2,k3,k4,k5⟩:=aM.kl (Hf.out _ fI.out);exact e1
 | true=>
  rw[a1]at HF;have HK2:=a1;have Cq:(x.kd==1)=false:=by have:=eq_of_beq HK2;rw[this];rfl
  rw[Cq]at HF;go_wp2_with fail;rw[<-dV.out];have hc:=lz (dG 1 16 (x.dp) y0);generalize ([x.dp].all (dJ 1 16))=q17 at hc HF;rw[<-qU.out];refine bZ hc jH λy1 fI=> ?_
  clear hc;clear k0 k1 k2 k3 k4 k5;obtain⟨k0,k1,k2,k3,k4,k5⟩:=aM.kl (Hf.out _ fI.out)
  cases q17 with
  | false=>exact e1
  | true=>
   go_wp2_with fail;have hc:=lz (dG 1 64 (x.sz) y1);generalize ([x.sz].all (dJ 1 64))=q18 at hc HF;refine bZ hc fI λy2 iF=> ?_
   clear hc;clear k0 k1 k2 k3 k4 k5;obtain⟨k0,k1,k2,k3,k4,k5⟩:=aM.kl (Hf.out _ iF.out);exact e2
def kP(x:aC):Bool:=([(x.aG.l.length:Int),(x.aX.l.length:Int),x.ev,x.bo].all (dJ 0 8))&&((x.aG.l.all (dJ 0 255))&&(x.aX.l.all (dJ 1 16))&&(decide ((x.procs.l.length:Int)<=6))&&(decide ((x.aq.l.length:Int)<=8)))&&(decide (x.mem<=4096))&&([x.pe,x.le].all (dJ 1 2000))&&(x.aq.l.all D9)&&(x.procs.l.all IL)
theorem Uh(x:aC)(Bp Bq:Nat)(w:Al)(hr:x.rd w w.heap.size)(Ea:ah w Bp 133 #[.func (.func 52) #[] #[]])(hBq:ah w Bq 134 #[.func (.func 54) #[] #[]]):CU 55 #[x.val,.pointer (Ai ⟨Bp,0,Ag⟩),.pointer (Ai ⟨Bq,0,Ag⟩)] w (.bool (kP x)):=by
 obtain⟨y0,dV,aV,Hf,jH,qU,kk⟩:=gJ w 71 #[.string x.nm,.int .i64 x.pe,.int .i64 x.le,.int .i64 x.mem,.slice x.aG.a x.aG.l.length x.aG.c,.int .i64 x.ev,.int .i64 x.bo,.slice x.aX.a x.aX.l.length x.aX.c,.slice x.aq.a x.aq.l.length x.aq.c,.slice x.procs.a x.procs.l.length x.procs.c];obtain⟨k0,k1,k2,k3,k4,k5,k6,k7,k8,k9⟩:=aC.kl kk;have Kx:=xX dV aV Ea;have lZ:=(Ea.alloc (.cells #[.string x.nm,.int .i64 x.pe,.int .i64 x.le,.int .i64 x.mem,.slice x.aG.a x.aG.l.length x.aG.c,.int .i64 x.ev,.int .i64 x.bo,.slice x.aX.a x.aX.l.length x.aX.c,.slice x.aq.a x.aq.l.length x.aq.c,.slice x.procs.a x.procs.l.length x.procs.c] 71)).cell 0;have aNx:=Ea.lt;have Nu:=xX dV aV hBq;have mO:=(hBq.alloc (.cells #[.string x.nm,.int .i64 x.pe,.int .i64 x.le,.int .i64 x.mem,.slice x.aG.a x.aG.l.length x.aG.c,.int .i64 x.ev,.int .i64 x.bo,.slice x.aX.a x.aX.l.length x.aX.c,.slice x.aq.a x.aq.l.length x.aq.c,.slice x.procs.a x.procs.l.length x.procs.c] 71)).cell 0;have aUT:=hBq.lt;have HF:=lz (show kP x=(([(x.aG.l.length:Int),(x.aX.l.length:Int),x.ev,x.bo].all (dJ 0 8))&&((x.aG.l.all (dJ 0 255))&&(x.aX.l.all (dJ 1 16))&&(decide ((x.procs.l.length:Int)<=6))&&(decide ((x.aq.l.length:Int)<=8)))&&(decide (x.mem<=4096))&&([x.pe,x.le].all (dJ 1 2000))&&(x.aq.l.all D9)&&(x.procs.l.all IL))from rfl);have HR:=lz hr;clear kk hr Ea hBq;go_enter func55,ntmps55;go_wp2_with fail;rw[<-dV.out];have hc:=lz (Nt 0 8 ((x.aG.l.length:Int)) ((x.aX.l.length:Int)) (x.ev) (x.bo) y0);generalize ([(x.aG.l.length:Int),(x.aX.l.length:Int),x.ev,x.bo].all (dJ 0 8))=q1 at hc HF;rw[<-qU.out];refine bZ hc jH λy1 fI=> ?_
 clear hc;clear k0 k1 k2 k3 k4 k5 k6 k7 k8 k9 lZ mO;obtain⟨k0,k1,k2,k3,k4,k5,k6,k7,k8,k9⟩:=aC.kl (Hf.out _ fI.out);have lZ:=(Kx.out _ fI.out).cell 0;have mO:=(Nu.out _ fI.out).cell 0
 cases q1 with
 | false=>
  go_wp2_with fail;have hc:=lz (lY 0 255 x.aG.l x.aG.a x.aG.c y1 ((HR.out.below (bt aV fI)).aG) (nT HR.out.Ks (nT HR.out.Kt dz)));generalize (x.aG.l.all (dJ 0 255))=q2 at hc HF;refine bZ hc fI λy2 iF=> ?_
  clear hc;clear k0 k1 k2 k3 k4 k5 k6 k7 k8 k9 lZ mO;obtain⟨k0,k1,k2,k3,k4,k5,k6,k7,k8,k9⟩:=aC.kl (Hf.out _ iF.out);have lZ:=(Kx.out _ iF.out).cell 0;have mO:=(Nu.out _ iF.out).cell 0
  cases q2 with
  | false=>exact e2
  | true=>
   go_wp2_with fail;have hc:=lz (lY 1 16 x.aX.l x.aX.a x.aX.c y2 ((HR.out.below (bt aV iF)).aX) (nT HR.out.R7 (nT HR.out.R8 dz)));generalize (x.aX.l.all (dJ 1 16))=q3 at hc HF;refine bZ hc iF λy3 pz=> ?_
   clear hc;clear k0 k1 k2 k3 k4 k5 k6 k7 k8 k9 lZ mO;obtain⟨k0,k1,k2,k3,k4,k5,k6,k7,k8,k9⟩:=aC.kl (Hf.out _ pz.out);have lZ:=(Kx.out _ pz.out).cell 0;have mO:=(Nu.out _ pz.out).cell 0
   cases q3 with
   | false=>exact e3
   | true=>
    cases a4:decide ((x.procs.l.length:Int)<=6)with
    | false=>
     rw[a4]at HF;have a42:decide (x.procs.l.length<=6)=false:=by have:=of_decide_eq_false a4;exact dF oz
     exact e3
    | true=>
     rw[a4]at HF;have a42:decide (x.procs.l.length<=6)=true:=by have:=of_decide_eq_true a4;exact dT oz
     cases a5:decide ((x.aq.l.length:Int)<=8)with
     | false=>
      rw[a5]at HF;have a52:decide (x.aq.l.length<=8)=false:=by have:=of_decide_eq_false a5;exact dF oz
      exact e3
     | true=>
      rw[a5]at HF;have a52:decide (x.aq.l.length<=8)=true:=by have:=of_decide_eq_true a5;exact dT oz
      exact e3
 | true=>
  go_wp2_with fail;have hc:=lz (lY 0 255 x.aG.l x.aG.a x.aG.c y1 ((HR.out.below (bt aV fI)).aG) (nT HR.out.Ks (nT HR.out.Kt dz)));generalize (x.aG.l.all (dJ 0 255))=q6 at hc HF;refine bZ hc fI λy2 iF=> ?_
  clear hc;clear k0 k1 k2 k3 k4 k5 k6 k7 k8 k9 lZ mO;obtain⟨k0,k1,k2,k3,k4,k5,k6,k7,k8,k9⟩:=aC.kl (Hf.out _ iF.out);have lZ:=(Kx.out _ iF.out).cell 0;have mO:=(Nu.out _ iF.out).cell 0
  cases q6 with
  | false=>exact e2
  | true=>
   go_wp2_with fail;have hc:=lz (lY 1 16 x.aX.l x.aX.a x.aX.c y2 ((HR.out.below (bt aV iF)).aX) (nT HR.out.R7 (nT HR.out.R8 dz)));generalize (x.aX.l.all (dJ 1 16))=q7 at hc HF;refine bZ hc iF λy3 pz=> ?_
   clear hc;clear k0 k1 k2 k3 k4 k5 k6 k7 k8 k9 lZ mO;obtain⟨k0,k1,k2,k3,k4,k5,k6,k7,k8,k9⟩:=aC.kl (Hf.out _ pz.out);have lZ:=(Kx.out _ pz.out).cell 0;have mO:=(Nu.out _ pz.out).cell 0
   cases q7 with
   | false=>exact e3
   | true=>
    cases a8:decide ((x.procs.l.length:Int)<=6)with
    | false=>
     rw[a8]at HF;have a82:decide (x.procs.l.length<=6)=false:=by have:=of_decide_eq_false a8;exact dF oz
     exact e3
    | true=>
     rw[a8]at HF;have a82:decide (x.procs.l.length<=6)=true:=by have:=of_decide_eq_true a8;exact dT oz
     cases a9:decide ((x.aq.l.length:Int)<=8)with
     | false=>
      rw[a9]at HF;have a92:decide (x.aq.l.length<=8)=false:=by have:=of_decide_eq_false a9;exact dF oz
      exact e3
     | true=>
      rw[a9]at HF;have a92:decide (x.aq.l.length<=8)=true:=by have:=of_decide_eq_true a9;exact dT oz
      cases Qf:decide (x.mem<=4096)with
      | false=>
       rw[Qf]at HF;exact e3
      | true=>
       rw[Qf]at HF;go_wp2_with fail;have hc:=lz (AY 1 2000 (x.pe) (x.le) y3);generalize ([x.pe,x.le].all (dJ 1 2000))=q11 at hc HF;refine bZ hc pz λy4 Fy=> ?_
       clear hc;clear k0 k1 k2 k3 k4 k5 k6 k7 k8 k9 lZ mO;obtain⟨k0,k1,k2,k3,k4,k5,k6,k7,k8,k9⟩:=aC.kl (Hf.out _ Fy.out);have lZ:=(Kx.out _ Fy.out).cell 0;have mO:=(Nu.out _ Fy.out).cell 0
       cases q11 with
       | false=>exact e4
       | true=>
        go_wp2_with fail;have hc:=lz (Tx 52 #[] D9 (Df func52 kz rfl) x.aq.l x.aq.a x.aq.c y4 (λW r hx hW fK=>by simpa using Ug r W fK) ((HR.out.below (bt aV Fy)).aq) (nT HR.out.DX (nT HR.out.DY dz)));generalize (x.aq.l.all D9)=q12 at hc HF;refine bZ hc Fy λy5 Md=> ?_
        clear hc;clear k0 k1 k2 k3 k4 k5 k6 k7 k8 k9 lZ mO;obtain⟨k0,k1,k2,k3,k4,k5,k6,k7,k8,k9⟩:=aC.kl (Hf.out _ Md.out);have lZ:=(Kx.out _ Md.out).cell 0;have mO:=(Nu.out _ Md.out).cell 0
        cases q12 with
        | false=>exact e5
        | true=>
         go_wp2_with fail;have hc:=lz (Iy 54 #[] IL (Df func54 kz rfl) x.procs.l x.procs.a x.procs.c y5 (λW r hx hW fK=>by simpa using Ue r W fK) ((HR.out.below (bt aV Md)).procs) (nT HR.out.zG (nT HR.out.zH dz)));generalize (x.procs.l.all IL)=q13 at hc HF;refine bZ hc Md λy6 WD=> ?_
         clear hc;clear k0 k1 k2 k3 k4 k5 k6 k7 k8 k9 lZ mO;obtain⟨k0,k1,k2,k3,k4,k5,k6,k7,k8,k9⟩:=aC.kl (Hf.out _ WD.out);have lZ:=(Kx.out _ WD.out).cell 0;have mO:=(Nu.out _ WD.out).cell 0;exact e6
def mZ(x:bT):Bool:=(decide (x.mem<=4096))&&([x.fr].all (dJ 1 2000))&&(decide ((x.parts.l.length:Int)<=6))&&(x.parts.l.all kP)
theorem WR(x:bT)(Bp Bq Ba:Nat)(w:Al)(hr:x.rd w w.heap.size)(hBa:ah w Ba 137 #[.func (.func 55) #[] #[.pointer (Ai ⟨Bp,0,Ag⟩),.pointer (Ai ⟨Bq,0,Ag⟩)]])(hp:∀W,BD w.heap.size w W->ah W Bp 133 #[.func (.func 52) #[] #[]])(hq:∀W,BD w.heap.size w W->ah W Bq 134 #[.func (.func 54) #[] #[]]):CU 58 #[x.val,.pointer (Ai ⟨Ba,0,Ag⟩)] w (.bool (mZ x)):=by
 obtain⟨y0,dV,aV,Hf,jH,qU,kk⟩:=gJ w 67 #[.string x.nm,.int .i64 x.mem,.int .i64 x.fr,.slice x.parts.a x.parts.l.length x.parts.c];obtain⟨k0,k1,k2,k3⟩:=bT.kl kk;have aIc:=xX dV aV hBa;have Sc:=(hBa.alloc (.cells #[.string x.nm,.int .i64 x.mem,.int .i64 x.fr,.slice x.parts.a x.parts.l.length x.parts.c] 67)).cell 0;have aUY:=hBa.lt;have HF:=lz (show mZ x=((decide (x.mem<=4096))&&([x.fr].all (dJ 1 2000))&&(decide ((x.parts.l.length:Int)<=6))&&(x.parts.l.all kP))from rfl);have HR:=lz hr;have HP:=lz hp;have HQ:=lz hq;clear kk hr hp hq hBa;go_enter func58,ntmps58
 cases a1:decide (x.mem<=4096)with
 | false=>
  rw[a1]at HF;exact e0
 | true=>
  rw[a1]at HF;go_wp2_with fail;rw[<-dV.out];have hc:=lz (dG 1 2000 (x.fr) y0);generalize ([x.fr].all (dJ 1 2000))=q2 at hc HF;rw[<-qU.out];refine bZ hc jH λy1 fI=> ?_
  clear hc;clear k0 k1 k2 k3 Sc;obtain⟨k0,k1,k2,k3⟩:=bT.kl (Hf.out _ fI.out);have Sc:=(aIc.out _ fI.out).cell 0
  cases q2 with
  | false=>exact e1
  | true=>
   cases a3:decide ((x.parts.l.length:Int)<=6)with
   | false=>
    rw[a3]at HF;have a32:decide (x.parts.l.length<=6)=false:=by have:=of_decide_eq_false a3;exact dF oz
    exact e1
   | true=>
    rw[a3]at HF;have a32:decide (x.parts.l.length<=6)=true:=by have:=of_decide_eq_true a3;exact dT oz
    go_wp2_with fail;have hc:=lz (Tz 55 #[.pointer (Ai ⟨Bp,0,Ag⟩),.pointer (Ai ⟨Bq,0,Ag⟩)] kP (Df func55 kz rfl) x.parts.l x.parts.a x.parts.c y1 (λW r hx hW fK=>by simpa using Uh r Bp Bq W fK (HP.out W ((bt aV fI).trans (hW.mono (bt aV fI).size))) (HQ.out W ((bt aV fI).trans (hW.mono (bt aV fI).size)))) ((HR.out.below (bt aV fI)).parts) (nT HR.out.zI (nT HR.out.zJ dz)));generalize (x.parts.l.all kP)=q4 at hc HF;refine bZ hc fI λy2 iF=> ?_
    clear hc;clear k0 k1 k2 k3 Sc;obtain⟨k0,k1,k2,k3⟩:=bT.kl (Hf.out _ iF.out);have Sc:=(aIc.out _ iF.out).cell 0;exact e2
