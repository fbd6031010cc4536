import Derived.Deep.DeepCutAuto
import Derived.Test.YtmdgooofdmpcjaaGreatDoorY11
set_option maxRecDepth 100000
set_option maxHeartbeats 8000000
set_option linter.unusedSimpArgs false
set_option linter.unusedVariables false
set_option linter.unusedSectionVars false
open Go.Proofs.Tryz renaming prog → pG
open Bool renaming false->Bj,true->BR
open List renaming getElem?_eq_getElem->EN,range->EO
open Option renaming none->Ag,some->Ai
open Go.Proofs.Tryz
namespace Go.Proofs.YtmdgooofdmpcjaaGreatDoor
open Go renaming Calls->ET,Value->Bn,World->Al,bodyPost_ret->GJ,callFunc->EZ,undef->BA,wpQuiet_nil->E5
open Go.Proofs renaming enters_of->Df
open IntWalk renaming i64_in->Ih
open RowKit renaming Below->BD,intOf->E8
open World renaming block_lt_of_cell?->G4,size_alloc->Dj
section
open Go.ChangeShapes Go.WideShapes Go.ChangeAt Go.RowKit
attribute [local go_sem] Oper.semAt_some
def iM(x:ay)(s:ByteArray):Int:=cV (λy:bT=>seqB y.nm s) x.mods.l
def sj(l:List aC)(s:ByteArray):Int:=cV (λy:aC=>seqB y.nm s) l
def Qw(l:List aM)(s:ByteArray):Int:=cV (λy:aM=>seqB y.nm s) l
def fN(x:ay)(m:Int):List aC:=((x.mods.l[m.toNat]?).map (·.parts.l)).getD []
def jQ(l:List aC)(p:Int):List aM:=((l[p.toNat]?).map (·.aq.l)).getD []
def oy:Int×Int×Int:=(-1,-1,-1)
def mQ(x:ay)(r:bw):Int×Int×Int:=
 if iM x r.m>=0 then
  if sj (fN x (iM x r.m)) r.p>=0 then
   if Qw (jQ (fN x (iM x r.m)) (sj (fN x (iM x r.m)) r.p)) r.o>=0 then(iM x r.m,sj (fN x (iM x r.m)) r.p,Qw (jQ (fN x (iM x r.m)) (sj (fN x (iM x r.m)) r.p)) r.o)
   else oy
  else oy
 else oy
abbrev trip(t:Int×Int×Int):Value:= .tuple #[.int .i64 t.1,.int .i64 t.2.1,.int .i64 t.2.2]
theorem tv{x:ay}{k:Nat}(h:k<x.mods.l.length):fN x (k:Int)=x.mods.l[k].parts.l:=by
 unfold fN;simp[EN h]
theorem tA{l:List aC}{k:Nat}(h:k<l.length):jQ l (k:Int)=l[k].aq.l:=by
 unfold jQ;simp[EN h]
theorem tB{i:Int}{n:Nat}(h0:i>=0)(h1:i<n):∃k:Nat,i=(k:Int)/\k<n:=⟨i.toNat,oz,oz⟩
theorem aFE(x:ay)(r:bw)(w:Al)(hr:x.rd w w.heap.size):CU 168 #[x.val,r.val] w (trip (mQ x r)):=by
 obtain⟨y0,bR⟩:=ez ((w.alloc (.cells #[.slice x.mods.a x.mods.l.length x.mods.c,.slice x.aj.a x.aj.l.length x.aj.c,.slice x.aP.a x.aP.l.length x.aP.c,.slice x.links.a x.links.l.length x.links.c,.slice x.aF.a x.aF.l.length x.aF.c,.slice x.bQ.a x.bQ.l.length x.bQ.c,.slice x.causes.a x.causes.l.length x.causes.c,.slice x.aA.a x.aA.l.length x.aA.c] 31)).alloc (.cells #[.string r.m,.string r.p,.string r.o] 41));have bW:BD w.heap.size w y0:=by rw[bR];exact(bN).alloc qz _
 have bS:ah y0 w.heap.size 31 #[.slice x.mods.a x.mods.l.length x.mods.c,.slice x.aj.a x.aj.l.length x.aj.c,.slice x.aP.a x.aP.l.length x.aP.c,.slice x.links.a x.links.l.length x.links.c,.slice x.aF.a x.aF.l.length x.aF.c,.slice x.bQ.a x.bQ.l.length x.bQ.c,.slice x.causes.a x.causes.l.length x.causes.c,.slice x.aA.a x.aA.l.length x.aA.c]:=by rw[bR];exact(ah.new w _ _).alloc _
 have aU:ah y0 (w.heap.size+1) 41 #[.string r.m,.string r.p,.string r.o]:=by rw[bR];have:=ah.new (w.alloc (.cells #[.slice x.mods.a x.mods.l.length x.mods.c,.slice x.aj.a x.aj.l.length x.aj.c,.slice x.aP.a x.aP.l.length x.aP.c,.slice x.links.a x.links.l.length x.links.c,.slice x.aF.a x.aF.l.length x.aF.c,.slice x.bQ.a x.bQ.l.length x.bQ.c,.slice x.causes.a x.causes.l.length x.causes.c,.slice x.aA.a x.aA.l.length x.aA.c] 31)) 41 #[.string r.m,.string r.p,.string r.o];rwa[Dj]at this
 have jy:=hr.below bW;have IK:x.mods.l.length<=9223372036854775807:=nT hr.AU (nT hr.AV dz);have h1:=mY r.m x.mods.l x.mods.a x.mods.c y0 jy.mods IK;have hlt:=kO (λy:bT=>seqB y.nm r.m) x.mods.l;obtain⟨n,hn⟩:=ez (mQ x r);rw[show mQ x r=n from hn.symm];have HN:Hid (n=if iM x r.m>=0 then
  if sj (fN x (iM x r.m)) r.p>=0 then
   if Qw (jQ (fN x (iM x r.m)) (sj (fN x (iM x r.m)) r.p)) r.o>=0 then(iM x r.m,sj (fN x (iM x r.m)) r.p,Qw (jQ (fN x (iM x r.m)) (sj (fN x (iM x r.m)) r.p)) r.o)
   else oy
  else oy
 else oy):=lz (by rw[hn];rfl)
 clear hn;obtain⟨i,hi⟩:=ez (iM x r.m);rw[show cV (λy:bT=>seqB y.nm r.m) x.mods.l=iM x r.m from rfl,<-hi]at h1 hlt;rw[<-hi]at HN;have hf:∀W,BD y0.heap.size y0 W->ah W w.heap.size 31 #[.slice x.mods.a x.mods.l.length x.mods.c,.slice x.aj.a x.aj.l.length x.aj.c,.slice x.aP.a x.aP.l.length x.aP.c,.slice x.links.a x.links.l.length x.links.c,.slice x.aF.a x.aF.l.length x.aF.c,.slice x.bQ.a x.bQ.l.length x.bQ.c,.slice x.causes.a x.causes.l.length x.causes.c,.slice x.aA.a x.aA.l.length x.aA.c]/\ah W (w.heap.size+1) 41 #[.string r.m,.string r.p,.string r.o]/\x.rd W W.heap.size:=λW hW=>⟨bS.below hW bS.lt,aU.below hW aU.lt,jy.below hW⟩
 have k0:=bR▸bS.cell 0;have r0:=bR▸aU.cell 0;have H1:=lz h1;have Hf:=lz hf;have aV:=lz bW;have dV:=lz bR;clear h1 hf bW bR bS aU jy hr hi;go_enter func168,ntmps168;go_wp2_with fail;rw[<-dV.out];refine H1.out.mono ?_;rintro e y1 ⟨rfl,aU⟩;have fI:=lz aU;clear aU k0 r0 H1;by_cases h0:i>=0;rotate_left
 .have d0:decide (i>=0)=false:=dF h0
  have tg:=lz (show n=oy by rw[HN.out,if_neg h0]);clear HN Hf;go_wp2_with fail;go_ret3;exact⟨by rw[tg.out];rfl,aV.out.trans (fI.out.mono aV.out.size)⟩
 .obtain⟨k,rfl,hk⟩:=tB h0 hlt
  have d0:decide ((k:Int)>=0)=true:=dT h0;have Wq:(k:Int)<(x.mods.l.length:Int):=hlt;obtain⟨hc1,qc,hr1⟩:=Hf.out y1 fI.out;obtain⟨b,o,hA,hb,hc⟩:=hr1.mods oz;obtain⟨d1,d2,d3,d4,Gg⟩:=hc k hk;have k0:=hc1.cell 0;have q1:=qc.cell 1;have aOO:=hc1.lt;have Xz:=qc.lt;have hpl:x.mods.l[k].parts.l.length<=9223372036854775807:=nT Gg.zI (nT Gg.zJ dz);have au:∀z:Ext y1,CU 241 #[.slice x.mods.l[k].parts.a x.mods.l[k].parts.l.length x.mods.l[k].parts.c,.func (.func 72) #[] #[],.string r.p] z.w (.int .i64 (sj x.mods.l[k].parts.l r.p)):=λz=>
   Qa r.p _ _ _ z.w ((Gg.below z.h).parts) hpl
  have sF:=kO (λy:aC=>seqB y.nm r.p) x.mods.l[k].parts.l;rw[show cV (λy:aC=>seqB y.nm r.p) x.mods.l[k].parts.l=sj x.mods.l[k].parts.l r.p from rfl]at sF;rw[tv hk]at HN;have tg:=lz (show n=_ by rw[HN.out,if_pos h0]);have aI9:∀W,BD y1.heap.size y1 W->x.mods.l[k].rd W W.heap.size:=λW hW=>Gg.below hW
  have je:∀W,BD y1.heap.size y1 W->W.cell? ⟨b,o+k*4+3,Ag⟩=Ai (.slice x.mods.l[k].parts.a x.mods.l[k].parts.l.length x.mods.l[k].parts.c):=λW hW=>(hW.cell (p:=⟨b,o+k*4+3,Ag⟩) (G4 _ _ d4)).trans d4
  have ji:=lz je;have Hmr:=lz aI9;have aN:=lz au;clear HN hc hr1 Gg au aI9 je hc1 qc;rw[hA]at k0;obtain⟨m,hm⟩:=ez (x.mods.l[k]);rw[<-hm]at d1 d2 d3 d4 aN sF hpl tg Hmr ji;clear hm;obtain⟨j,hj⟩:=ez (sj m.parts.l r.p);rw[<-hj]at aN sF tg;clear hj;have iR:=bn y1;go_wp2_with fail;refine aB kz kz ?_;repeat (go_big_quiet_step ((go_at_call 241;with_reducible exact dN (aN.out _))))
  refine E5 ?_;intro _ hw';obtain⟨xx,hw''⟩:=hw';subst hw'';have HX:=lz xx.h;have iF:=lz (fI.out.trans (xx.h.mono fI.out.size));clear iR aN k0 q1 d1 d2 d3 d4;generalize xx.w=y2 at *;by_cases h2:j>=0;rotate_left
  .have d2:decide (j>=0)=false:=dF h2
   have Pf:=lz (show n=oy by rw[tg.out,if_neg h2]);clear tg Hf;go_wp2_with fail;go_ret3;exact⟨by rw[Pf.out];rfl,aV.out.trans (iF.out.mono aV.out.size)⟩
  .obtain⟨l,rfl,hl⟩:=tB h2 sF
   have d2:decide ((l:Int)>=0)=true:=dT h2;have uz:(l:Int)<(m.parts.l.length:Int):=sF;obtain⟨hc1,qc,hr1⟩:=Hf.out y2 iF.out;have c4:=ji.out y2 HX.out;obtain⟨b2,o2,hA2,dI,Us⟩:=(Hmr.out y2 HX.out).parts oz;obtain⟨e0,e1,e2,e3,e4,e5,e6,e7,e8,e9,Mg⟩:=Us l hl;have k0:y2.cell? ⟨w.heap.size,0,Ag⟩=Ai (.slice (Ai ⟨b,o,Ag⟩) x.mods.l.length x.mods.c):=by have:=hc1.cell 0;rw[hA]at this;exact this
   have q2:=qc.cell 2;have aOO:=hc1.lt;have Xz:=qc.lt;have gP:=G4 _ _ c4;have hol:m.parts.l[l].aq.l.length<=9223372036854775807:=nT Mg.DX (nT Mg.DY dz);have au:∀z:Ext y2,CU 242 #[.slice m.parts.l[l].aq.a m.parts.l[l].aq.l.length m.parts.l[l].aq.c,.func (.func 74) #[] #[],.string r.o] z.w (.int .i64 (Qw m.parts.l[l].aq.l r.o)):=λz=>
    Qb r.o _ _ _ z.w ((Mg.below z.h).aq) hol
   rw[tA hl]at tg;have Pf:=lz (show n=_ by rw[tg.out,if_pos h2]);have aN:=lz au;clear tg Us hr1 Mg au hc1 qc;rw[hA2]at c4;obtain⟨p,hp⟩:=ez (m.parts.l[l]);rw[<-hp]at e0 e1 e2 e3 e4 e5 e6 e7 e8 e9 aN Pf hol;clear hp;obtain⟨u,hu⟩:=ez (Qw p.aq.l r.o);rw[<-hu]at aN Pf;clear hu;have iR:=bn y2;go_wp2_with fail;refine aB kz kz ?_;repeat (go_big_quiet_step ((go_at_call 242;with_reducible exact dN (aN.out _))))
   refine E5 ?_;intro _ hw';obtain⟨xx,hw''⟩:=hw';subst hw'';have pz:=lz (iF.out.trans (xx.h.mono iF.out.size));clear iR aN k0 q2 e0 e1 e2 e3 e4 e5 e6 e7 e8 e9 c4;generalize xx.w=y3 at *;by_cases h3:u>=0
   .have d3:decide (u>=0)=true:=dT h3
    have HN4:=lz (show n=((k:Int),(l:Int),u)by rw[Pf.out,if_pos h3]);clear Pf Hf;go_wp2_with fail;go_ret3;exact⟨by rw[HN4.out]<;>rfl,aV.out.trans (pz.out.mono aV.out.size)⟩
   .have d3:decide (u>=0)=false:=dF h3
    have HN4:=lz (show n=oy by rw[Pf.out,if_neg h3]);clear Pf Hf;go_wp2_with fail;go_ret3;exact⟨by rw[HN4.out];rfl,aV.out.trans (pz.out.mono aV.out.size)⟩
def mg:aM:=⟨⟨#[]⟩,0,Bj,0,0,0⟩
def fD(x:ay)(r:bw):aM×Int:=
 if (mQ x r).1<0 then(mg,-1)
 else(((jQ (fN x (mQ x r).1) (mQ x r).2.1)[(mQ x r).2.2.toNat]?).getD mg,(mQ x r).1)
theorem Qx(x:ay)(r:bw):mQ x r=oy\/∃(k l u:Nat) (hk:k<x.mods.l.length) (hl:l<x.mods.l[k].parts.l.length),u<x.mods.l[k].parts.l[l].aq.l.length/\mQ x r=((k:Int),(l:Int),(u:Int)):=by
 unfold mQ;split
 .rename_i h0
  obtain⟨k,hk,rZ⟩:=tB h0 (kO (λy:bT=>seqB y.nm r.m) x.mods.l);rw[show iM x r.m=(k:Int)from hk,tv rZ];split
  .rename_i h1
   obtain⟨l,hl,Cb⟩:=tB h1 (kO (λy:aC=>seqB y.nm r.p) x.mods.l[k].parts.l);rw[show sj x.mods.l[k].parts.l r.p=(l:Int)from hl,tA Cb];split
   .rename_i h2
    obtain⟨u,hu,hu2⟩:=tB h2 (kO (λy:aM=>seqB y.nm r.o) x.mods.l[k].parts.l[l].aq.l);exact .inr ⟨k,l,u,rZ,Cb,hu2,by rw[show Qw x.mods.l[k].parts.l[l].aq.l r.o=(u:Int)from hu]⟩
   .exact .inl rfl
  .exact .inl rfl
 .exact .inl rfl
theorem KR(x:ay)(r:bw)(g:Nat)(w:Al)(hg:tU w g x)(hr:x.rd w w.heap.size):CU 87 #[.pointer (Ai ⟨g,0,Ag⟩),r.val] w (.tuple #[(fD x r).1.val,.int .i64 (fD x r).2]):=by
 obtain⟨y0,bR⟩:=ez ((w.alloc (.cells #[.string r.m,.string r.p,.string r.o] 41)).alloc (.cells #[.string ⟨#[]⟩,.int .u8 0,.bool Bj,.int .i64 0,.int .i64 0,.int .i64 0] 73));have bW:BD w.heap.size w y0:=by rw[bR];exact(bN).alloc qz _
 have bS:ah y0 w.heap.size 41 #[.string r.m,.string r.p,.string r.o]:=by rw[bR];exact(ah.new w _ _).alloc _
 have aU:ah y0 (w.heap.size+1) 73 #[.string ⟨#[]⟩,.int .u8 0,.bool Bj,.int .i64 0,.int .i64 0,.int .i64 0]:=by rw[bR];have:=ah.new (w.alloc (.cells #[.string r.m,.string r.p,.string r.o] 41)) 73 #[.string ⟨#[]⟩,.int .u8 0,.bool Bj,.int .i64 0,.int .i64 0,.int .i64 0];rwa[Dj]at this
 have hg0:=hg.below bW;have jy:=hr.below bW;obtain⟨n,hn⟩:=ez (mQ x r);have XA:=Qx x r;rw[<-hn]at XA;have au:∀z:Ext y0,CU 168 #[.agg #[.slice x.mods.a x.mods.l.length x.mods.c,.slice x.aj.a x.aj.l.length x.aj.c,.slice x.aP.a x.aP.l.length x.aP.c,.slice x.links.a x.links.l.length x.links.c,.slice x.aF.a x.aF.l.length x.aF.c,.slice x.bQ.a x.bQ.l.length x.bQ.c,.slice x.causes.a x.causes.l.length x.causes.c,.slice x.aA.a x.aA.l.length x.aA.c],.agg #[.string r.m,.string r.p,.string r.o]] z.w (trip n):=λz=>by rw[hn];exact aFE x r z.w (jy.below z.h)
 have HN:=lz (show fD x r=if n.1<0 then(mg,-1)else(((jQ (fN x n.1) n.2.1)[n.2.2.toNat]?).getD mg,n.1)by rw[hn];rfl);obtain⟨v,hv⟩:=ez (fD x r);rw[<-hv]at HN ⊢;have iR:=bn y0;have hl0:=bS.lt;have DL:=aU.lt;have Cb:=ah.lt hg0;have k0:=hg0.cell 0;have k1:=hg0.cell 1;have k2:=hg0.cell 2;have k3:=hg0.cell 3;have k4:=hg0.cell 4;have k5:=hg0.cell 5;have k6:=hg0.cell 6;have k7:=hg0.cell 7;have r0:=bS.cell 0;have r1:=bS.cell 1;have r2:=bS.cell 2;have hf:∀W,BD y0.heap.size y0 W->tU W g x/\x.rd W W.heap.size/\ah W (w.heap.size+1) 73 _:=λW hW=>⟨hg0.below hW,jy.below hW,aU.below hW aU.lt⟩
 have Hf:=lz hf;have aN:=lz au;have aV:=lz bW;have dV:=lz bR;have XB:=lz XA;clear au hf bW bR bS aU hg0 jy hr hg hn hv XA;go_enter func87,ntmps87;go_wp2_with fail;rw[<-dV.out];refine aB kz kz ?_;repeat (go_big_quiet_step ((go_at_call 168;with_reducible exact dN (aN.out _))))
 refine E5 ?_;intro _ hw';obtain⟨xx,hw''⟩:=hw';subst hw'';have fI:=lz xx.h;clear iR aN k0 k1 k2 k3 k4 k5 k6 k7 r0 r1 r2;generalize xx.w=y1 at *;obtain⟨hg1,hr1,hz1⟩:=Hf.out y1 fI.out;have hzl:=hz1.lt;have z0:=hz1.cell 0;have zf0:=hz1.frozen 0;have z1:=hz1.cell 1;have zf1:=hz1.frozen 1;have z2:=hz1.cell 2;have zf2:=hz1.frozen 2;have z3:=hz1.cell 3;have zf3:=hz1.frozen 3;have z4:=hz1.cell 4;have zf4:=hz1.frozen 4;have z5:=hz1.cell 5;have zf5:=hz1.frozen 5;have Hz1:=lz hz1;rcases XB.out with jT | ⟨k,l,u,hk,hl,hu,iw⟩
 .subst jT
  dsimp only[oy];have tg:=lz (show v=(mg,-1)by rw[HN.out];rfl);clear HN XB hg1 hr1 hz1;go_wp2_with fail;have s0:ah (y1.setCell ⟨w.heap.size+1,0,Ag⟩ (.string ⟨#[]⟩)) (w.heap.size+1) 73 #[.string ⟨#[]⟩,.int .u8 0,.bool Bj,.int .i64 0,.int .i64 0,.int .i64 0]:=by simpa using Hz1.out.bX 0 (.string ⟨#[]⟩)
  have s1:ah ((y1.setCell ⟨w.heap.size+1,0,Ag⟩ (.string ⟨#[]⟩)).setCell ⟨w.heap.size+1,1,Ag⟩ (.int .u8 0)) (w.heap.size+1) 73 #[.string ⟨#[]⟩,.int .u8 0,.bool Bj,.int .i64 0,.int .i64 0,.int .i64 0]:=by simpa using s0.bX 1 (.int .u8 0)
  have s2:ah (((y1.setCell ⟨w.heap.size+1,0,Ag⟩ (.string ⟨#[]⟩)).setCell ⟨w.heap.size+1,1,Ag⟩ (.int .u8 0)).setCell ⟨w.heap.size+1,2,Ag⟩ (.bool Bj)) (w.heap.size+1) 73 #[.string ⟨#[]⟩,.int .u8 0,.bool Bj,.int .i64 0,.int .i64 0,.int .i64 0]:=by simpa using s1.bX 2 (.bool Bj)
  have s3:ah ((((y1.setCell ⟨w.heap.size+1,0,Ag⟩ (.string ⟨#[]⟩)).setCell ⟨w.heap.size+1,1,Ag⟩ (.int .u8 0)).setCell ⟨w.heap.size+1,2,Ag⟩ (.bool Bj)).setCell ⟨w.heap.size+1,3,Ag⟩ (.int .i64 0)) (w.heap.size+1) 73 #[.string ⟨#[]⟩,.int .u8 0,.bool Bj,.int .i64 0,.int .i64 0,.int .i64 0]:=by simpa using s2.bX 3 (.int .i64 0)
  have s4:ah (((((y1.setCell ⟨w.heap.size+1,0,Ag⟩ (.string ⟨#[]⟩)).setCell ⟨w.heap.size+1,1,Ag⟩ (.int .u8 0)).setCell ⟨w.heap.size+1,2,Ag⟩ (.bool Bj)).setCell ⟨w.heap.size+1,3,Ag⟩ (.int .i64 0)).setCell ⟨w.heap.size+1,4,Ag⟩ (.int .i64 0)) (w.heap.size+1) 73 #[.string ⟨#[]⟩,.int .u8 0,.bool Bj,.int .i64 0,.int .i64 0,.int .i64 0]:=by simpa using s3.bX 4 (.int .i64 0)
  have s5:ah ((((((y1.setCell ⟨w.heap.size+1,0,Ag⟩ (.string ⟨#[]⟩)).setCell ⟨w.heap.size+1,1,Ag⟩ (.int .u8 0)).setCell ⟨w.heap.size+1,2,Ag⟩ (.bool Bj)).setCell ⟨w.heap.size+1,3,Ag⟩ (.int .i64 0)).setCell ⟨w.heap.size+1,4,Ag⟩ (.int .i64 0)).setCell ⟨w.heap.size+1,5,Ag⟩ (.int .i64 0)) (w.heap.size+1) 73 #[.string ⟨#[]⟩,.int .u8 0,.bool Bj,.int .i64 0,.int .i64 0,.int .i64 0]:=by simpa using s4.bX 5 (.int .i64 0)
  have yU:BD w.heap.size w ((((((y1.setCell ⟨w.heap.size+1,0,Ag⟩ (.string ⟨#[]⟩)).setCell ⟨w.heap.size+1,1,Ag⟩ (.int .u8 0)).setCell ⟨w.heap.size+1,2,Ag⟩ (.bool Bj)).setCell ⟨w.heap.size+1,3,Ag⟩ (.int .i64 0)).setCell ⟨w.heap.size+1,4,Ag⟩ (.int .i64 0)).setCell ⟨w.heap.size+1,5,Ag⟩ (.int .i64 0)):=(((((((aV.out.trans (fI.out.mono aV.out.size)).setCell (p:=⟨w.heap.size+1,0,Ag⟩) (by show w.heap.size<=w.heap.size+1;omega) _).setCell (p:=⟨w.heap.size+1,1,Ag⟩) (by show w.heap.size<=w.heap.size+1;omega) _).setCell (p:=⟨w.heap.size+1,2,Ag⟩) (by show w.heap.size<=w.heap.size+1;omega) _).setCell (p:=⟨w.heap.size+1,3,Ag⟩) (by show w.heap.size<=w.heap.size+1;omega) _).setCell (p:=⟨w.heap.size+1,4,Ag⟩) (by show w.heap.size<=w.heap.size+1;omega) _).setCell (p:=⟨w.heap.size+1,5,Ag⟩) (by show w.heap.size<=w.heap.size+1;omega) _);obtain⟨W6,J5⟩:=ez (((((((y1.setCell ⟨w.heap.size+1,0,Ag⟩ (.string ⟨#[]⟩)).setCell ⟨w.heap.size+1,1,Ag⟩ (.int .u8 0)).setCell ⟨w.heap.size+1,2,Ag⟩ (.bool Bj)).setCell ⟨w.heap.size+1,3,Ag⟩ (.int .i64 0)).setCell ⟨w.heap.size+1,4,Ag⟩ (.int .i64 0)).setCell ⟨w.heap.size+1,5,Ag⟩ (.int .i64 0)));rw[<-J5]at s5 yU;have c0:=s5.cell 0;have c1:=s5.cell 1;have c2:=s5.cell 2;have c3:=s5.cell 3;have c4:=s5.cell 4;have c5:=s5.cell 5;rw[<-J5];refine GJ (v:= .tuple #[mg.val,.int .i64 (-1)]) (by simp[results,f87,go_sem,c0,c1,c2,c3,c4,c5,mg]) rfl ?_;exact⟨by rw[tg.out],yU⟩
 .subst iw
  have h0:¬((k:Int)<0):=by omega
  have d0:decide ((k:Int)<0)=false:=dF h0;have tg:=lz (show v=(x.mods.l[k].parts.l[l].aq.l[u],(k:Int))by
   rw[HN.out];show(if ((k:Int))<0 then _ else _)=_;rw[if_neg h0];show(((jQ (fN x (k:Int)) (l:Int))[((u:Int)).toNat]?).getD mg,(k:Int))=_;rw[tv hk,tA hl,Int.toNat_natCast,EN hu];rfl)
  clear HN XB;obtain⟨b,o,hA,hb,hc⟩:=hr1.mods oz;obtain⟨d1,d2,d3,d4,Gg⟩:=hc k hk;obtain⟨b2,o2,hA2,dI,qc⟩:=Gg.parts oz;obtain⟨e0,e1,e2,e3,e4,e5,e6,e7,e8,e9,Mg⟩:=qc l hl;obtain⟨b3,o3,hA3,kq,hc3⟩:=Mg.aq oz;obtain⟨f0,f1,f2,f3,f4,f5,_⟩:=hc3 u hu;have g0:y1.cell? ⟨g,0,Ag⟩=Ai (.slice (Ai ⟨b,o,Ag⟩) x.mods.l.length x.mods.c):=by have:=hg1.cell 0;rw[hA]at this;exact this
  replace d4:y1.cell? ⟨b,o+k*4+3,Ag⟩=Ai (.slice (Ai ⟨b2,o2,Ag⟩) x.mods.l[k].parts.l.length x.mods.l[k].parts.c):=by rw[<-hA2];exact d4
  replace e8:y1.cell? ⟨b2,o2+l*10+8,Ag⟩=Ai (.slice (Ai ⟨b3,o3,Ag⟩) x.mods.l[k].parts.l[l].aq.l.length x.mods.l[k].parts.l[l].aq.c):=by rw[<-hA3];exact e8
  have i0:(0:Int)<=(k:Int):=by omega
  have i1:(k:Int)<(x.mods.l.length:Int):=by omega
  have i2:(0:Int)<=(l:Int):=by omega
  have i3:(l:Int)<(x.mods.l[k].parts.l.length:Int):=by omega
  have i4:(0:Int)<=(u:Int):=by omega
  have i5:(u:Int)<(x.mods.l[k].parts.l[l].aq.l.length:Int):=by omega
  clear hc qc hc3 hg1 hr1 hz1 Gg Mg hA hA2 hA3 d1 d2 d3 e0 e1 e2 e3 e4 e5 e6 e7 e9;obtain⟨q,hq⟩:=ez (x.mods.l[k].parts.l[l].aq.l[u]);rw[<-hq]at f0 f1 f2 f3 f4 f5 tg;obtain⟨n1,NI⟩:∃n,n=x.mods.l[k].parts.l[l].aq.l.length:=⟨_,rfl⟩;obtain⟨n2,hn2⟩:∃n,n=x.mods.l[k].parts.l.length:=⟨_,rfl⟩;obtain⟨m1,hm1⟩:∃n,n=x.mods.l[k].parts.l[l].aq.c:=⟨_,rfl⟩;obtain⟨m2,Vq⟩:∃n,n=x.mods.l[k].parts.c:=⟨_,rfl⟩;rw[<-NI,<-hm1]at e8;rw[<-NI]at i5;rw[<-hn2,<-Vq]at d4;rw[<-hn2]at i3;clear hq NI hn2 hm1 Vq;go_wp2_with fail;have s0:ah (y1.setCell ⟨w.heap.size+1,0,Ag⟩ (.string q.nm)) (w.heap.size+1) 73 #[.string q.nm,.int .u8 0,.bool Bj,.int .i64 0,.int .i64 0,.int .i64 0]:=by simpa using Hz1.out.bX 0 (.string q.nm)
  have s1:ah ((y1.setCell ⟨w.heap.size+1,0,Ag⟩ (.string q.nm)).setCell ⟨w.heap.size+1,1,Ag⟩ (.int .u8 q.kd)) (w.heap.size+1) 73 #[.string q.nm,.int .u8 q.kd,.bool Bj,.int .i64 0,.int .i64 0,.int .i64 0]:=by simpa using s0.bX 1 (.int .u8 q.kd)
  have s2:ah (((y1.setCell ⟨w.heap.size+1,0,Ag⟩ (.string q.nm)).setCell ⟨w.heap.size+1,1,Ag⟩ (.int .u8 q.kd)).setCell ⟨w.heap.size+1,2,Ag⟩ (.bool q.out)) (w.heap.size+1) 73 #[.string q.nm,.int .u8 q.kd,.bool q.out,.int .i64 0,.int .i64 0,.int .i64 0]:=by simpa using s1.bX 2 (.bool q.out)
  have s3:ah ((((y1.setCell ⟨w.heap.size+1,0,Ag⟩ (.string q.nm)).setCell ⟨w.heap.size+1,1,Ag⟩ (.int .u8 q.kd)).setCell ⟨w.heap.size+1,2,Ag⟩ (.bool q.out)).setCell ⟨w.heap.size+1,3,Ag⟩ (.int .i64 q.sz)) (w.heap.size+1) 73 #[.string q.nm,.int .u8 q.kd,.bool q.out,.int .i64 q.sz,.int .i64 0,.int .i64 0]:=by simpa using s2.bX 3 (.int .i64 q.sz)
  have s4:ah (((((y1.setCell ⟨w.heap.size+1,0,Ag⟩ (.string q.nm)).setCell ⟨w.heap.size+1,1,Ag⟩ (.int .u8 q.kd)).setCell ⟨w.heap.size+1,2,Ag⟩ (.bool q.out)).setCell ⟨w.heap.size+1,3,Ag⟩ (.int .i64 q.sz)).setCell ⟨w.heap.size+1,4,Ag⟩ (.int .i64 q.dp)) (w.heap.size+1) 73 #[.string q.nm,.int .u8 q.kd,.bool q.out,.int .i64 q.sz,.int .i64 q.dp,.int .i64 0]:=by simpa using s3.bX 4 (.int .i64 q.dp)
  have s5:ah ((((((y1.setCell ⟨w.heap.size+1,0,Ag⟩ (.string q.nm)).setCell ⟨w.heap.size+1,1,Ag⟩ (.int .u8 q.kd)).setCell ⟨w.heap.size+1,2,Ag⟩ (.bool q.out)).setCell ⟨w.heap.size+1,3,Ag⟩ (.int .i64 q.sz)).setCell ⟨w.heap.size+1,4,Ag⟩ (.int .i64 q.dp)).setCell ⟨w.heap.size+1,5,Ag⟩ (.int .i64 q.rf)) (w.heap.size+1) 73 #[.string q.nm,.int .u8 q.kd,.bool q.out,.int .i64 q.sz,.int .i64 q.dp,.int .i64 q.rf]:=by simpa using s4.bX 5 (.int .i64 q.rf)
  have yU:BD w.heap.size w ((((((y1.setCell ⟨w.heap.size+1,0,Ag⟩ (.string q.nm)).setCell ⟨w.heap.size+1,1,Ag⟩ (.int .u8 q.kd)).setCell ⟨w.heap.size+1,2,Ag⟩ (.bool q.out)).setCell ⟨w.heap.size+1,3,Ag⟩ (.int .i64 q.sz)).setCell ⟨w.heap.size+1,4,Ag⟩ (.int .i64 q.dp)).setCell ⟨w.heap.size+1,5,Ag⟩ (.int .i64 q.rf)):=(((((((aV.out.trans (fI.out.mono aV.out.size)).setCell (p:=⟨w.heap.size+1,0,Ag⟩) (by show w.heap.size<=w.heap.size+1;omega) _).setCell (p:=⟨w.heap.size+1,1,Ag⟩) (by show w.heap.size<=w.heap.size+1;omega) _).setCell (p:=⟨w.heap.size+1,2,Ag⟩) (by show w.heap.size<=w.heap.size+1;omega) _).setCell (p:=⟨w.heap.size+1,3,Ag⟩) (by show w.heap.size<=w.heap.size+1;omega) _).setCell (p:=⟨w.heap.size+1,4,Ag⟩) (by show w.heap.size<=w.heap.size+1;omega) _).setCell (p:=⟨w.heap.size+1,5,Ag⟩) (by show w.heap.size<=w.heap.size+1;omega) _);obtain⟨W6,J5⟩:=ez (((((((y1.setCell ⟨w.heap.size+1,0,Ag⟩ (.string q.nm)).setCell ⟨w.heap.size+1,1,Ag⟩ (.int .u8 q.kd)).setCell ⟨w.heap.size+1,2,Ag⟩ (.bool q.out)).setCell ⟨w.heap.size+1,3,Ag⟩ (.int .i64 q.sz)).setCell ⟨w.heap.size+1,4,Ag⟩ (.int .i64 q.dp)).setCell ⟨w.heap.size+1,5,Ag⟩ (.int .i64 q.rf)));rw[<-J5]at s5 yU;have c0:=s5.cell 0;have c1:=s5.cell 1;have c2:=s5.cell 2;have c3:=s5.cell 3;have c4:=s5.cell 4;have c5:=s5.cell 5;rw[<-J5];refine GJ (v:= .tuple #[q.val,.int .i64 k]) (by simp[results,f87,go_sem,c0,c1,c2,c3,c4,c5]) rfl ?_;exact⟨by rw[tg.out],yU⟩
def Ut(t:Int):Int:=bits BinOp.and IntKind.i64 t (wrap64 (t-1))
def vlB(x:ay)(y:fU):Bool:= [y.lQ].all (dJ 100 12800)&&(y.lQ.tmod 100==0&&(Ut (wrap64 (y.lQ.tdiv 100))==0&& [y.mx].all (dJ ((fD x y.src).1.sz+8) 72)))
def aFF(x:ay):Bool:=x.aF.l.all (vlB x)
theorem aJA(x:ay)(y:fU)(g Bc:Nat)(w:Al)(hb:ah w Bc 92 #[.pointer (Ai ⟨g,0,Ag⟩)])(h:tU w g x)(hr:x.rd w w.heap.size)(hsz:(fD x y.src).1.sz<=1000000/\ -1000000<=(fD x y.src).1.sz):
 CU 89 #[y.val,.pointer (Ai ⟨Bc,0,Ag⟩)] w (.bool (vlB x y)):=by
 obtain⟨y0,bR⟩:=ez (w.alloc (.cells #[.string y.nm,.string y.src.m,.string y.src.p,.string y.src.o,.int .i64 y.lQ,.int .i64 y.mx,.slice y.dst.a y.dst.l.length y.dst.c] 44));have bW:BD w.heap.size w y0:=by rw[bR];exact bN
 have bS:ah y0 w.heap.size 44 #[.string y.nm,.string y.src.m,.string y.src.p,.string y.src.o,.int .i64 y.lQ,.int .i64 y.mx,.slice y.dst.a y.dst.l.length y.dst.c]:=by rw[bR];exact ah.new w _ _
 have hg0:=h.below bW;have yh:=hb.below bW hb.lt;have jy:=hr.below bW;have KQ:=KR x y.src g y0 hg0 jy;obtain⟨⟨q,i⟩,hq⟩:∃q,q=fD x y.src:=⟨_,rfl⟩;rw[<-hq]at KQ hsz;have HN:=lz (show vlB x y=([y.lQ].all (dJ 100 12800)&&(y.lQ.tmod 100==0&&(Ut (wrap64 (y.lQ.tdiv 100))==0&& [y.mx].all (dJ (q.sz+8) 72))))by unfold vlB;rw[<-hq]);obtain⟨b,hb'⟩:=ez (vlB x y);rw[<-hb']at HN ⊢;have hvb:∀W,BD y0.heap.size y0 W->ah W w.heap.size 44 #[.string y.nm,.string y.src.m,.string y.src.p,.string y.src.o,.int .i64 y.lQ,.int .i64 y.mx,.slice y.dst.a y.dst.l.length y.dst.c]:=λW hW=>bS.below hW bS.lt
 have St:=lz hvb;have c0:=bR▸yh.cell 0;have v0:=bR▸bS.cell 0;have v1:=bR▸bS.cell 1;have v2:=bR▸bS.cell 2;have v3:=bR▸bS.cell 3;have v4:=bR▸bS.cell 4;have v5:=bR▸bS.cell 5;have v6:=bR▸bS.cell 6;have DL:=hb.lt;have Xy:=lz KQ;have aV:=lz bW;have dV:=lz bR;have hw8:IntKind.i64.wrap (q.sz+8)=q.sz+8:=by have h1:=hsz.1;have h2:=hsz.2;dsimp only at h1 h2;exact Ih _ ⟨oz,oz⟩
 have Hw8:=lz hw8;clear hvb KQ bW bR bS hg0 yh jy hr h hb hq hb' hsz hw8;go_enter func89,ntmps89;go_wp2_with fail;rw[<-dV.out];refine Xy.out.mono ?_;rintro e y1 ⟨rfl,aU⟩;dsimp only;obtain⟨y2,KT⟩:=ez (y1.alloc (.cells #[.string q.nm,.int .u8 q.kd,.bool q.out,.int .i64 q.sz,.int .i64 q.dp,.int .i64 q.rf] 73));have pq:BD y1.heap.size y1 y2:=by rw[KT];exact bN
 have hqb:ah y2 y1.heap.size 73 #[.string q.nm,.int .u8 q.kd,.bool q.out,.int .i64 q.sz,.int .i64 q.dp,.int .i64 q.rf]:=by rw[KT];exact ah.new y1 _ _
 have iF:=lz (aU.trans (pq.mono aU.size));have Hy2:=lz KT;have Hqb:=lz hqb;have aUw:=hqb.lt;clear c0 v0 v1 v2 v3 v4 v5 v6 aU pq hqb KT Xy;have v0:y2.cell? ⟨w.heap.size,0,Ag⟩=Ai (.string y.nm):=(St.out _ iF.out).cell 0;have v1:y2.cell? ⟨w.heap.size,1,Ag⟩=Ai (.string y.src.m):=(St.out _ iF.out).cell 1;have v2:y2.cell? ⟨w.heap.size,2,Ag⟩=Ai (.string y.src.p):=(St.out _ iF.out).cell 2;have v3:y2.cell? ⟨w.heap.size,3,Ag⟩=Ai (.string y.src.o):=(St.out _ iF.out).cell 3;have v4:y2.cell? ⟨w.heap.size,4,Ag⟩=Ai (.int .i64 y.lQ):=(St.out _ iF.out).cell 4;have v5:y2.cell? ⟨w.heap.size,5,Ag⟩=Ai (.int .i64 y.mx):=(St.out _ iF.out).cell 5;have v6:y2.cell? ⟨w.heap.size,6,Ag⟩=Ai (.slice y.dst.a y.dst.l.length y.dst.c):=(St.out _ iF.out).cell 6;have H:=lz (show True from trivial);have v4':(y1.alloc (.cells #[.string q.nm,.int .u8 q.kd,.bool q.out,.int .i64 q.sz,.int .i64 q.dp,.int .i64 q.rf] 73)).cell? ⟨w.heap.size,4,Ag⟩=Ai (.int .i64 y.lQ):=by rw[<-Hy2.out];exact v4
 obtain⟨t,ht⟩:=ez (wrap64 (y.lQ.tdiv 100));obtain⟨m,hm⟩:=ez (y.lQ.tmod 100);rw[<-ht,<-hm]at HN;have hc:=dG 100 12800 y.lQ y2;obtain⟨q1,MI⟩:∃q,q= [y.lQ].all (dJ 100 12800):=⟨_,rfl⟩;rw[<-MI]at hc HN;have Hc:=lz hc;clear hc MI;go_wp2_with fail;rw[<-ht];have hz2:y1.heap.size+1=y2.heap.size:=by rw[Hy2.out];simp
 rw[hz2,<-Hy2.out];refine Hc.out.mono ?_;rintro e y3 ⟨rfl,kq⟩;have pz:=lz (iF.out.trans (kq.mono iF.out.size));have aOQ:=lz (Hqb.out.below kq Hqb.out.lt);clear v0 v1 v2 v3 v4 v5 v6 v4' kq Hc;have v0:y3.cell? ⟨w.heap.size,0,Ag⟩=Ai (.string y.nm):=(St.out _ pz.out).cell 0;have v1:y3.cell? ⟨w.heap.size,1,Ag⟩=Ai (.string y.src.m):=(St.out _ pz.out).cell 1;have v2:y3.cell? ⟨w.heap.size,2,Ag⟩=Ai (.string y.src.p):=(St.out _ pz.out).cell 2;have v3:y3.cell? ⟨w.heap.size,3,Ag⟩=Ai (.string y.src.o):=(St.out _ pz.out).cell 3;have v4:y3.cell? ⟨w.heap.size,4,Ag⟩=Ai (.int .i64 y.lQ):=(St.out _ pz.out).cell 4;have v5:y3.cell? ⟨w.heap.size,5,Ag⟩=Ai (.int .i64 y.mx):=(St.out _ pz.out).cell 5;have v6:y3.cell? ⟨w.heap.size,6,Ag⟩=Ai (.slice y.dst.a y.dst.l.length y.dst.c):=(St.out _ pz.out).cell 6;have q3:=aOQ.out.cell 3
 cases q1 with
 | false=>
  go_wp2;go_ret;exact⟨by rw[HN.out];rfl,aV.out.trans (pz.out.mono aV.out.size)⟩
 | true=>
  by_cases yc:m=0;rotate_left
  .have tg:=lz (show b=Bj by rw[HN.out,show(m==0)=Bj from by simpa using yc];rfl)
   have hm1:¬y.lQ.tmod 100=0:=by rw[<-hm];exact yc
   clear yc hm HN;go_wp2;go_ret;exact⟨by rw[tg.out]<;>rfl,aV.out.trans (pz.out.mono aV.out.size)⟩
  .have hm1:y.lQ.tmod 100=0:=by rw[<-hm];exact yc
   have tg:=lz (show b=(Ut t==0&& [y.mx].all (dJ (q.sz+8) 72))by rw[HN.out,yc];rfl);clear yc hm HN ht;have hc:=dG (q.sz+8) 72 y.mx y3;obtain⟨q2,lS⟩:=ez ( [y.mx].all (dJ (q.sz+8) 72));rw[<-lS]at hc tg;have Hc:=lz hc;clear hc lS;by_cases hp:bits BinOp.and IntKind.i64 t (wrap64 (t-1))=0
   .have Pf:=lz (show b=q2 by rw[tg.out,show Ut t=0 from hp];rfl)
    have hw8:=Hw8.out;clear tg;go_wp2_with fail;refine Hc.out.mono ?_;rintro e y4 ⟨rfl,mF⟩;have Fy:=lz (pz.out.trans (mF.mono pz.out.size));clear mF Hc v0 v1 v2 v3 v4 v5 v6 q3;go_wp2;go_ret;exact⟨by rw[Pf.out]<;>rfl,aV.out.trans (Fy.out.mono aV.out.size)⟩
   .have Pf:=lz (show b=Bj by rw[tg.out,show(Ut t==0)=Bj from by unfold Ut;simpa using hp];rfl)
    clear tg Hc;go_wp2;go_ret;exact⟨by rw[Pf.out]<;>rfl,aV.out.trans (pz.out.mono aV.out.size)⟩
theorem aJD(x:ay)(g:Nat)(w:Al)(h:tU w g x)(hr:x.rd w w.heap.size)(hsz:∀y∈x.aF.l,(fD x y.src).1.sz<=1000000/\ -1000000<=(fD x y.src).1.sz):CU 29 #[.pointer (Ai ⟨g,0,Ag⟩)] w (.bool (aFF x)):=by
 obtain⟨y0,bR⟩:=ez (w.alloc (.cells #[.pointer (Ai ⟨g,0,Ag⟩)] 92));have bW:BD w.heap.size w y0:=by rw[bR];exact bN
 have bS:ah y0 w.heap.size 92 #[.pointer (Ai ⟨g,0,Ag⟩)]:=by rw[bR];exact ah.new w _ _
 have hg0:=h.below bW;have jy:=hr.below bW;have hc:=aAy 89 #[.pointer (Ai ⟨w.heap.size,0,Ag⟩)] (vlB x) (Df func89 kz rfl) x.aF.l x.aF.a x.aF.c y0 (λW r hx hW fK=>by simpa using aJA x r g w.heap.size W (bS.below hW bS.lt) (hg0.below hW) (jy.below hW) (hsz r hx)) jy.aF (nT hr.T9 (nT hr.Ua dz));have k4:=bR▸hg0.cell 4;have HP:=lz (show aFF x=x.aF.l.all (vlB x)from rfl);obtain⟨q,hq⟩:=ez (x.aF.l.all (vlB x));rw[<-hq]at hc HP;have Hc:=lz hc;have aV:=lz bW;have dV:=lz bR;have wu:=ah.lt h;clear hc hq bW bR bS hg0 jy hr h hsz;go_enter func29,ntmps29;go_wp2_with fail;rw[<-dV.out];refine Hc.out.mono ?_;rintro e y1 ⟨rfl,aU⟩;have fI:=lz aU;clear aU Hc k4;go_wp2;go_ret;exact⟨by rw[HP.out]<;>rfl,aV.out.trans (fI.out.mono aV.out.size)⟩
theorem XC{X:Nat->Prop}{w W W':Al}(h:Gr X w W)(hb:BD w.heap.size W W'):Gr X w W':=
 ⟨hb.os.trans h.os,hb.tape.trans h.tape,hb.output.trans h.output,nT h.size hb.size,λk hk hn=>(hb.block k hk).trans (h.block k hk hn)⟩
def eS(s:ByteArray):Bool:=s.toList.isEmpty
def KU(x:ay)(y:lF):Bool:=decide (iM x y.a>=0)&&(decide (iM x y.b>=0)&& !(iM x y.a==iM x y.b))
theorem aFH(x:ay)(y:lF)(g Bc:Nat)(w:Al)(hb:ah w Bc 92 #[.pointer (Ai ⟨g,0,Ag⟩)])(h:tU w g x)(hr:x.rd w w.heap.size)(IK:x.mods.l.length<=100000):
 CU 91 #[y.val,.pointer (Ai ⟨Bc,0,Ag⟩)] w (.bool (KU x y)):=by
 obtain⟨y0,bR⟩:=ez (w.alloc (.cells #[.string y.a,.int .i64 y.va,.string y.b,.int .i64 y.vb] 91));have bW:BD w.heap.size w y0:=by rw[bR];exact bN
 have bS:ah y0 w.heap.size 91 #[.string y.a,.int .i64 y.va,.string y.b,.int .i64 y.vb]:=by rw[bR];exact ah.new w _ _
 have hg0:=h.below bW;have yh:=hb.below bW hb.lt;have d0:=bS.cell 0;have d1:=bS.cell 1;have d2:=bS.cell 2;have d3:=bS.cell 3;have c0:=yh.cell 0;have k0:=hg0.cell 0;have hl0:=bS.lt;have DL:=yh.lt;have Cb:=ah.lt hg0;have iR:=bn y0;have jy:=hr.below bW;have au:∀(s:ByteArray) (z:Ext y0),CU 34 #[.slice x.mods.a x.mods.l.length x.mods.c,.func (.func 35) #[] #[],.string s] z.w (.int .i64 (iM x s)):=λs z=>
  mY s x.mods.l x.mods.a x.mods.c z.w (jy.mods.below z.h) oz
 obtain⟨i,hi⟩:=ez (iM x y.a);obtain⟨j,hj⟩:∃i,i=iM x y.b:=⟨_,rfl⟩;have Sv:=au y.a;have hcb:=au y.b;rw[<-hi]at Sv;rw[<-hj]at hcb;have HN:=lz (show KU x y=(decide (i>=0)&&(decide (j>=0)&& !(i==j)))by rw[hi,hj];rfl);have Hca:=lz Sv;have Hcb:=lz hcb;have aV:=lz bW;have dV:=lz bR;clear au Sv hcb bW bR bS yh hg0 jy hr h hb hi hj;go_enter func91,ntmps91;go_wp2_with fail;rw[<-dV.out];refine aB kz kz ?_;repeat (go_big_quiet_step ((go_at_call 34;first | with_reducible exact dN (Hca.out _) | with_reducible exact dN (Hcb.out _))))
 refine E5 ?_;intro _ hw';obtain⟨xx,hw''⟩:=hw';subst hw'';have eF:=lz (aV.out.trans (xx.h.mono aV.out.size));clear iR Hca Hcb d0 d1 d2 d3 c0 k0;generalize xx.w=w2 at *;by_cases h1:i>=0;rotate_left
 .have d1:decide (i>=0)=false:=dF h1
  have tg:=lz (show KU x y=Bj by rw[HN.out,d1];rfl);clear HN;go_wp2;go_ret;exact⟨by rw[tg.out]<;>rfl,eF.out⟩
 .have d1:decide (i>=0)=true:=dT h1
  by_cases h2:j>=0;rotate_left
  .have d2:decide (j>=0)=false:=dF h2
   have tg:=lz (show KU x y=Bj by rw[HN.out,d1,d2];rfl);clear HN;go_wp2;go_ret;exact⟨by rw[tg.out]<;>rfl,eF.out⟩
  .have d2:decide (j>=0)=true:=dT h2
   have tg:=lz (show KU x y= !(i==j)by rw[HN.out,d1,d2];rfl);clear HN;go_wp2;go_ret;exact⟨by rw[tg.out]<;>rfl,eF.out⟩
def XD(y:iK)(z:WM):Bool:=(eS y.m||seqB y.m z.1.nm)&&seqB y.p z.2.nm
def qh(y:iK)(T:List WM):Bool:=eS y.p||T.any (XD y)
def aFI(y:iK):Bool:=(!(y.yV==6)&& !(y.yV==7))||(y.lv==3&&eS y.p)
def C4(n:Int):Int:=if n=2\/n=3 then 1 else if n=4\/n=5\/n=6 then 2 else if n=7\/n=8 then 3 else 0
def Qy(x:ay)(y:iK):Bool:=qh y (fE x)&&(aFI y&&((eS y.m||decide (iM x y.m>=0))&&(y.dd==1||C4 y.dd==y.lv)))
def XF(x:ay):Bool:=x.bQ.l.all (Qy x)&&x.aA.l.all (KU x)
theorem aFJ(x:ay)(y:iK)(g Bc Bl:Nat)(w:Al)(hb:ah w Bc 92 #[.pointer (Ai ⟨g,0,Ag⟩)])(hlv:ah w Bl 180 #[.int .u8 0,.int .u8 0,.int .u8 1,.int .u8 1,.int .u8 2,.int .u8 2,.int .u8 2,.int .u8 3,.int .u8 3])(h:tU w g x)(hr:x.rd w w.heap.size)(IK:x.mods.l.length<=100000)(hd:0<=y.dd/\y.dd<=8):
 CU 90 #[y.val,.pointer (Ai ⟨Bc,0,Ag⟩),.pointer (Ai ⟨Bl,0,Ag⟩)] w (.bool (Qy x y)):=by
 obtain⟨w1,cN⟩:=ez ((((w.alloc (.cells #[.string y.m,.string y.p,.int .u8 y.yV,.int .u8 y.lv,.int .u8 y.dd] 89)).alloc (.cells #[.bool y.p.toList.isEmpty] 4)).alloc (.cells #[.pointer (Ai ⟨g,0,Ag⟩)] 92)));have aU:BD w.heap.size w w1:=by rw[cN];exact((bN).alloc qz _).alloc qo _
 have hbh:ah w1 w.heap.size 89 #[.string y.m,.string y.p,.int .u8 y.yV,.int .u8 y.lv,.int .u8 y.dd]:=by rw[cN];exact((ah.new w _ _).alloc _).alloc _
 have Sw:ah w1 (w.heap.size+1) 4 #[.bool y.p.toList.isEmpty]:=by rw[cN];have:=ah.new (w.alloc (.cells #[.string y.m,.string y.p,.int .u8 y.yV,.int .u8 y.lv,.int .u8 y.dd] 89)) 4 #[.bool y.p.toList.isEmpty];rw[Dj]at this;exact this.alloc _
 have gP:ah w1 (w.heap.size+1+1) 92 #[.pointer (Ai ⟨g,0,Ag⟩)]:=by rw[cN];have:=ah.new ((w.alloc (.cells #[.string y.m,.string y.p,.int .u8 y.yV,.int .u8 y.lv,.int .u8 y.dd] 89)).alloc (.cells #[.bool y.p.toList.isEmpty] 4)) 92 #[.pointer (Ai ⟨g,0,Ag⟩)];simp only[Dj]at this;exact this
 have hz:w1.heap.size=w.heap.size+3:=by rw[cN];simp
 have gH:D6 w1 g (w.heap.size+1+1) w.heap.size x:=⟨gP,h.below aU,hr.dn nL (cZ aU),oz⟩;have wu:=ah.lt h;have um:=lz (CQ x g (w.heap.size+1+1) w.heap.size (λk=>k=w.heap.size+1) w1 (λk e=>by subst e;exact⟨oz,oz,oz⟩) (λk e=>by omega) gH oz);have c00:((w.alloc (.cells #[.string y.m,.string y.p,.int .u8 y.yV,.int .u8 y.lv,.int .u8 y.dd] 89)).alloc (.cells #[.bool y.p.toList.isEmpty] 4)).cell? ⟨Bc,0,Ag⟩=Ai (.pointer (Ai ⟨g,0,Ag⟩)):=((hb.alloc _).alloc _).cell 0;have d01:=(ah.new w 89 #[.string y.m,.string y.p,.int .u8 y.yV,.int .u8 y.lv,.int .u8 y.dd]).cell 1;have aOR:=hb.lt;have aUy:=hlv.lt;have Mk:=lz gH;have lH:=lz cN;have gh:=lz aU;have Hbh:=lz hbh;have Hbc:=lz (hb.below aU hb.lt);have Hlv:=lz (hlv.below aU hlv.lt);have Hbt:=lz Sw;have Hz:=lz hz;clear h hr cN aU Sw gP hbh hz gH hb hlv;refine(callsIn_wide (n:=9)).1 ?_;refine callsIn_of_wp_marks func90 rfl trivial ?_ rfl;simp only[ntmps90,List.size_toArray,List.length_cons,List.length_nil,Nat.reduceAdd,Nat.reduceSub,Array.replicate_succ,Array.replicate_zero,List.push_toArray,List.append_toArray,List.nil_append,List.cons_append];refine wpIn_wide.2 ?_;go_wp2_with (go_at_call 70;refine(CX _ _).mono ?_;rintro e w' ⟨rfl,hw'⟩);rw[<-lH.out];clear hw' c00 d01;refine(wpIn_wide (n:=9)).1 ?_;have hz1:w.heap.size+3<=w1.heap.size:=Nat.le_of_eq Hz.out.symm;have Xm:w1.heap.size<=w.heap.size+3:=Nat.le_of_eq Hz.out;have nk:=lz (show Qy x y=(qh y (fE x)&&(aFI y&&((eS y.m||decide (iM x y.m>=0))&&(y.dd==1||C4 y.dd==y.lv))))from rfl);refine tQ (gf:=151) (lb:= #[.pointer (Ai ⟨w.heap.size+1+1,0,Ag⟩)]) (encs:=II) (xs:=fE x) (X:=λk=>k=w.heap.size+1) (XE:=λ_=>False) rfl (Df func151 kz rfl) (λ_=>rfl) (λk e=>by omega) (λ_ h=>h.elim) um.out
  (λT W=>Gr (λk=>k=w.heap.size+1) w1 W/\ah W (w.heap.size+1) 4 #[.bool (qh y T)])
  (λT W=>False) ?hI ?RU ?TG
  (λz a' W=>∃m p Bm Bp,z=(m,p)/\w1.heap.size<=Bm/\w1.heap.size<=Bp/\ah W Bm 67 #[.string m.nm,.int .i64 m.mem,.int .i64 m.fr,.slice m.parts.a m.parts.l.length m.parts.c]/\ah W Bp 71 #[.string p.nm,.int .i64 p.pe,.int .i64 p.le,.int .i64 p.mem,.slice p.aG.a p.aG.l.length p.aG.c,.int .i64 p.ev,.int .i64 p.bo,.slice p.aX.a p.aX.l.length p.aX.c,.slice p.aq.a p.aq.l.length p.aq.c,.slice p.procs.a p.procs.l.length p.procs.c]/\a'={tmps:= #[y.val,.pointer (Ai ⟨Bc,0,Ag⟩),.pointer (Ai ⟨Bl,0,Ag⟩),.pointer (Ai ⟨w.heap.size,0,Ag⟩),.bool Bj,.pointer (Ai ⟨w.heap.size+1,0,Ag⟩),.pointer (Ai ⟨Bm,0,Ag⟩),.pointer (Ai ⟨Bp,0,Ag⟩),BA,.pointer (Ai ⟨w.heap.size,1,Ag⟩),.string y.p,.bool y.p.toList.isEmpty,.pointer (Ai ⟨g,0,Ag⟩),.func (.func 151) #[] #[.pointer (Ai ⟨w.heap.size+1+1,0,Ag⟩)],m.val,p.val,BA,BA,BA,BA,BA,BA,BA,BA,BA,BA,BA,BA,BA,BA,BA,BA,BA,BA,BA,BA,BA,BA,BA,BA,BA,BA,BA,BA,BA,BA,BA,BA,BA,BA,BA,BA,BA,BA,BA,BA,BA,BA,BA,BA,BA,BA,BA,BA,BA,BA,BA,BA,BA,BA,BA,BA,BA,BA,BA,BA,BA,BA,BA,BA,BA,BA,BA,BA,BA,BA,BA,BA],defers:= []}) ?Kf ?assign ?body ?done ?ret
 case hI=>exact λT W W' h hb=>⟨XC h.1 hb,ah.below h.2 hb oz⟩
 case RU=>exact λT W W' h hb=>h
 case TG=>exact⟨Gr.refl _ _,by simpa [qh,eS]using Hbt.out⟩
 case Kf=>
  rintro z l a' W o o' hl ho hc ⟨m,p,Bm,Bp,e,h1,h2,h3,h4,h5⟩;exact⟨m,p,Bm,Bp,e,h1,h2,mW h3 ho hc,mW h4 ho hc,h5⟩
 case assign=>
  rintro l T ⟨m,p⟩ W K hT hsz hK;gi_wp2;refine hK _ _ ((bN).alloc qz _) ⟨m,p,W.heap.size,W.heap.size+1,rfl,?_,?_,(ah.new W _ _).alloc _,?_,rfl⟩
  .omega
  .omega
  .have:=ah.new (W.alloc (.cells #[.string m.nm,.int .i64 m.mem,.int .i64 m.fr,.slice m.parts.a m.parts.l.length m.parts.c] 67)) 71 #[.string p.nm,.int .i64 p.pe,.int .i64 p.le,.int .i64 p.mem,.slice p.aG.a p.aG.l.length p.aG.c,.int .i64 p.ev,.int .i64 p.bo,.slice p.aX.a p.aX.l.length p.aX.c,.slice p.aq.a p.aq.l.length p.aq.c,.slice p.procs.a p.procs.l.length p.procs.c]
   rwa[Dj]at this
 case body=>
  rintro l T z a' W hT hsz hG ⟨hgr,Sw⟩ ⟨m,p,Bm,Bp,rfl,h1,h2,CY,kg,rfl⟩;have hW:=hgr.blk Hbh.out oz;have y0:=hW.cell 0;have y1:=hW.cell 1;have m0:=CY.cell 0;have p0:=kg.cell 0;have hlm:=CY.lt;have Vx:=kg.lt;have hlt:=Sw.lt;have hlh:=hW.lt;have hth:qh y (T++ [(m,p)])=(qh y T||((eS y.m||seqB y.m m.nm)&&seqB y.p p.nm)):=by
   unfold qh;rw[List.any_append];simp[XD,Bool.or_assoc]
  obtain⟨b,hb⟩:=ez (qh y T);obtain⟨v,hv⟩:=ez (qh y (T++ [(m,p)]));rw[<-hb]at Sw hth;rw[<-hv]at hth ⊢;have r0:=Sw.cell 0;have f0:=Sw.frozen 0;have iJ:∀u,v=u->Gr (λk=>k=w.heap.size+1) W (W.setCell ⟨w.heap.size+1,0,Ag⟩ (.bool u))/\Gr (λk=>k=w.heap.size+1) w1 (W.setCell ⟨w.heap.size+1,0,Ag⟩ (.bool u))/\ah (W.setCell ⟨w.heap.size+1,0,Ag⟩ (.bool u)) (w.heap.size+1) 4 #[.bool v]:=λu hu=>by
   have hs:=Gr.setCell (X:=λk=>k=w.heap.size+1) W ⟨w.heap.size+1,0,Ag⟩ (.bool u) rfl;exact⟨hs,hgr.trans hs,by rw[hu];simpa using Sw.bX 0 (.bool u)⟩
  have Hth:=lz hth;have vQ:=lz iJ;clear hth iJ Sw hgr hG CY kg hW hb hv hT
  cases b with
  | true=>
   have mz:=lz (vQ.out BR (by rw[Hth.out];rfl));gi_wp2;exact mz.out
  | false=>
   cases e1:y.m.toList.isEmpty with
   | true=>
    have mz:=lz (vQ.out (y.p.toList==p.nm.toList) (by rw[Hth.out,show eS y.m=BR from e1];rfl));gi_wp2;exact mz.out
   | false=>
    cases e2:(y.m.toList==m.nm.toList)with
    | false=>
     have mz:=lz (vQ.out Bj (by rw[Hth.out,show eS y.m=Bj from e1,show seqB y.m m.nm=Bj from e2];rfl));gi_wp2;exact mz.out
    | true=>
     have mz:=lz (vQ.out (y.p.toList==p.nm.toList) (by rw[Hth.out,show eS y.m=Bj from e1,show seqB y.m m.nm=BR from e2];rfl));gi_wp2;exact mz.out
 case ret=>exact λD T W3 hD hs hT h hk=>h.elim
 case done=>
  rintro D W hD hs ⟨hgr,Sw⟩ hk;have hW:=hgr.blk Hbh.out oz;have Pp:=hgr.blk Hbc.out oz;have XG:=hgr.blk Hlv.out oz;have gH:=Mk.out.gr (X:=λk=>k=w.heap.size+1) (λk e=>by subst e;exact⟨oz,oz,oz⟩) hgr;have hrW:x.rd W W.heap.size:=gH.r.more gH.B;have aBp:BD w.heap.size w W:=⟨hgr.os.trans gh.out.os,hgr.tape.trans gh.out.tape,hgr.output.trans gh.out.output,nT gh.out.size hgr.size,λk hk=>(hgr.block k oz oz).trans (gh.out.block k hk)⟩;obtain⟨n,hn,KV⟩:∃n:Nat,y.dd=(n:Int)/\n<=8:=⟨y.dd.toNat,oz,oz⟩;have XH:W.cell? ⟨Bl,y.dd.toNat,Ag⟩=Ai (.int .u8 (C4 y.dd)):=by
   rw[hn,Int.toNat_natCast];have h9:n=0\/n=1\/n=2\/n=3\/n=4\/n=5\/n=6\/n=7\/n=8:=by omega
   rcases h9 with rfl | rfl | rfl | rfl | rfl | rfl | rfl | rfl | rfl
   .exact XG.cell 0
   .exact XG.cell 1
   .exact XG.cell 2
   .exact XG.cell 3
   .exact XG.cell 4
   .exact XG.cell 5
   .exact XG.cell 6
   .exact XG.cell 7
   .exact XG.cell 8
  obtain⟨lo,VY⟩:=ez (C4 y.dd);rw[<-VY]at XH nk;have y0:=hW.cell 0;have y1:=hW.cell 1;have y2:=hW.cell 2;have y3:=hW.cell 3;have y4:=hW.cell 4;have c0:=Pp.cell 0;have k0:=gH.g.cell 0;obtain⟨b,hb⟩:=ez (qh y (fE x));rw[<-hb]at Sw nk;have r0:=Sw.cell 0;have l0:=hW.lt;have l1:=Pp.lt;have l2:=XG.lt;have l3:=ah.lt gH.g;have l4:=Sw.lt;obtain⟨dd,hdd⟩:∃d,d=y.dd:=⟨_,rfl⟩;rw[<-hdd]at XH y4 nk;have i0:(0:Int)<=dd:=by omega
  have i1:dd<9:=by omega
  have au:∀z:Ext W,CU 34 #[.slice x.mods.a x.mods.l.length x.mods.c,.func (.func 35) #[] #[],.string y.m] z.w (.int .i64 (iM x y.m)):=λz=>
   mY y.m x.mods.l x.mods.a x.mods.c z.w (hrW.mods.below z.h) oz
  obtain⟨mi,hmi⟩:∃i,i=iM x y.m:=⟨_,rfl⟩;rw[<-hmi]at nk;simp only[<-hmi]at au;obtain⟨rb,iy⟩:∃r,r=Qy x y:=⟨_,rfl⟩;rw[<-iy]at nk;have XI:=lz iy;have aN:=lz au;have Hk:=lz hk;have sG:=lz aBp;obtain⟨ob,Cc⟩:∃o,o=aFI y:=⟨_,rfl⟩;rw[<-Cc]at nk;have Sy:=lz (show ob=((!(y.yV==6)&& !(y.yV==7))||(y.lv==3&&y.p.toList.isEmpty))by rw[Cc];rfl);clear hgr Sw hW Pp XG gH hrW aBp au hk hb hmi iy Cc hn VY hd hdd KV;go_upto_region 6 with fail
  go_cut [8]from 36 to 53 (λs wc=>s= .bool ob/\wc=W)
  case first=>
   by_cases h6:y.yV=6
   .cases h3:(y.lv==3)with
    | false=>
     have h3':¬y.lv=3:=by simpa using h3
     have he:=lz (show ob=Bj by rw[Sy.out,h6,h3];rfl);clear h3 Sy;go_wp2_with fail;go_meet;exact⟨by rw[he.out]<;>rfl,rfl⟩
    | true=>
     have h3':y.lv=3:=by simpa using h3
     have he:=lz (show ob=y.p.toList.isEmpty by rw[Sy.out,h6,h3];rfl);clear h3 Sy;go_wp2_with fail;go_meet;exact⟨by rw[he.out]<;>rfl,rfl⟩
   .have g6:(y.yV==6)=false:=by simpa using h6
    by_cases h7:y.yV=7
    .cases h3:(y.lv==3)with
     | false=>
      have h3':¬y.lv=3:=by simpa using h3
      have he:=lz (show ob=Bj by rw[Sy.out,h7,h3];rfl);clear h3 Sy g6;go_wp2_with fail;go_meet;exact⟨by rw[he.out]<;>rfl,rfl⟩
     | true=>
      have h3':y.lv=3:=by simpa using h3
      have he:=lz (show ob=y.p.toList.isEmpty by rw[Sy.out,h7,h3];rfl);clear h3 Sy g6;go_wp2_with fail;go_meet;exact⟨by rw[he.out]<;>rfl,rfl⟩
    .have he:=lz (show ob=BR by rw[Sy.out,g6,show(y.yV==7)=Bj from by simpa using h7];rfl)
     clear Sy g6;go_wp2_with fail;go_meet;exact⟨by rw[he.out]<;>rfl,rfl⟩
  case rest=>
   obtain⟨rfl,rfl⟩:=hcut;clear Sy y1 y2
   cases b with
   | false=>
    have he:=lz (show rb=Bj by rw[nk.out];rfl);clear nk;have iR:=bn wc;go_wp2_with fail;refine aB kz kz ?_;repeat (go_big_quiet_step ((go_at_call 34;with_reducible exact dN (aN.out _))))
    refine E5 ?_;intro _ hw';obtain⟨xx,hw''⟩:=hw';subst hw'';have HX:=lz xx.h;clear iR aN y0 y3 y4 XH c0 k0 r0;generalize xx.w=w2 at *;go_wp2_with fail;refine bP [D] w2 D qz (λE hE=>by simp at hE;rw[hE];exact⟨nL,(HX.out.block D (gE Hk.out).1).trans Hk.out⟩) λW' j5=> ?_
    refine⟨.bool rb,by rw[he.out];simp[results,f90,go_sem],by rw[XI.out],(sG.out.trans (HX.out.mono sG.out.size)).trans (j5.below.mono (by have:=HX.out.size;have:=(gE Hk.out).1;omega))⟩
   | true=>
    cases ob with
    | false=>
     have he:=lz (show rb=Bj by rw[nk.out];rfl);clear nk;have iR:=bn wc;go_wp2_with fail;refine aB kz kz ?_;repeat (go_big_quiet_step ((go_at_call 34;with_reducible exact dN (aN.out _))))
     refine E5 ?_;intro _ hw';obtain⟨xx,hw''⟩:=hw';subst hw'';have HX:=lz xx.h;clear iR aN y0 y3 y4 XH c0 k0 r0;generalize xx.w=w2 at *;go_wp2_with fail;refine bP [D] w2 D qz (λE hE=>by simp at hE;rw[hE];exact⟨nL,(HX.out.block D (gE Hk.out).1).trans Hk.out⟩) λW' j5=> ?_
     refine⟨.bool rb,by rw[he.out];simp[results,f90,go_sem],by rw[XI.out],(sG.out.trans (HX.out.mono sG.out.size)).trans (j5.below.mono (by have:=HX.out.size;have:=(gE Hk.out).1;omega))⟩
    | true=>
     cases e1:y.m.toList.isEmpty with
     | true=>
      by_cases d1:dd=1
      .subst d1
       have he:=lz (show rb=BR by rw[nk.out,show eS y.m=BR from e1];rfl);clear nk;have iR:=bn wc;go_wp2_with fail;refine aB kz kz ?_;repeat (go_big_quiet_step ((go_at_call 34;with_reducible exact dN (aN.out _))))
       refine E5 ?_;intro _ hw';obtain⟨xx,hw''⟩:=hw';subst hw'';have HX:=lz xx.h;clear iR aN y0 y3 y4 XH c0 k0 r0;generalize xx.w=w2 at *;go_wp2_with fail;refine bP [D] w2 D qz (λE hE=>by simp at hE;rw[hE];exact⟨nL,(HX.out.block D (gE Hk.out).1).trans Hk.out⟩) λW' j5=> ?_
       refine⟨.bool rb,by rw[he.out];simp[results,f90,go_sem],by rw[XI.out],(sG.out.trans (HX.out.mono sG.out.size)).trans (j5.below.mono (by have:=HX.out.size;have:=(gE Hk.out).1;omega))⟩
      .have d2:¬dd=1:=d1
       have d3:(dd==1)=false:=by simpa using d2
       cases d4:(lo==y.lv)with
       | false=>
        have d5:¬lo=y.lv:=by simpa using d4
        have he:=lz (show rb=Bj by rw[nk.out,show eS y.m=BR from e1,d3,d4];rfl);clear nk;have iR:=bn wc;go_wp2_with fail;refine aB kz kz ?_;repeat (go_big_quiet_step ((go_at_call 34;with_reducible exact dN (aN.out _))))
        refine E5 ?_;intro _ hw';obtain⟨xx,hw''⟩:=hw';subst hw'';have HX:=lz xx.h;clear iR aN y0 y3 y4 XH c0 k0 r0;generalize xx.w=w2 at *;go_wp2_with fail;refine bP [D] w2 D qz (λE hE=>by simp at hE;rw[hE];exact⟨nL,(HX.out.block D (gE Hk.out).1).trans Hk.out⟩) λW' j5=> ?_
        refine⟨.bool rb,by rw[he.out];simp[results,f90,go_sem],by rw[XI.out],(sG.out.trans (HX.out.mono sG.out.size)).trans (j5.below.mono (by have:=HX.out.size;have:=(gE Hk.out).1;omega))⟩
       | true=>
        have d5:lo=y.lv:=by simpa using d4
        have he:=lz (show rb=BR by rw[nk.out,show eS y.m=BR from e1,d3,d4];rfl);clear nk;have iR:=bn wc;go_wp2_with fail;refine aB kz kz ?_;repeat (go_big_quiet_step ((go_at_call 34;with_reducible exact dN (aN.out _))))
        refine E5 ?_;intro _ hw';obtain⟨xx,hw''⟩:=hw';subst hw'';have HX:=lz xx.h;clear iR aN y0 y3 y4 XH c0 k0 r0;generalize xx.w=w2 at *;go_wp2_with fail;refine bP [D] w2 D qz (λE hE=>by simp at hE;rw[hE];exact⟨nL,(HX.out.block D (gE Hk.out).1).trans Hk.out⟩) λW' j5=> ?_
        refine⟨.bool rb,by rw[he.out];simp[results,f90,go_sem],by rw[XI.out],(sG.out.trans (HX.out.mono sG.out.size)).trans (j5.below.mono (by have:=HX.out.size;have:=(gE Hk.out).1;omega))⟩
     | false=>
      by_cases h4:mi>=0
      .have d0:decide (mi>=0)=true:=dT h4
       by_cases d1:dd=1
       .subst d1
        have he:=lz (show rb=BR by rw[nk.out,show eS y.m=Bj from e1,d0];rfl);clear nk;have iR:=bn wc;go_wp2_with fail;refine aB kz kz ?_;repeat (go_big_quiet_step ((go_at_call 34;with_reducible exact dN (aN.out _))))
        refine E5 ?_;intro _ hw';obtain⟨xx,hw''⟩:=hw';subst hw'';have HX:=lz xx.h;clear iR aN y0 y3 y4 XH c0 k0 r0;generalize xx.w=w2 at *;go_wp2_with fail;refine bP [D] w2 D qz (λE hE=>by simp at hE;rw[hE];exact⟨nL,(HX.out.block D (gE Hk.out).1).trans Hk.out⟩) λW' j5=> ?_
        refine⟨.bool rb,by rw[he.out];simp[results,f90,go_sem],by rw[XI.out],(sG.out.trans (HX.out.mono sG.out.size)).trans (j5.below.mono (by have:=HX.out.size;have:=(gE Hk.out).1;omega))⟩
       .have d2:¬dd=1:=d1
        have d3:(dd==1)=false:=by simpa using d2
        cases d4:(lo==y.lv)with
        | false=>
         have d5:¬lo=y.lv:=by simpa using d4
         have he:=lz (show rb=Bj by rw[nk.out,show eS y.m=Bj from e1,d0,d3,d4];rfl);clear nk;have iR:=bn wc;go_wp2_with fail;refine aB kz kz ?_;repeat (go_big_quiet_step ((go_at_call 34;with_reducible exact dN (aN.out _))))
         refine E5 ?_;intro _ hw';obtain⟨xx,hw''⟩:=hw';subst hw'';have HX:=lz xx.h;clear iR aN y0 y3 y4 XH c0 k0 r0;generalize xx.w=w2 at *;go_wp2_with fail;refine bP [D] w2 D qz (λE hE=>by simp at hE;rw[hE];exact⟨nL,(HX.out.block D (gE Hk.out).1).trans Hk.out⟩) λW' j5=> ?_
         refine⟨.bool rb,by rw[he.out];simp[results,f90,go_sem],by rw[XI.out],(sG.out.trans (HX.out.mono sG.out.size)).trans (j5.below.mono (by have:=HX.out.size;have:=(gE Hk.out).1;omega))⟩
        | true=>
         have d5:lo=y.lv:=by simpa using d4
         have he:=lz (show rb=BR by rw[nk.out,show eS y.m=Bj from e1,d0,d3,d4];rfl);clear nk;have iR:=bn wc;go_wp2_with fail;refine aB kz kz ?_;repeat (go_big_quiet_step ((go_at_call 34;with_reducible exact dN (aN.out _))))
         refine E5 ?_;intro _ hw';obtain⟨xx,hw''⟩:=hw';subst hw'';have HX:=lz xx.h;clear iR aN y0 y3 y4 XH c0 k0 r0;generalize xx.w=w2 at *;go_wp2_with fail;refine bP [D] w2 D qz (λE hE=>by simp at hE;rw[hE];exact⟨nL,(HX.out.block D (gE Hk.out).1).trans Hk.out⟩) λW' j5=> ?_
         refine⟨.bool rb,by rw[he.out];simp[results,f90,go_sem],by rw[XI.out],(sG.out.trans (HX.out.mono sG.out.size)).trans (j5.below.mono (by have:=HX.out.size;have:=(gE Hk.out).1;omega))⟩
      .have d0:decide (mi>=0)=false:=dF h4
       have he:=lz (show rb=Bj by rw[nk.out,show eS y.m=Bj from e1,d0];rfl);clear nk;have iR:=bn wc;go_wp2_with fail;refine aB kz kz ?_;repeat (go_big_quiet_step ((go_at_call 34;with_reducible exact dN (aN.out _))))
       refine E5 ?_;intro _ hw';obtain⟨xx,hw''⟩:=hw';subst hw'';have HX:=lz xx.h;clear iR aN y0 y3 y4 XH c0 k0 r0;generalize xx.w=w2 at *;go_wp2_with fail;refine bP [D] w2 D qz (λE hE=>by simp at hE;rw[hE];exact⟨nL,(HX.out.block D (gE Hk.out).1).trans Hk.out⟩) λW' j5=> ?_
       refine⟨.bool rb,by rw[he.out];simp[results,f90,go_sem],by rw[XI.out],(sG.out.trans (HX.out.mono sG.out.size)).trans (j5.below.mono (by have:=HX.out.size;have:=(gE Hk.out).1;omega))⟩
theorem aFK(x:ay)(g:Nat)(w:Al)(h:tU w g x)(hr:x.rd w w.heap.size)(IK:x.mods.l.length<=100000)(hd:∀y∈x.bQ.l,0<=y.dd/\y.dd<=8):CU 30 #[.pointer (Ai ⟨g,0,Ag⟩)] w (.bool (XF x)):=by
 obtain⟨y0,bR⟩:=ez (((w.alloc (.cells #[.pointer (Ai ⟨g,0,Ag⟩)] 92)).alloc (.cells #[.int .u8 0,.int .u8 0,.int .u8 1,.int .u8 1,.int .u8 2,.int .u8 2,.int .u8 2,.int .u8 3,.int .u8 3] 180)));have bW:BD w.heap.size w y0:=by rw[bR];exact(bN).alloc qz _
 have bS:ah y0 w.heap.size 92 #[.pointer (Ai ⟨g,0,Ag⟩)]:=by rw[bR];exact(ah.new w _ _).alloc _
 have aU:ah y0 (w.heap.size+1) 180 #[.int .u8 0,.int .u8 0,.int .u8 1,.int .u8 1,.int .u8 2,.int .u8 2,.int .u8 2,.int .u8 3,.int .u8 3]:=by rw[bR];have:=ah.new (w.alloc (.cells #[.pointer (Ai ⟨g,0,Ag⟩)] 92)) 180 #[.int .u8 0,.int .u8 0,.int .u8 1,.int .u8 1,.int .u8 2,.int .u8 2,.int .u8 2,.int .u8 3,.int .u8 3];rwa[Dj]at this
 have hg0:=h.below bW;have jy:=hr.below bW;have k5:=bR▸hg0.cell 5;have c0:=bR▸bS.cell 0;have hc1:=MU 90 #[.pointer (Ai ⟨w.heap.size,0,Ag⟩),.pointer (Ai ⟨w.heap.size+1,0,Ag⟩)] (Qy x) (Df func90 kz rfl) x.bQ.l x.bQ.a x.bQ.c y0 (λW r hx hW fK=>by simpa using aFJ x r g w.heap.size (w.heap.size+1) W (bS.below hW bS.lt) (aU.below hW aU.lt) (hg0.below hW) (jy.below hW) IK (hd r hx)) jy.bQ (nT hr.aBJ (nT hr.aBK dz));have qc:=λW (hW:BD y0.heap.size y0 W)=>Ke 91 #[.pointer (Ai ⟨w.heap.size,0,Ag⟩)] (KU x) (Df func91 kz rfl) x.aA.l x.aA.a x.aA.c W (λW' r hx hW'=>by simpa using aFH x r g w.heap.size W' (bS.below (hW.trans (hW'.mono hW.size)) bS.lt) (hg0.below (hW.trans (hW'.mono hW.size))) (jy.below (hW.trans (hW'.mono hW.size))) IK) (jy.aA.below hW) (nT hr.R9 (nT hr.Sb dz))
 have hf:∀W,BD y0.heap.size y0 W->W.cell? ⟨w.heap.size,0,Ag⟩=Ai (.pointer (Ai ⟨g,0,Ag⟩))/\W.cell? ⟨g,7,Ag⟩=Ai (.slice x.aA.a x.aA.l.length x.aA.c):=λW hW=>⟨(bS.below hW bS.lt).cell 0,(hg0.below hW).cell 7⟩
 have HP:=lz (show XF x=(x.bQ.l.all (Qy x)&&x.aA.l.all (KU x))from rfl);obtain⟨q1,MI⟩:∃q,q=x.bQ.l.all (Qy x):=⟨_,rfl⟩;obtain⟨q2,lS⟩:∃q,q=x.aA.l.all (KU x):=⟨_,rfl⟩;rw[<-MI]at hc1 HP;rw[<-lS]at HP;simp only[<-lS]at qc;have Hc1:=lz hc1;have Hc2:=lz qc;have Hf:=lz hf;have aV:=lz bW;have dV:=lz bR;have wu:=ah.lt h;clear hc1 qc MI lS bW bR bS aU hg0 jy hr h hf hd;go_enter func30,ntmps30;go_wp2_with fail;rw[<-dV.out];refine Hc1.out.mono ?_;rintro e y1 ⟨rfl,aU⟩;have fI:=lz aU;have hff:=Hf.out _ aU;have c0:y1.cell? ⟨w.heap.size,0,Ag⟩=Ai (.pointer (Ai ⟨g,0,Ag⟩)):=hff.1;have k7:y1.cell? ⟨g,7,Ag⟩=Ai (.slice x.aA.a x.aA.l.length x.aA.c):=hff.2;have Hc3:=lz (Hc2.out _ aU);clear aU Hc1 k5 hff Hc2 Hf
 cases q1 with
 | false=>
  go_wp2;go_ret;exact⟨by rw[HP.out]<;>rfl,aV.out.trans (fI.out.mono aV.out.size)⟩
 | true=>
  go_wp2_with fail;refine Hc3.out.mono ?_;rintro e y2 ⟨rfl,dI⟩;have iF:=lz (fI.out.trans (dI.mono fI.out.size));clear dI Hc3 c0 k7;go_wp2;go_ret;exact⟨by rw[HP.out]<;>rfl,aV.out.trans (iF.out.mono aV.out.size)⟩
open Go.Act renaming put → zP
open List renaming setIfInBounds_toArray → zA, set_cons_zero → zB, set_cons_succ → zC
theorem NJ(g:Nat)(lb:Array Bn)(q:Nat->Bool)(J:Nat->Al->Prop)(X:Nat->Prop)(B:Nat)(eg:∀args w,(EZ g args).run pG w= .ok (.enter g args) w)(l:List aO)(A:Option Addr)(c:Nat)(w:Al)
 (hp:∀k (hk:k<l.length) W,J k W->ET pG g (#[l[k].val]++lb) W λe w'=>e= .returned (.bool (q k))/\(q k=Bj->J (k+1) w')/\Gr X W w') (h0:J 0 w) (h:fZ w B A l) (bW:B<=w.heap.size) (hX:∀k,X k->B<=k) (hl:l.length<=9223372036854775807):
 ET pG 233 #[.slice A l.length c,.func (.func g) #[] lb] w λe w'=>e= .returned (.int .i64 (cV q (EO l.length)))/\Gr X w w':=by
 go_enter func233,ntmps233;go_wp2;go_loopw [5,8] (λ_ i wr=>∃k:Nat,k<=l.length/\i= .int .i64 k/\Gr X w wr/\J k wr/\Hid (∀j,j<l.length->j<k->q j=Bj)) (λ_ i _=>l.length-(E8 i).toNat)
 case atStart=>exact⟨0,nZ,rfl,Gr.refl _ _,h0,λj _ h=>absurd h oz⟩
 case round=>
  clear h0;obtain⟨k,hk,rfl,hB,hJ,aJ⟩:=hrel;have HG:=lz hB;by_cases hlt:k<l.length
  .have hh:=h.dn nL (kN hB bW hX)
   obtain⟨b,o,rfl,hb,hc⟩:=hh oz;have gH:=hc k hlt;have au:=hp k hlt wr hJ;have hs:=hB.size;clear hc hp h hh hJ hB;have cD:q k=BR->cV q (EO l.length)=k:=λhq=>nX hlt hq aJ.out
   have cQ:q k=Bj->∀j,j<l.length->j<k+1->q j=false:=λhq=>ru aJ.out hq
   have dU:=lz cD;have dH:=lz cQ;clear cD cQ aJ;generalize l[k]=r at gH au;obtain⟨c0,c1,c2,c3⟩:=gH;have aN:=lz au;clear au
   cases hq:q k with
   | true=>
    have cD:=lz (dU.out hq);rw[hq]at aN;clear dU dH hq;go_wp2_with (go_at_fn g;refine aN.out.mono ?_;rintro e w' ⟨rfl,hj',hb'⟩);go_ret;exact⟨eT cD.out.symm,HG.out.trans hb'⟩
   | false=>
    have cQ:=lz (dH.out hq);rw[hq]at aN;clear dU dH hq;go_wp2_with (go_at_fn g;refine aN.out.mono ?_;rintro e w' ⟨rfl,hj',hb'⟩;have Hj:=lz (hj' rfl);clear hj');go_roundw
    case rel=>exact⟨k+1,oz,by go_num,HG.out.trans hb',Hj.out,cQ⟩
    case measure=>simp[E8];omega
  .go_wp2
   go_ret;exact⟨eT (lG λj hj=>aJ.out j hj oz).symm,HG.out⟩
theorem Ee(g:Nat)(lb:Array Bn)(q:Nat->Bool)(J:Nat->Al->Prop)(X:Nat->Prop)(B:Nat)(eg:∀args w,(EZ g args).run pG w= .ok (.enter g args) w)(l:List aO)(A:Option Addr)(c:Nat)(w:Al)
 (hp:∀k (hk:k<l.length) W,J k W->ET pG g (#[l[k].val]++lb) W λe w'=>e= .returned (.bool (q k))/\(q k=Bj->J (k+1) w')/\Gr X W w') (h0:J 0 w) (h:fZ w B A l) (bW:B<=w.heap.size) (hX:∀k,X k->B<=k) (hl:l.length<=9223372036854775807):
 ET pG 148 #[.slice A l.length c,.func (.func g) #[] lb] w λe w'=>e= .returned (.bool ((EO l.length).any q))/\Gr X w w':=by
 have hI:=NJ g lb q J X B eg l A c w hp h0 h bW hX hl;rw[<-eZ];generalize cV q (EO l.length)=r at hI ⊢;clear h hp h0;go_enter func148,ntmps148;go_wp2_with fail;refine hI.mono ?_;rintro e w1 ⟨rfl,aU⟩;clear hI;go_wp2;go_ret;exact⟨rfl,aU⟩
theorem Qz(g:Nat)(lb:Array Bn)(q:Nat->Bool)(J:Nat->Al->Prop)(X:Nat->Prop)(B:Nat)(eg:∀args w,(EZ g args).run pG w= .ok (.enter g args) w)(l:List aO)(A:Option Addr)(c:Nat)(w:Al)
 (hp:∀k (hk:k<l.length) W,J k W->ET pG g (#[l[k].val]++lb) W λe w'=>e= .returned (.bool (q k))/\(q k=BR->J (k+1) w')/\Gr X W w') (zu:∀k W o,J k W->J k (W.alloc o)) (h0:J 0 w) (h:fZ w B A l) (bW:B<=w.heap.size) (hX:∀k,X k->B<=k/\k<w.heap.size) (hl:l.length<=9223372036854775807):
 ET pG 68 #[.slice A l.length c,.func (.func g) #[] lb] w λe w'=>e= .returned (.bool ((EO l.length).all q))/\Gr X w w':=by
 have h1:=ah.new w 141 #[.func (.func g) #[] lb];have aZ:=Ee 149 #[.pointer (Ai ⟨w.heap.size,0,Ag⟩)] (λk=> !q k) (λk W=>J k W/\ah W w.heap.size 141 #[.func (.func g) #[] lb]) X B (Df func149 kz rfl) l A c (w.alloc (.cells #[.func (.func g) #[] lb] 141))
  (λk hk W hJ=>(TL g lb eg w.heap.size (q k) l[k] W X (λw'=>q k=BR->J (k+1) w') hJ.2 (hp k hk _ (zu _ _ _ hJ.1))).mono λe w' ⟨e1,e2,e3⟩=>⟨e1,λhq=>⟨e2 (by simpa using hq),e3.blk hJ.2 λhx=>absurd (hX _ hx).2 oz⟩,e3⟩)
  ⟨zu _ _ _ h0,h1⟩ (h.dn nL λb o hb=>World.cell?_alloc_lt w _ ⟨b,o,Ag⟩ (by simp only;omega)) qo (λk hk=>(hX k hk).1) hl
 rw[cB]at aZ;have eP:=lz aZ;generalize (EO l.length).all q=r at *;clear h1 aZ hp h hX zu h0;go_enter func68,ntmps68;go_wp2_with fail;refine eP.out.mono ?_;rintro e w1 ⟨rfl,hg1⟩;have HG:=lz ((Gr.alloc X w (.cells #[.func (.func g) #[] lb] 141)).trans hg1);clear eP hg1;go_wp2;go_ret;exact⟨by cases r<;>rfl,HG.out⟩
def iP(x:ay)(net n:Int)(st:List kY×Int):Option (List kY×Int):=
 if n<0 then Ag
 else if n-x.mods.l.length>=0 then(if ((x.aP.l[(n-x.mods.l.length).toNat]?).map (·.net)).getD 0=net then Ai (st.1,st.2+1)else Ag)
 else if fP ⟨n,net⟩ st.1=BR then Ag else Ai (st.1++ [⟨n,net⟩],st.2)
def gA(x:ay)(y:aO)(met:List kY):Option (List kY):=
 match iP x y.net (bg x y.a) (met,0)with
 | none=>Ag
 | some s1=>match iP x y.net (bg x y.b) s1 with
  | none=>Ag
  | some s2=>if s2.2>0/\¬bg x y.a=bg x y.b then Ai s2.1 else Ag
def fJ(x:ay):List aO->List kY->Option (List kY)
 | [],met=>Ai met
 | y :: r,met=>match gA x y met with | none=>Ag | some m=>fJ x r m
def tC(x:ay):Bool:=(fJ x x.links.l []).isSome
theorem yj(x:ay)(s:ByteArray):bg x s<x.mods.l.length+x.aP.l.length:=by
 unfold bg;have h1:=kO (λy:bT=>seqB y.nm s) x.mods.l;have h2:=kO (λy:iI=>seqB y.nm s) x.aP.l;split
 .omega
 .split<;>omega
theorem NK(x:ay)(s:ByteArray): -1<=bg x s:=by
 unfold bg;split
 .omega
 .split<;>omega
theorem tD{x:ay}{net n:Int}{st st':List kY×Int}(h:iP x net n st=Ai st'):st'.1.length<=st.1.length+1/\st'.2<=st.2+1/\st.2<=st'.2:=by
 unfold iP at h;split at h
 .cases h
 .split at h
  .split at h
   .injection h with h;subst h;exact⟨qz,by simp only;omega,by simp only;omega⟩
   .cases h
  .split at h
   .cases h
   .injection h with h;subst h;exact⟨qz,by simp only;omega,by simp only;omega⟩
theorem QA{κ:Type}[DecidableEq κ]{M:jX κ}{w:Al}{b mb:Nat}{t:TypeId}{cs:Array Bn}{l:List κ}(h:ah w b t cs)(hc:aH M w mb l):¬b=mb:=λe=>by
 subst e;obtain⟨es,ck,ho⟩:=hc.obj;rw[show w.heap[_]?=_ from h]at ho;cases ho
def stk(x:ay)(net a b:Int)(mR:List kY)(k:Nat):Option (List kY×Int):=
 if k=0 then Ai (mR,0)else if k=1 then iP x net a (mR,0)else(iP x net a (mR,0)).bind (iP x net b)
theorem XJ{x:ay}{net a b:Int}{mR:List kY}{k:Nat}{st:List kY×Int}(hk:k<2)(h:stk x net a b mR k=Ai st):stk x net a b mR (k+1)=iP x net (if k=0 then a else b) st:=by
 have h2:k=0\/k=1:=by omega
 rcases h2 with rfl | rfl
 .simp only[stk,if_pos]at h
  injection h with h
  subst h;rfl
 .have h:iP x net a (mR,0)=Ai st:=h
  show(iP x net a (mR,0)).bind (iP x net b)=_;rw[h];rfl
theorem aBq{x:ay}{net a b:Int}{mR:List kY}{k:Nat}{st:List kY×Int}(hk:k<=2)(h:stk x net a b mR k=Ai st):st.1.length<=mR.length+2/\0<=st.2/\st.2<=2:=by
 have h2:k=0\/k=1\/k=2:=by omega
 rcases h2 with rfl | rfl | rfl
 .simp only[stk,if_pos]at h
  injection h with h
  subst h;simp
 .have h:iP x net a (mR,0)=Ai st:=h
  have:=tD h;simp only at this;omega
 .have h:(iP x net a (mR,0)).bind (iP x net b)=Ai st:=h
  cases h1:iP x net a (mR,0)with
  | none=>rw[h1]at h;cases h
  | some s1=>
   rw[h1]at h;have h:iP x net b s1=Ai st:=h;have:=tD h;have:=tD h1;simp only at this;omega
theorem QB{x:ay}{y:aO}{mR:List kY}{k:Nat}(hk:k<=2)(h:stk x y.net (bg x y.a) (bg x y.b) mR k=Ag):gA x y mR=none:=by
 have h2:k=0\/k=1\/k=2:=by omega
 unfold gA;rcases h2 with rfl | rfl | rfl
 .cases h
 .have h:iP x y.net (bg x y.a) (mR,0)=none:=h
  rw[h]
 .have h:(iP x y.net (bg x y.a) (mR,0)).bind (iP x y.net (bg x y.b))=none:=h
  cases h1:iP x y.net (bg x y.a) (mR,0)with
  | none=>rfl
  | some s1=>
   rw[h1]at h;have h:iP x y.net (bg x y.b) s1=none:=h;simp only[h]
theorem QC{x:ay}{y:aO}{mR:List kY}{st:List kY×Int}(h:stk x y.net (bg x y.a) (bg x y.b) mR 2=Ai st):gA x y mR=if st.2>0/\¬bg x y.a=bg x y.b then Ai st.1 else none:=by
 unfold gA;have h:(iP x y.net (bg x y.a) (mR,0)).bind (iP x y.net (bg x y.b))=Ai st:=h
 cases h1:iP x y.net (bg x y.a) (mR,0)with
 | none=>rw[h1]at h;cases h
 | some s1=>
  rw[h1]at h;have h:iP x y.net (bg x y.b) s1=Ai st:=h;simp only[h]
theorem aBr(x:ay)(y:aO)(g Bc Bm mb B:Nat)(mR:List kY)(w:Al)(hb:ah w Bc 92 #[.pointer (Ai ⟨g,0,Ag⟩)])(hm:ah w Bm 172 #[.map (Ai mb)])(hc:aH KP w mb mR)(h:tU w g x)(hr:x.rd w B)(hB:B<=mb)(IK:x.mods.l.length<=100000)(Qc:x.aP.l.length<=100000)(XK:mR.length<=100000)(pQ:0<=y.net/\y.net<=1):
 ET pG 86 #[y.val,.pointer (Ai ⟨Bc,0,Ag⟩),.pointer (Ai ⟨Bm,0,Ag⟩)] w λe w'=>e= .returned (.bool (gA x y mR).isSome)/\(∀m,gA x y mR=Ai m->aH KP w' mb m)/\Gr (· =mb) w w':=by
 obtain⟨y0,bR⟩:=ez (w.alloc (.cells #[.string y.a,.string y.b,.int .i64 y.net,.int .i64 y.slow] 46));have bW:BD w.heap.size w y0:=by rw[bR];exact bN
 have bS:ah y0 w.heap.size 46 #[.string y.a,.string y.b,.int .i64 y.net,.int .i64 y.slow]:=by rw[bR];exact ah.new w _ _
 have uH:=QA hb hc;have uU:=QA hm hc;have hng:=QA h hc;have aU1:=hc.lt;have aOR:=hb.lt;have aU2:=hm.lt;have wu:=ah.lt h;have hBs:B<=y0.heap.size:=by have:=bW.size;omega
 have jy:x.rd y0 B:=hr.dn nL (λb o hb=>bW.cell (p:=⟨b,o,Ag⟩) (by show b<w.heap.size;omega));have aJ:∀W,Gr (· =mb) y0 W->ah W Bc 92 #[.pointer (Ai ⟨g,0,Ag⟩)]/\tU W g x/\ah W w.heap.size 46 #[.string y.a,.string y.b,.int .i64 y.net,.int .i64 y.slow]/\ah W Bm 172 #[.map (Ai mb)]/\x.rd W B/\B<=W.heap.size:=λW hG=>
  ⟨hG.blk (hb.below bW hb.lt) uH,(tU.below h bW).gr hG hng,hG.blk bS oz,hG.blk (hm.below bW hm.lt) uU,jy.dn nL (kN hG hBs λk e=>by subst e;exact hB),nT hBs hG.size⟩
 have I7:∀W,BD y0.heap.size y0 W->(λW=>W.cell? ⟨Bc,0,Ag⟩=Ai (.pointer (Ai ⟨g,0,Ag⟩))/\W.cell? ⟨g,0,Ag⟩=Ai (.slice x.mods.a x.mods.l.length x.mods.c)/\W.cell? ⟨g,1,Ag⟩=Ai (.slice x.aj.a x.aj.l.length x.aj.c)/\W.cell? ⟨g,2,Ag⟩=Ai (.slice x.aP.a x.aP.l.length x.aP.c)/\W.cell? ⟨g,3,Ag⟩=Ai (.slice x.links.a x.links.l.length x.links.c)/\W.cell? ⟨g,4,Ag⟩=Ai (.slice x.aF.a x.aF.l.length x.aF.c)/\W.cell? ⟨g,5,Ag⟩=Ai (.slice x.bQ.a x.bQ.l.length x.bQ.c)/\W.cell? ⟨g,6,Ag⟩=Ai (.slice x.causes.a x.causes.l.length x.causes.c)/\W.cell? ⟨g,7,Ag⟩=Ai (.slice x.aA.a x.aA.l.length x.aA.c)/\W.cell? ⟨w.heap.size,0,Ag⟩=Ai (.string y.a)/\W.cell? ⟨w.heap.size,1,Ag⟩=Ai (.string y.b)/\W.cell? ⟨w.heap.size,2,Ag⟩=Ai (.int .i64 y.net)/\W.cell? ⟨w.heap.size,3,Ag⟩=Ai (.int .i64 y.slow)) W:=λW hW=>by
  obtain⟨h1,h2,h3,-,-,-⟩:=aJ W (Gr.ak hW);exact⟨h1.cell 0,h2.cell 0,h2.cell 1,h2.cell 2,h2.cell 3,h2.cell 4,h2.cell 5,h2.cell 6,h2.cell 7,h3.cell 0,h3.cell 1,h3.cell 2,h3.cell 3⟩
 have Pj:=λW (hW:BD y0.heap.size y0 W)=>vI x y.a W ((aJ W (Gr.ak hW)).2.2.2.2.1.more (aJ W (Gr.ak hW)).2.2.2.2.2) oz oz
 have aBD:=λW (hW:BD y0.heap.size y0 W)=>vI x y.b W ((aJ W (Gr.ak hW)).2.2.2.2.1.more (aJ W (Gr.ak hW)).2.2.2.2.2) oz oz
 have HLn:=lz (fun(k:Nat) (hk:k<=2) (h:stk x y.net (bg x y.a) (bg x y.b) mR k=Ag)=>QB (y:=y) hk h);have HLs:=lz (fun(st:List kY×Int) (h:stk x y.net (bg x y.a) (bg x y.b) mR 2=Ai st)=>QC (y:=y) h);have FZ:=yj x y.a;have aOU:=NK x y.a;have hlb:=yj x y.b;have aBt:=NK x y.b;obtain⟨a,ha⟩:=ez (bg x y.a);obtain⟨b,hb'⟩:=ez (bg x y.b);simp only[<-ha]at Pj HLn HLs FZ aOU;simp only[<-hb']at aBD HLn HLs hlb aBt;have Hna:=lz Pj;have Hnb:=lz aBD;have HS:=lz I7;have Co:=lz aJ;have aV:=lz bW;have dV:=lz bR;have Hc0:=lz (hc.next bW);have hHeld:=I7 y0.drew (Below.refl _ y0).drew;clear ha hb' Pj aBD I7 aJ bW bR hc hb hm h hr jy bS;go_enter func86,ntmps86;go_wp2_with fail;rw[<-dV.out];refine aT (λW=>W.cell? ⟨Bc,0,Ag⟩=Ai (.pointer (Ai ⟨g,0,Ag⟩))/\W.cell? ⟨g,0,Ag⟩=Ai (.slice x.mods.a x.mods.l.length x.mods.c)/\W.cell? ⟨g,1,Ag⟩=Ai (.slice x.aj.a x.aj.l.length x.aj.c)/\W.cell? ⟨g,2,Ag⟩=Ai (.slice x.aP.a x.aP.l.length x.aP.c)/\W.cell? ⟨g,3,Ag⟩=Ai (.slice x.links.a x.links.l.length x.links.c)/\W.cell? ⟨g,4,Ag⟩=Ai (.slice x.aF.a x.aF.l.length x.aF.c)/\W.cell? ⟨g,5,Ag⟩=Ai (.slice x.bQ.a x.bQ.l.length x.bQ.c)/\W.cell? ⟨g,6,Ag⟩=Ai (.slice x.causes.a x.causes.l.length x.causes.c)/\W.cell? ⟨g,7,Ag⟩=Ai (.slice x.aA.a x.aA.l.length x.aA.c)/\W.cell? ⟨w.heap.size,0,Ag⟩=Ai (.string y.a)/\W.cell? ⟨w.heap.size,1,Ag⟩=Ai (.string y.b)/\W.cell? ⟨w.heap.size,2,Ag⟩=Ai (.int .i64 y.net)/\W.cell? ⟨w.heap.size,3,Ag⟩=Ai (.int .i64 y.slow)) 15 kz hHeld (λhHeld=> ?_);refine TS 0 rfl hHeld ?_
 simp only[zP,zA,zB,zC];refine TS 1 rfl hHeld ?_
 simp only[zP,zA,zB,zC];refine TS 2 rfl hHeld ?_
 simp only[zP,zA,zB,zC];refine TS 3 rfl hHeld ?_
 simp only[zP,zA,zB,zC];refine TS 4 rfl hHeld ?_
 simp only[zP,zA,zB,zC];refine TS 5 rfl hHeld ?_
 simp only[zP,zA,zB,zC];refine TS 7 rfl hHeld ?_
 simp only[zP,zA,zB,zC];refine TS 8 rfl hHeld ?_
 simp only[zP,zA,zB,zC];refine TS 9 rfl hHeld ?_
 simp only[zP,zA,zB,zC];refine TS 10 rfl hHeld ?_
 simp only[zP,zA,zB,zC];refine TS 11 rfl hHeld ?_
 simp only[zP,zA,zB,zC];refine TS 12 rfl hHeld ?_
 simp only[zP,zA,zB,zC];refine RQ 6 rfl λK hK=> ?_;go_simp;refine(Hna.out _ (Below.refl _ y0).drew).mono ?_;rintro e w1 ⟨rfl,aU⟩;have aU:BD y0.heap.size y0 w1:=(Below.refl _ y0).drew.trans aU;have hHeld:=HS.out _ aU;have gh:=lz aU;refine hK.out _ _ (λ_=>hHeld) ?_;clear hK aU;refine RQ 13 rfl λK hK=> ?_;go_simp;refine(Hnb.out _ gh.out).mono ?_;rintro e w2 ⟨rfl,dI⟩;have dI:=gh.out.trans (dI.mono gh.out.size);have hHeld:=HS.out _ dI;have CM:=lz dI;refine hK.out _ _ (λ_=>hHeld) ?_;clear hK dI gh;refine RQ 14 rfl λK hK=> ?_;go_simp;obtain⟨w3,hw3⟩:=ez (w2.alloc (.cells #[.int .i64 a,.int .i64 b] 3));have Pn:BD y0.heap.size y0 w3:=by rw[hw3];exact CM.out.alloc CM.out.size _
 have iO:ah w3 w2.heap.size 3 #[.int .i64 a,.int .i64 b]:=by rw[hw3];exact ah.new w2 _ _
 rw[<-hw3];have hHeld:=HS.out _ Pn;have mP:=lz Pn;have rA:=lz iO;have hz2:=CM.out.size;have hz0:w.heap.size<y0.heap.size:=by have h9:=Co.out y0 (Gr.refl _ _);exact h9.2.2.1.lt
 refine hK.out _ _ (λ_=>hHeld) ?_;clear hK Pn hw3 iO Hna Hnb;refine RQ 15 rfl λK hK=> ?_;go_simp;refine hK.out _ _ (λh=>absurd h dz) ?_;clear hK hHeld;refine aL kz ?_ _;obtain⟨be,NC⟩:=ez w2.heap.size;rw[<-NC]at rA hz2 ⊢;have Hc3:=lz (Hc0.out.next mP.out);clear NC CM HS;go_wp2;go_loopw [6,27] (λs t wr=>∃(k:Nat) (st:List kY×Int),k<=2/\t= .int .i64 k/\s= .int .i64 st.2/\Hid (stk x y.net a b mR k=Ai st)/\aH KP wr mb st.1/\Gr (· =mb) w3 wr) (λs t wr=>2-(E8 t).toNat)
 case atStart=>exact⟨0,(mR,0),oz,rfl,rfl,lz rfl,Hc3.out,Gr.refl _ _⟩
 case round=>
  obtain⟨k,⟨pl,sc⟩,hk,rfl,rfl,qR,Pk,wk⟩:=hrel;dsimp only at Pk ⊢;have hlen:=aBq hk qR.out;have hG0:Gr (· =mb) y0 wr:=(Gr.ak mP.out).trans wk;have hrw:=wk.blk rA.out oz;obtain⟨g1,g2,g3,g4,g5,g6⟩:=Co.out _ hG0;have c0:=g1.cell 0;have k0:=g2.cell 0;have k2:=g2.cell 2;have y2:=g3.cell 2;have m0:=g4.cell 0;have r0:=hrw.cell 0;have r1:=hrw.cell 1;have gl1:=g1.lt;have gl2:=ah.lt g2;have gl3:=g3.lt;have gl4:=g4.lt;have gl5:=hrw.lt;by_cases hlt:k<2
  .obtain⟨n,hn⟩:=ez ((if k=0 then a else b))
   have pE:=XJ hlt qR.out;rw[<-hn]at pE;have rk:wr.cell? ⟨be,k,Ag⟩=Ai (.int .i64 n):=by
    have h2:k=0\/k=1:=by omega
    rcases h2 with rfl | rfl
    .rw[hn];exact r0
    .rw[hn];exact r1
   have hnr: -1<=n/\n<x.mods.l.length+x.aP.l.length:=by
    rw[hn];split<;>exact⟨oz,oz⟩
   have hwk:IntKind.i64.wrap (n-(x.mods.l.length:Int))=n-x.mods.l.length:=Ih _ ⟨oz,oz⟩;have Wq:(k:Int)<2:=by omega
   have lg:=lz pE;have Hcm:=lz Pk;have Qd:=lz wk;have HG0:=lz hG0;have Hst:=lz qR.out;clear hn pE Pk wk hG0 hrw r0 r1 g1 g2 g3 g4 qR;by_cases qw:n<0
   .have d0:decide (n<0)=true:=dT qw
    have HE:=lz (HLn.out (k+1) oz (by rw[lg.out];unfold iP;rw[if_pos qw]));have iR:=bn wr;go_wp2_with fail;refine aB kz kz ?_;repeat (go_big_quiet_step (fail))
    refine E5 ?_;intro _ hw';obtain⟨xx,hw''⟩:=hw';subst hw'';have HX:=lz xx.h;clear iR c0 k0 k2 y2 m0 rk;generalize xx.w=w5 at *;go_wp2;go_ret;refine⟨by rw[HE.out]<;>rfl,?_,(Gr.ak aV.out).trans (HG0.out.trans (Gr.ak HX.out))⟩;intro m hm;rw[HE.out]at hm
    cases hm
   .have d0:decide (n<0)=false:=dF qw
    by_cases hk9:n-(x.mods.l.length:Int)>=0
    .obtain⟨j,hj,hjl⟩:∃j:Nat,n-(x.mods.l.length:Int)=(j:Int)/\j<x.aP.l.length:=⟨(n-(x.mods.l.length:Int)).toNat,oz,oz⟩
     obtain⟨b',o,hA,mz,Mh⟩:=g5.aP oz;obtain⟨s0,s1,s2,s3⟩:=Mh j hjl;have s1:wr.cell? ⟨b',o+(n.toNat-x.mods.l.length)*4+1,Ag⟩=Ai (.int .i64 x.aP.l[j].net):=by rw[show n.toNat-x.mods.l.length=j by omega];exact s1
     have hi3:n-(x.mods.l.length:Int)<(x.aP.l.length:Int):=by omega
     have hi4:(0:Int)<=n-(x.mods.l.length:Int):=by omega
     have hi5:(x.mods.l.length:Int)<=n:=by omega
     have Ef:b'<wr.heap.size:=by omega
     have iJ:iP x y.net n (pl,sc)=if x.aP.l[j].net=y.net then Ai (pl,sc+1)else none:=by
      unfold iP;rw[if_neg qw,if_pos hk9,hj,Int.toNat_natCast,EN hjl];rfl
     rw[hA]at k2;rw[iJ]at lg;have d1:decide (n-(x.mods.l.length:Int)>=0)=true:=dT hk9;have d1b:decide ((x.mods.l.length:Int)<=n)=true:=dT hi5;obtain⟨nj,hnj⟩:∃v,v=x.aP.l[j].net:=⟨_,rfl⟩;rw[<-hnj]at s1 lg;clear iJ hj Mh s0 s2 s3 hnj g5 hA;by_cases hne:nj=y.net
     .have hq:(nj==y.net)=true:=by simpa using hne
      rw[if_pos hne]at lg;subst hne;have hws:IntKind.i64.wrap (sc+1)=sc+1:=Ih _ ⟨oz,oz⟩;have iR:=bn wr;go_wp2_with fail;refine aB kz kz ?_;repeat (go_big_quiet_step (fail))
      refine E5 ?_;intro _ hw';obtain⟨xx,hw''⟩:=hw';subst hw'';have HX:=lz xx.h;clear iR c0 k0 k2 y2 m0 rk;generalize xx.w=w5 at *;clear s1;go_wp2;go_roundw
      case rel=>exact⟨k+1,(pl,sc+1),oz,by go_num,rfl,lz lg.out,Hcm.out.next HX.out,Qd.out.trans (Gr.ak HX.out)⟩
      case measure=>simp[E8];omega
     .have hq:(nj==y.net)=false:=by simpa using hne
      rw[if_neg hne]at lg;have HE:=lz (HLn.out (k+1) oz lg.out);have iR:=bn wr;go_wp2_with fail;refine aB kz kz ?_;repeat (go_big_quiet_step (fail))
      refine E5 ?_;intro _ hw';obtain⟨xx,hw''⟩:=hw';subst hw'';have HX:=lz xx.h;clear iR c0 k0 k2 y2 m0 rk;generalize xx.w=w5 at *;go_wp2;go_ret;refine⟨by rw[HE.out]<;>rfl,?_,(Gr.ak aV.out).trans (HG0.out.trans (Gr.ak HX.out))⟩;intro m hm;rw[HE.out]at hm
      cases hm
    .have d1:decide (n-(x.mods.l.length:Int)>=0)=false:=dF hk9
     have iJ:iP x y.net n (pl,sc)=if fP ⟨n,y.net⟩ pl=BR then Ag else Ai (pl++ [⟨n,y.net⟩],sc):=by
      unfold iP;rw[if_neg qw,if_neg hk9]
     rw[iJ]at lg;have hi5:¬(x.mods.l.length:Int)<=n:=by omega
     have d1b:decide ((x.mods.l.length:Int)<=n)=false:=dF hi5;clear iJ;have iR:=bn wr;go_wp2_with fail;refine aB kz kz ?_;repeat (go_big_quiet_step (fail))
     refine E5 ?_;intro _ hw';obtain⟨xx,hw''⟩:=hw';subst hw'';have HX:=lz xx.h;clear iR c0 k0 k2 y2 m0 rk;generalize xx.w=w5 at *;have Fw:kY.ok ⟨n,y.net⟩:=⟨WalkArith.wf_i64 (by dsimp only;omega),WalkArith.wf_i64 (by dsimp only;omega)⟩;have hpl:pl.length<maxLen:=by unfold maxLen;have:=hlen.1;omega
     have aFM:aH KP w5.drew mb pl:=(Hcm.out.next HX.out).drew;have hlk:(Instr.lookup 172 (.map (Ai mb)) (.agg #[.int .i64 n,.int .i64 y.net]) Bj).run pG w5.drew= .ok (.int .i64 (dR ⟨n,y.net⟩ pl)) w5.drew:=aFM.iH (M:=KP) (y:=⟨n,y.net⟩) Fw;obtain⟨v0,stq,W1,W2,hE,hL,hSt,hC2,eG,hcell⟩:=aFM.Qq (M:=KP) aIz KP.und hpl (y:=⟨n,y.net⟩) Fw;have hG5:Gr (· =mb) y0 w5:=HG0.out.trans (Gr.ak HX.out);obtain⟨g1,g2,g3,g4,g5,g6⟩:=Co.out _ hG5;have c3:=g3.cell 2;have c4:=g4.cell 0;have c5:=(hcell ⟨w.heap.size,2,Ag⟩ (by show w.heap.size≠mb;omega)).trans c3;have c6:=(hcell ⟨Bm,0,Ag⟩ (by show Bm≠mb;exact uU)).trans c4;have XL:=vA (⟨n,y.net⟩:kY) pl;have hcb:(dR (⟨n,y.net⟩:kY) pl:Int)<=9223372036854775806:=by unfold maxLen at hpl;omega
     have hc0:(0:Int)<=(dR (⟨n,y.net⟩:kY) pl:Int):=by omega
     have hwr:IntKind.i64.wrap ((dR (⟨n,y.net⟩:kY) pl:Int)+1)=(dR (⟨n,y.net⟩:kY) pl:Int)+1:=Ih _ oz;have hE:(Instr.mapEntry 172 (.map (Ai mb)) (.agg #[.int .i64 n,.int .i64 y.net])).run pG w5.drew= .ok (.tuple #[v0,.int .i64 ((stq:Nat):Int)]) W1:=hE;have hL:(Instr.lookup 172 (.map (Ai mb)) (.agg #[.int .i64 n,.int .i64 y.net]) Bj).run pG W1= .ok (.int .i64 (dR (⟨n,y.net⟩:kY) pl)) W1:=hL;have hSt:(Instr.entryStore 172 (.map (Ai mb)) (.int .i64 ((stq:Nat):Int)) (.int .i64 ((dR (⟨n,y.net⟩:kY) pl:Int)+1))).run pG W1= .ok () W2:=hSt;have aBw:(Instr.lookup 172 (.map (Ai mb)) (.agg #[.int .i64 n,.int .i64 y.net]) Bj).run pG W2= .ok (.int .i64 (dR (⟨n,y.net⟩:kY) (pl++ [⟨n,y.net⟩]))) W2:=hC2.iH (M:=KP) (y:=⟨n,y.net⟩) Fw;have AX:Gr (· =mb) w5 W2:=⟨eG.os,eG.tape,eG.output,eG.size,λi hi hne=>eG.block i hi (λe=>hne (Option.some.inj e))⟩;obtain⟨h1,h2,h3,h4,h5,h6⟩:=Co.out _ (hG5.trans AX);have e3:=h3.cell 2;have e4:=h4.cell 0;have tE:=sP (⟨n,y.net⟩:kY) (⟨n,y.net⟩:kY) pl;rw[if_pos rfl]at tE;have og:=JU (⟨n,y.net⟩:kY) pl;obtain⟨cn,C5⟩:∃c,c=dR (⟨n,y.net⟩:kY) pl:=⟨_,rfl⟩;rw[tE,<-C5]at aBw;rw[<-C5]at hL hlk hSt hwr hcb hc0 og;have HC2:=lz hC2;have C6:=lz AX;have HG5:=lz hG5;clear hC2 AX hG5 eG hcell XL tE C5 g1 g2 g3 g4 g5 g6 h1 h2 h3 h4 h5 h6 aFM Fw hpl
     cases iU:fP (⟨n,y.net⟩:kY) pl with
     | true=>
      rw[iU]at og;rw[if_pos iU]at lg;have HE:=lz (HLn.out (k+1) oz lg.out);have h7:decide (((cn+1:Nat):Int)>1)=true:=by have:=of_decide_eq_true og;exact dT oz
      have h8:decide (1<cn+1)=true:=by have:=of_decide_eq_true og;exact dT oz
      have h9:0<cn:=of_decide_eq_true og;clear og iU;go_wp2_with fail;go_region;go_wp2;go_ret;refine⟨by rw[HE.out]<;>rfl,?_,(Gr.ak aV.out).trans (HG5.out.trans C6.out)⟩;intro m hm;rw[HE.out]at hm
      cases hm
     | false=>
      rw[iU]at og;rw[if_neg (by rw[iU];decide)]at lg;have h9:¬0<cn:=of_decide_eq_false og;have h8:decide (1<cn+1)=false:=dF oz;have h7:decide (((cn+1:Nat):Int)>1)=false:=dF oz;clear og iU;go_wp2_with fail;go_region;go_wp2;go_roundw
      case rel=>exact⟨k+1,(pl++ [⟨n,y.net⟩],sc),oz,by go_num,rfl,lz lg.out,HC2.out,(Qd.out.trans (Gr.ak HX.out)).trans C6.out⟩
      case measure=>simp[E8];omega
  .obtain rfl:k=2:=by omega
   have HF:=lz (HLs.out _ qR.out);have Pb:=hlen.2;simp only at Pb;have Hcm:=lz Pk;have HG0:=lz hG0;clear Pk wk hG0 hrw g1 g2 g3 g4 qR hlt c0 k0 k2 y2 m0 hlen;by_cases hs0:sc>0;rotate_left
   .have HE:=lz (show gA x y mR=Ag by rw[HF.out,if_neg (λh=>hs0 h.1)])
    have d1:decide (sc>0)=false:=dF hs0;have d2:decide (0<sc)=false:=d1;have d3:¬0<sc:=hs0;have iR:=bn wr;go_wp2_with fail;refine aB kz kz ?_;repeat (go_big_quiet_step (fail))
    refine E5 ?_;intro _ hw';obtain⟨xx,hw''⟩:=hw';subst hw'';have HX:=lz xx.h;clear iR r0 r1;generalize xx.w=w5 at *;go_wp2;go_ret;refine⟨by rw[HE.out]<;>rfl,?_,(Gr.ak aV.out).trans (HG0.out.trans (Gr.ak HX.out))⟩;intro m hm;rw[HE.out]at hm
    cases hm
   .have d1:decide (sc>0)=true:=dT hs0
    have d2:decide (0<sc)=true:=d1;have d3:0<sc:=hs0;by_cases hab:a=b
    .have HE:=lz (show gA x y mR=Ag by rw[HF.out,if_neg (λh=>h.2 hab)])
     have d4:(a==b)=true:=by simpa using hab
     clear hs0;have iR:=bn wr;go_wp2_with fail;refine aB kz kz ?_;repeat (go_big_quiet_step (fail))
     refine E5 ?_;intro _ hw';obtain⟨xx,hw''⟩:=hw';subst hw'';have HX:=lz xx.h;clear iR r0 r1;generalize xx.w=w5 at *;go_wp2;go_ret;refine⟨by rw[HE.out]<;>rfl,?_,(Gr.ak aV.out).trans (HG0.out.trans (Gr.ak HX.out))⟩;intro m hm;rw[HE.out]at hm
     cases hm
    .have HE:=lz (show gA x y mR=Ai pl by rw[HF.out,if_pos ⟨hs0,hab⟩])
     have d4:(a==b)=false:=by simpa using hab
     clear hs0;have iR:=bn wr;go_wp2_with fail;refine aB kz kz ?_;repeat (go_big_quiet_step (fail))
     refine E5 ?_;intro _ hw';obtain⟨xx,hw''⟩:=hw';subst hw'';have HX:=lz xx.h;clear iR r0 r1;generalize xx.w=w5 at *;go_wp2;go_ret;refine⟨?_,?_,(Gr.ak aV.out).trans (HG0.out.trans (Gr.ak HX.out))⟩
     .rw[HE.out]
      show Ending.returned (.bool (a !=b))=_;rw[show(a !=b)=BR from by simpa using hab];rfl
     intro m hm;rw[HE.out]at hm;injection hm with hm
     subst hm;exact Hcm.out.next HX.out
theorem tF(x:ay)(y:aO):∀(l:List aO) (met:List kY),fJ x (l++ [y]) met=(fJ x l met).bind (gA x y)
 | [],met=>by
  show(match gA x y met with | none=>Ag | some m=>fJ x [] m)=gA x y met
  cases gA x y met<;>rfl
 | z :: r,met=>by
  show(match gA x z met with | none=>Ag | some m=>fJ x (r++ [y]) m)=(match gA x z met with | none=>Ag | some m=>fJ x r m).bind (gA x y)
  cases gA x z met with
  | none=>rfl
  | some m=>exact tF x y r m
theorem Uu{x:ay}{y:aO}{mR m:List kY}(h:gA x y mR=Ai m):m.length<=mR.length+2:=by
 unfold gA at h
 cases h1:iP x y.net (bg x y.a) (mR,0)with
 | none=>rw[h1]at h;cases h
 | some s1=>
  rw[h1]at h;simp only at h
  cases h2:iP x y.net (bg x y.b) s1 with
  | none=>rw[h2]at h;cases h
  | some s2=>
   rw[h2]at h;simp only at h;split at h
   .injection h with h
    subst h;have:=(tD h1).1;have:=(tD h2).1;simp only at *;omega
   .cases h
theorem tZ{α:Type}{l:List α}{k:Nat}(hk:k<l.length):l.take (k+1)=l.take k++ [l[k]]:=List.take_succ_eq_append_getElem hk
theorem Uv(x:ay)(l:List aO):∀k,k<=l.length->(fJ x l []).isSome=BR->(fJ x (l.take k) []).isSome=true:=by
 intro k hk h;obtain⟨d,hd⟩:=ez (l.length-k)
 induction d generalizing k with
 | zero=>rw[List.take_of_length_le oz];exact h
 | succ d ih=>
  have:=ih (k+1) oz oz;rw[tZ oz,tF]at this
  cases h2:fJ x (l.take k) []with
  | none=>rw[h2]at this;cases this
  | some m=>rfl
theorem Uw(x:ay)(l:List aO):((EO l.length).all λk=>(fJ x (l.take (k+1)) []).isSome)=(fJ x l []).isSome:=by
 cases h:(fJ x l []).isSome with
 | true=>
  rw[List.all_eq_true];intro k hk;exact Uv x l (k+1) (by simp at hk;omega) h
 | false=>
  cases hl:l with
  | nil=>rw[hl]at h;cases h
  | cons y r=>
   rw[<-hl];have hn:0<l.length:=by rw[hl];simp
   rw[List.all_eq_false];exact⟨l.length-1,qo,by rw[show l.length-1+1=l.length by omega,List.take_length,h];decide⟩
theorem aBx(x:ay)(g:Nat)(w:Al)(h:tU w g x)(hr:x.rd w w.heap.size)(IK:x.mods.l.length<=100000)(Qc:x.aP.l.length<=100000)(XK:x.links.l.length<=40000)(pQ:∀y∈x.links.l,0<=y.net/\y.net<=1):CU 27 #[.pointer (Ai ⟨g,0,Ag⟩)] w (.bool (tC x)):=by
 obtain⟨y0,bR⟩:=ez (((w.alloc (.cells #[.pointer (Ai ⟨g,0,Ag⟩)] 92)).alloc (.map #[] 0)).alloc (.cells #[.map (Ai (w.heap.size+1))] 172));have bW:BD w.heap.size w y0:=by rw[bR];exact((bN).alloc qz _).alloc qo _
 have bS:ah y0 w.heap.size 92 #[.pointer (Ai ⟨g,0,Ag⟩)]:=by rw[bR];exact((ah.new w _ _).alloc _).alloc _
 have hc:aH KP y0 (w.heap.size+1) []:=by rw[bR];have:=aH.made (M:=KP) (w.alloc (.cells #[.pointer (Ai ⟨g,0,Ag⟩)] 92));rw[Dj]at this;exact this.alloc _
 have hm:ah y0 (w.heap.size+1+1) 172 #[.map (Ai (w.heap.size+1))]:=by rw[bR];have:=ah.new ((w.alloc (.cells #[.pointer (Ai ⟨g,0,Ag⟩)] 92)).alloc (.map #[] 0)) 172 #[.map (Ai (w.heap.size+1))];simp only[Dj]at this;exact this
 have hz:y0.heap.size=w.heap.size+3:=by rw[bR];simp
 have hg0:=h.below bW;have wu:=ah.lt h;have jy:x.rd y0 w.heap.size:=hr.dn nL (cZ bW);have au:=Qz 86 #[.pointer (Ai ⟨w.heap.size,0,Ag⟩),.pointer (Ai ⟨w.heap.size+1+1,0,Ag⟩)] (λk=>(fJ x (x.links.l.take (k+1)) []).isSome)
  (λk W=>∃mR,fJ x (x.links.l.take k) []=Ai mR/\mR.length<=2*k/\aH KP W (w.heap.size+1) mR/\Gr (λk=>k=w.heap.size+1) y0 W)
  (λk=>k=w.heap.size+1) w.heap.size (Df func86 kz rfl) x.links.l x.links.a x.links.c y0
  (λk hk W hJ=>by
   obtain⟨mR,h1,h2,h3,h4⟩:=hJ;have hs:fJ x (x.links.l.take (k+1)) []=gA x x.links.l[k] mR:=by rw[tZ hk,tF,h1];rfl
   have hsz:=h4.size;refine(aBr x x.links.l[k] g w.heap.size (w.heap.size+1+1) (w.heap.size+1) w.heap.size mR W (h4.blk bS oz) (h4.blk hm oz) h3 (hg0.gr h4 oz) (jy.dn nL (kN h4 oz (λk e=>by omega))) oz IK Qc oz (pQ _ (List.getElem_mem hk))).mono ?_;rintro e W' ⟨rfl,h5,h6⟩;refine⟨by simp only[hs],λhq=> ?_,h6⟩;simp only[hs]at hq;obtain⟨m,Kw⟩:=Option.isSome_iff_exists.1 hq;exact⟨m,by rw[hs,Kw],by have:=Uu Kw;omega,h5 m Kw,h4.trans h6⟩)
  (λk W o hJ=>by
   obtain⟨mR,h1,h2,h3,h4⟩:=hJ;exact⟨mR,h1,h2,h3.alloc _,h4.trans (Gr.alloc _ _ _)⟩)
  ⟨[],rfl,qz,hc,Gr.refl _ _⟩ jy.links oz (λk e=>by omega) oz
 rw[Uw]at au;have HP:=lz (show tC x=(fJ x x.links.l []).isSome from rfl);obtain⟨q,hq⟩:=ez ((fJ x x.links.l []).isSome);rw[<-hq]at au HP;have k3:=bR▸hg0.cell 3;have Hc:=lz au;have aV:=lz bW;have dV:=lz bR;have hmk:= @run_makeMap pG;clear au hq bW bR bS hc hm hz hg0 jy hr h pQ;go_enter func27,ntmps27;go_wp2_with fail;rw[<-dV.out];refine Hc.out.mono ?_;rintro e y1 ⟨rfl,hg1⟩;have HG:=lz hg1;clear hg1 Hc k3;go_wp2;go_ret;exact⟨by rw[HP.out]<;>rfl,⟨HG.out.os.trans aV.out.os,HG.out.tape.trans aV.out.tape,HG.out.output.trans aV.out.output,nT aV.out.size HG.out.size,λk hk=>(HG.out.block k (by have:=aV.out.size;omega) oz).trans (aV.out.block k hk)⟩⟩
