import Derived.Test.YtmdgooofdmpcjaaGreatDoorY26
import Derived.Test.YtmdgooofdmpcjaaGreatDoorY34
import Derived.Test.YtmdgooofdmpcjaaGreatDoorY42
import Derived.Test.YtmdgooofdmpcjaaGreatDoorY27
import Derived.Test.YtmdgooofdmpcjaaGreatDoorY0
set_option maxRecDepth 100000
set_option maxHeartbeats 8000000
set_option linter.unusedSimpArgs false
set_option linter.unusedVariables false
set_option linter.unusedSectionVars false
open Go.Proofs.Tryz renaming prog → pG
namespace Go.Proofs.YtmdgooofdmpcjaaGreatDoor
section
open Go.ChangeShapes Go.WideShapes Go.ChangeAt Go.RowKit
attribute [local go_sem] Oper.semAt_some
theorem aCy{W:World}{base cp:Nat}{A:Option Addr}{l:List Nat}(h:W.ownsRow base 3 1 (.slice A l.length cp) l.length (l.map fun k:Nat=>Value.int .i64 (k:Int))):fV W W.heap.size A (l.map fun k:Nat=>(k:Int)):=by
 have e:(l.map fun k:Nat=>Value.int .i64 (k:Int))=(l.map fun k:Nat=>(k:Int)).map (Value.int .i64):=by rw[List.map_map];rfl
 have e2:l.length=(l.map fun k:Nat=>(k:Int)).length:=by simp
 rw[e,e2]at h;exact nu h
theorem aCK(s:aQ)(src:Nat)(R:List aI):Ou (fun _=>0) src 1=aAB s src R 0:=by
 funext j;unfold aAB Ou;simp
theorem aCL(R:List aI):(fun _=>0)=aAA R 0:=by
 funext j;unfold aAA;simp
theorem aCc(n:Nat){l:List Nat}(hn:l.Nodup)(h:∀j∈l,j<n):l.length≤n:=by
 have:=CT l (List.range n) hn (fun j hj=>List.mem_range.2 (h j hj));simpa using this
structure aEF(x:ay)(net:Int)(src:Nat)(s:aQ)(R:List aI)(i:Nat)(e:aI):Prop where
 ed:e∈gj x net src
 f12:e.f<12
 t12:e.t<12
 tN:e.t<x.mods.l.length+x.aP.l.length
 frm:aAB s src R i e.f=s.at e.t
 tov:aAB s src R i e.t=0
 pos:0<s.at e.t
 le:s.at e.t≤12
 md:e.f=src∨x.mods.l.length≤e.f
 nx:Ou (aAB s src R i) e.t (s.at e.t+1)=aAB s src R (i+1)
 lf:Ou (aAA R i) e.f (aAA R i e.f+1)=aAA R (i+1)
 ll:0≤aAA R i e.f∧aAA R i e.f≤i
theorem tree_c(x:ay)(v net:Int)(w:World)(hr:x.rd w w.heap.size)(hL:ct w)(hx:∀r∈x.causes.l,r.x.n≤8796093021952):
 CU 6 #[x.val,.int .i64 v,.int .i64 net] w (.bool true):=by
 obtain⟨y0,bR⟩:=ez (w.alloc (.cells #[.slice x.mods.a x.mods.l.length x.mods.c,.slice x.aj.a x.aj.l.length x.aj.c,.slice x.aP.a x.aP.l.length x.aP.c,.slice x.links.a x.links.l.length x.links.c,.slice x.aF.a x.aF.l.length x.aF.c,.slice x.bQ.a x.bQ.l.length x.bQ.c,.slice x.causes.a x.causes.l.length x.causes.c,.slice x.aA.a x.aA.l.length x.aA.c] 31));obtain⟨gc,uW⟩:=ez w.heap.size;have bW:Below w.heap.size w y0:=by rw[bR];exact bN
 have bS:ah y0 gc 31 x.arr:=by rw[bR,uW];exact ah.new w _ _
 have hs0:y0.heap.size=gc+1:=by rw[bR,uW];simp
 have haw:=La y0 (hL.below bW);have Haw:=lz haw;have gW:Hid (∀W,Below y0.heap.size y0 W→W.cell? ⟨gc,0,none⟩=some (.slice x.mods.a x.mods.l.length x.mods.c)∧W.cell? ⟨gc,1,none⟩=some (.slice x.aj.a x.aj.l.length x.aj.c)∧W.cell? ⟨gc,2,none⟩=some (.slice x.aP.a x.aP.l.length x.aP.c)∧W.cell? ⟨gc,3,none⟩=some (.slice x.links.a x.links.l.length x.links.c)∧W.cell? ⟨gc,4,none⟩=some (.slice x.aF.a x.aF.l.length x.aF.c)∧W.cell? ⟨gc,5,none⟩=some (.slice x.bQ.a x.bQ.l.length x.bQ.c)∧W.cell? ⟨gc,6,none⟩=some (.slice x.causes.a x.causes.l.length x.causes.c)∧W.cell? ⟨gc,7,none⟩=some (.slice x.aA.a x.aA.l.length x.aA.c)):=lz fun W hW=>by
  have h:=bS.below hW oz;exact⟨h.cell 0,h.cell 1,h.cell 2,h.cell 3,h.cell 4,h.cell 5,h.cell 6,h.cell 7⟩
 have kX:Hid (∀W,Below y0.heap.size y0 W→x.rd W W.heap.size∧ct W∧Below w.heap.size w W):=lz fun W hW=>by
  have h:=bW.trans (hW.mono bW.size);exact⟨hr.below h,hL.below h,h⟩
 have Hx:=lz hx;have dV:=lz bR;have Oc:=lz uW;have Hs0:=lz hs0;clear bR uW bW bS hs0 haw hr hL hx;go_enter Tryz.func6,Tryz.ntmps6;go_wp2_with fail;rw[←dV.out,←Oc.out];refine Haw.out.mono ?_;rintro e W1 ⟨rfl,aU⟩;obtain⟨c0,c1,c2,c3,c4,c5,c6,c7⟩:=gW.out W1 aU;have cU:=lz aU;clear aU;go_wp2_with fail;clear c0 c1 c2 c3 c4 c5 c6 c7;refine(Q0 x W1 (kX.out W1 cU.out).1).mono ?_;rintro e W2 ⟨⟨zs,rfl⟩,dI⟩;have eF:=lz (cU.out.trans (dI.mono cU.out.size));obtain⟨c0,c1,c2,c3,c4,c5,c6,c7⟩:=gW.out W2 eF.out;clear dI;by_cases hzs:zs>600
 ·go_wp2_with fail
  go_ret;exact⟨rfl,(kX.out W2 eF.out).2.2⟩
 go_wp2_with fail;clear c0 c1 c2 c3 c4 c5 c6 c7;refine(yx x W2 (kX.out W2 eF.out).1 (kX.out W2 eF.out).2.1 Hx.out).mono ?_;rintro e W3 ⟨rfl,kq⟩;have mP:=lz (eF.out.trans (kq.mono eF.out.size));obtain⟨c0,c1,c2,c3,c4,c5,c6,c7⟩:=gW.out W3 mP.out;clear kq;by_cases hc0:cW x≠0
 ·generalize cW x=zc at*
  have hcz:(zc !=0)=true:=by simpa using hc0
  go_wp2;go_ret;exact⟨rfl,(kX.out W3 mP.out).2.2⟩
 have hc:cW x=0:=Decidable.of_not_not hc0;rw[hc];have Hc:=lz hc;clear hc hc0;go_wp2_with fail;clear c0 c1 c2 c3 c4 c5 c6 c7
 cases oU:Ab x v net with
 | false=>
  refine(Ol x v net W3 (kX.out W3 mP.out).1 (kX.out W3 mP.out).2.1 Hx.out oU).mono ?_;rintro e W4 ⟨rfl,mF⟩;have pN:=lz (mP.out.trans (mF.mono mP.out.size));obtain⟨c0,c1,c2,c3,c4,c5,c6,c7⟩:=gW.out W4 pN.out;clear mF;go_wp2_with fail;clear c0 c1 c2 c3 c4 c5 c6 c7;refine(K4 x v net W4 (kX.out W4 pN.out).1 (kX.out W4 pN.out).2.1 Hx.out oU).mono ?_;rintro e W5 ⟨rfl,jU⟩;have tT:=lz (pN.out.trans (jU.mono pN.out.size));clear jU;go_wp2;go_ret;exact⟨rfl,(kX.out W5 tT.out).2.2⟩
 | true=>
  obtain⟨-,hv0,Me,qw,NI⟩:=oV.1 oU;obtain⟨k,rfl⟩:∃k:Nat,v=(k:Int):=⟨v.toNat,oz⟩;have hk:k<x.aF.l.length:=by omega
  clear oU;refine(qL x k net W3 (kX.out W3 mP.out).1 (kX.out W3 mP.out).2.1 Hx.out Hc.out hk qw NI).mono ?_;rintro e W4 ⟨hP,mF⟩;have pN:=lz (mP.out.trans (mF.mono mP.out.size));by_cases rG:∃m∈bV x x.aF.l[k],(dW x net x.aF.l[k]).at m<0
  ·obtain rfl:=hP.2 rG
   obtain⟨c0,c1,c2,c3,c4,c5,c6,c7⟩:=gW.out W4 pN.out;clear hP rG mF;go_wp2_with fail;clear c0 c1 c2 c3 c4 c5 c6 c7;refine(ql x k net W4 (kX.out W4 pN.out).1 (kX.out W4 pN.out).2.1 Hx.out Hc.out hk qw NI).mono ?_;rintro e W5 ⟨A,cp,rfl,-,-,-,jU⟩;have tT:=lz (pN.out.trans (jU.mono pN.out.size));clear jU;go_wp2;go_ret;exact⟨rfl,(kX.out W5 tT.out).2.2⟩
  have aJ:∀m∈bV x x.aF.l[k],0≤(dW x net x.aF.l[k]).at m:=fun m hm=>by
   have h:¬((dW x net x.aF.l[k]).at m<0):=fun h=>rG ⟨m,hm,h⟩
   omega
  obtain⟨A,cp,R,rfl,hp,ho,aCx,aQD,iO⟩:=hP.1 aJ;have fK:=gV iO;have aDo:=lz fK;have Hpo:=lz (ai hp (ai ho aJ));obtain⟨c0,c1,c2,c3,c4,c5,c6,c7⟩:=gW.out W4 pN.out;clear hP rG hp ho fK iO mF aJ;go_wp2_with fail;clear c0 c1 c2 c3 c4 c5 c6 c7;refine(ql x k net W4 (kX.out W4 pN.out).1 (kX.out W4 pN.out).2.1 Hx.out Hc.out hk qw NI).mono ?_;rintro e W5 ⟨A1,cp1,rfl,aDW,aFV,aB1,jU⟩;obtain⟨hp,ho,aJ⟩:=Hpo.out;have tT:=lz (pN.out.trans (jU.mono pN.out.size));have aGh:=lz (aDo.out.below jU);obtain⟨bv,ov,hva,hbv,hvc⟩:=(kX.out W5 tT.out).1.aF (show 0<x.aF.l.length by omega);have aLi:=(hvc k hk).2.1;obtain⟨y,hy⟩:=ez (x.aF.l[k]);have yu:y∈x.aF.l:=by rw[hy];exact List.getElem_mem hk
  rw[←hy]at hp ho aJ aB1 aLi aDW ⊢;have cD:=jw Hc.out net yu;have Fw:=CR cD.inv (bV x y) aJ;have hR:jk (gj x net (dX x y)) (dW x net y) (dX x y) (bV x y) R:=jk.Ky Fw hp ho;have aDa:=aBv Hc.out yu aJ hR;have iJ:=fun i hi=>aDO Hc.out yu aJ hR i hi
  have aQP:=jv Hc.out;have I6:=JF Hc.out net yu;have hda:=Zg Hc.out net yu;have hN:x.mods.l.length+x.aP.l.length≤12:=Eo Hc.out;have Qc:=(En Hc.out yu).1;have hch:=El Hc.out yu;obtain⟨src,K2⟩:=ez (dX x y);obtain⟨s,hs⟩:=ez (dW x net y);have hle:∀j,s.at j≤12:=fun j=>by rw[hs];exact aQ.tX cD.inv oz j
  have aDb:=fun i hi h0=>aCY hR i hi h0
  have hnd:bg x y.src.m=(src:Int):=by rw[K2];unfold dX;have:=hch.2.1;have:=hch.1;omega
  rw[←hs]at hda cD hR aDb aJ;rw[←K2]at Qc cD hR aDa;have hRm:∀i (hi:i<R.length),aEF x net src s R i R[i]:=fun i hi=>by
   obtain⟨h1,h2,h3,h4⟩:=Lf cD.inv hR aJ i hi;have h5:=qI Hc.out net src _ h1;exact⟨h1,oz,oz,h5.1,(aCV cD.inv hR aJ i hi).trans h4.symm,aDJ cD.inv hR aJ i hi,h2,hle _,aAE net src _ h1,aCX cD.inv hR aJ i hi,aCb R i hi,aDK R i _⟩
  have aLr:R.length≤12:=by
   have:=aCc 12 hR.ok.nodup (fun j hj=>by
    obtain⟨e,he,rfl⟩:=List.mem_map.1 hj;obtain⟨i,hi,rfl⟩:=List.getElem_of_mem he;exact(hRm i hi).t12)
   simpa using this
  obtain⟨dl,aLk⟩:=ez (mh x net y);rw[←aLk]at aDW aB1 I6 hda ⊢;obtain⟨n,hn⟩:=ez dl.length;obtain⟨g,cap,hv,hg1,eG⟩:=aB1.form oz;have hA:A1=some ⟨g,0,none⟩:=by injection hv
  have hdc:∀W,Below W5.heap.size W5 W→∀j:Nat,j<n→W.cell? ⟨g,j,none⟩=some (.int .i64 (s.at j)):=fun W hW j hj=>by
   have hj':j<dl.length:=by omega
   have c0:=aB1.cells (g:=g) (by rw[hA];rfl) j (.int .i64 dl[j]) (by simp[hj']);rw[add_plain,Nat.zero_add]at c0;rw[←hda j hj'];exact(hW.cell (p:=⟨g,j,none⟩) eG).trans c0
  subst hA;have hnN:n=x.mods.l.length+x.aP.l.length:=by rw[hn];exact I6
  rw[←hn]at aDW ⊢;have HN5:Hid (∀z:Ext W5,CU 12 #[x.val,.string y.src.m] z.w (.int .i64 (src:Int))):=lz fun z=>by
   rw[←hnd];exact vI x y.src.m z.w (kX.out z.w (tT.out.trans (z.h.mono tT.out.size))).1 oz oz
  obtain⟨c0,c1,c2,c3,c4,c5,c6,c7⟩:=gW.out W5 tT.out;have iR:=bn W5;rw[hva]at c4;have hvi:(k:Int)<(x.aF.l.length:Int):=by omega
  have Hva:=lz hva;have aEH:=lz aDa;have vQ:=lz iJ;have aDp:=lz aDb;have Hdc:=lz hdc;have HRm:=lz hRm;have Yv:=lz hle;have Hy:=lz hy;have Hyl:=lz yu;have Hsr:=lz K2;have HnN:=lz hnN;obtain⟨MI,lS,Pc,hq4⟩:=aQP;have aEN:src<12:=by omega
  have aX2:gc<W5.heap.size:=by have:=tT.out.size;have:=Hs0.out;omega
  clear hp ho aJ aB1 cD Fw hR aDa iJ I6 hda hch K2 hs hle aDb hnd hRm aLk hn hv hdc hnN hy yu hva hvc jU Hpo aDo;go_wp2_with fail;refine aB kz kz ?_;repeat (go_big_quiet_step ((go_at_call 12;rw[←Hva.out];with_reducible exact dN (HN5.out _))))
  refine wpQuiet_nil ?_;intro _ hw';obtain⟨xx,hw''⟩:=hw';subst hw'';have HX6:=lz xx.h;clear iR HN5 c0 c1 c2 c3 c4 c5 c6 c7 aLi;generalize xx.w=W6 at *;have DV:=lz (tT.out.trans (HX6.out.mono tT.out.size));have hmm:= @run_makeMap pG;have hM0:=lM.made W6;have hput:=hM0.put (by unfold maxLen;omega) src oz 1;obtain⟨W7,Cr,zO,zo⟩:=hput;have HM:=lz (ai zO zo);clear hM0 zO zo;go_wp2_with fail;obtain⟨mp,hmp⟩:=ez W6.heap.size;obtain⟨ml,IK⟩:=ez W7.heap.size;obtain⟨W8,hW8⟩:=ez (W7.alloc (.map #[] 0));rw[←hmp,←IK,←hW8];have NN:Below W6.heap.size W6 W7:=(bN).grown HM.out.2 qz (fun j e=>by cases e;exact Nat.le_refl _);have hz7:mp<ml:=by have:=HM.out.2.size;simp at this;omega
  have Ve:Below W6.heap.size W6 W8:=by rw[hW8];exact NN.alloc NN.size _
  have Wq:lM W8 mp 1 (aAB s src R 0):=by
   have h:=HM.out.1.below (w':=W7.alloc (.map #[] 0)) (bN);rw[aCK s src R,←hW8,←hmp]at h;exact h
  have uz:lM W8 ml 0 (aAA R 0):=by
   have h:=lM.made W7;rw[aCL R,←hW8,←IK]at h;exact h
  have HI:=lz (ai Wq (ai uz Ve));have aFc:gc<W6.heap.size:=Nat.lt_of_lt_of_le aX2 HX6.out.size;have aFf:W6.heap.size≤mp:=by omega
  clear Wq uz Ve NN hW8 HM Cr hmm hmp IK;go_loopw [73] (fun t wr=>∃(i n1 n2:Nat),i≤R.length∧t= .int .i64 i∧n1≤i+1∧n2≤i∧lM wr mp n1 (aAB s src R i)∧lM wr ml n2 (aAA R i)∧Below W6.heap.size W6 wr) (fun t wr=>R.length-(intOf t).toNat)
  case atStart=>exact⟨0,1,0,nZ,rfl,nL,nL,HI.out.1,HI.out.2.1,HI.out.2.2⟩
  case round=>
   clear HI;obtain⟨i,n1,n2,hi,rfl,hn1',aFm,hMd,hMl,hB⟩:=hrel;by_cases hlt:i<R.length
   ·obtain⟨e,he⟩:=ez (R[i])
    have hT:=HRm.out i hlt;rw[←he]at hT;obtain⟨g1,o1,rfl,aAk,hc1⟩:=aGh.out oz;obtain⟨d0,d1,d2⟩:=hc1 i hlt;rw[←he]at d0 d1 d2;have aAp:=HX6.out.trans (hB.mono HX6.out.size);have d0:=(aAp.cell (p:=⟨g1,o1+i*3,none⟩) aAk).trans d0;have d1:=(aAp.cell (p:=⟨g1,o1+i*3+1,none⟩) aAk).trans d1;have d2:=(aAp.cell (p:=⟨g1,o1+i*3+2,none⟩) aAk).trans d2;have hiR:(i:Int)<(R.length:Int):=by omega
    obtain⟨V1,hV1⟩:=ez (wr.alloc (.cells #[.int .i64 e.f,.int .i64 e.t,.int .i64 e.l] 53));have bY:Below wr.heap.size wr V1:=by rw[hV1];exact bN
    have gP:ah V1 wr.heap.size 53 #[.int .i64 e.f,.int .i64 e.t,.int .i64 e.l]:=by rw[hV1];exact ah.new wr _ _
    have cU:=lz (ai hB bY);have DU:=lz gP;have HT:=lz hT;have HcR:=lz hc1;have He:=lz he;have HV1:=lz hV1;have aF2:=hMd.lt;have aEP:=hMl.lt;have aDU:=hMd.below bY;have aDs:=hMl.below bY;have DL:=aDU.look e.f (by have:=hT.f12;omega);have Cb:=aDU.look e.t (by have:=hT.t12;omega);rw[hT.frm]at DL;rw[hT.tov]at Cb;have HM1:=lz (ai aDU aDs);obtain⟨a,ha⟩:=ez (s.at e.t);rw[←ha]at DL;have Ha:=lz ha;have hap:0<a:=by rw[ha];exact hT.pos
    have TV:a≤12:=by rw[ha];exact hT.le
    have haz:(a==0)=false:=by rw[beq_eq_false_iff_ne];omega
    obtain⟨c0,c1,c2,c3,c4,c5,c6,c7⟩:=gW.out V1 (DV.out.trans ((hB.trans (bY.mono hB.size)).mono DV.out.size));rw[hV1]at DL Cb c0 c1 c2 c3 c4 c5 c6 c7;clear hB bY gP hT hc1 he hV1 aDU aDs hMd hMl aAp ha;go_wp2_with fail;rw[←HV1.out];refine(aDP x net src e V1 (kX.out V1 (DV.out.trans ((cU.out.1.trans (cU.out.2.mono cU.out.1.size)).mono DV.out.size))).1 Hc.out HT.out.ed).mono ?_;rintro r V2 ⟨rfl,dI⟩;have pq:Below wr.heap.size wr V2:=cU.out.2.trans (dI.mono cU.out.2.size);have hx2:=DU.out.below dI DU.out.lt;have aDd:=HM1.out.1.below dI;have aDt:=HM1.out.2.below dI;obtain⟨Qm,hT2,hT3,hT4,hT5,-,-,-,hT9,aDV,aDe,aDx⟩:=HT.out;rw[←Ha.out]at hT5 aDV;have qD:=aDd.look e.f oz;rw[hT5]at qD;obtain⟨V3,zo,aDf,wk⟩:=aDd.put (by unfold maxLen;omega) e.t oz (a+1);rw[aDV]at aDf;have hx3:=(Gr.eO wk (fun _ e=>e)).blk hx2 (fun e=>by have e:=Option.some.inj e;omega);have aDg:=aDt.grown wk (fun e=>by have e:=Option.some.inj e;omega);have Pn:Below W6.heap.size W6 V3:=(cU.out.1.trans (pq.mono cU.out.1.size)).grown wk (by have:=cU.out.1.size;have:=pq.size;omega) (fun j e=>by have e:=Option.some.inj e;omega);have Xk:=aDg.look e.f oz;obtain⟨b,hb⟩:=ez (aAA R i e.f);rw[←hb]at Xk aDe aDx;obtain⟨V4,hp4,aDh,hG4⟩:=aDg.put (by unfold maxLen;omega) e.f oz (b+1);rw[aDe]at aDh;have hx4:=(Gr.eO hG4 (fun _ e=>e)).blk hx3 (fun e=>by have e:=Option.some.inj e;omega);have aDi:=aDf.grown hG4 (fun e=>by have e:=Option.some.inj e;omega);have Mj:Below W6.heap.size W6 V4:=Pn.grown hG4 (Pn.size) (fun j e=>by have e:=Option.some.inj e;omega);have cN:IntKind.i64.wrap (a+1)=a+1:=IntWalk.i64_in _ oz;have hw2:IntKind.i64.wrap (b+1)=b+1:=IntWalk.i64_in _ oz;have hl5:=fun q=>(aDi.below (w':=V4.drewN q) (aD (Below.refl _ _))).look e.t (show e.t<1000 by omega)
    have h55:aAB s src R (i+1) e.t=a+1:=by rw[←aDV];exact U8 _ _ _
    simp only[h55]at hl5;have hw3:IntKind.i64.wrap (a+1-1)=a:=by rw[IntWalk.i64_in _ oz];omega
    have x20:=hx2.cell 0;have x21:=hx2.cell 1;have x30:=hx3.cell 0;have x41:=hx4.cell 1;have hX4:=HX6.out.trans (Mj.mono HX6.out.size);have e0:=Hdc.out V4 hX4 e.t (by have:=HnN.out;omega);rw[←Ha.out]at e0;have htn:(e.t:Int)<(n:Int):=by have:=HnN.out;omega
    have HZ:=lz (ai aDi (ai aDh Mj));obtain⟨c0,c1,c2,c3,c4,c5,c6,c7⟩:=gW.out V2 (DV.out.trans ((cU.out.1.trans (pq.mono cU.out.1.size)).mono DV.out.size));have hor:∃(u:Bool),((e.f:Int) !=(src:Int))=u∧(u=true→(e.f<x.mods.l.length)=False):=by
     refine⟨_,rfl,fun h=>eq_false ?_⟩;rcases hT9 with q | q
     ·rw[q]at h;simp at h
     ·omega
    obtain⟨u,hu1,hu2⟩:=hor;have HX4:=lz hX4;clear pq hx2 aDd aDt Qm hT2 hT3 hT4 hT5 hT9 aDV aDe aDx aDf wk hx3 aDg Pn hb aDh hG4 hx4 aDi Mj h55 dI hX4;have hF:((0<i)=False)∨∃(j p:Nat) (a':Int) (q:Bool),(0<i)=True∧IntKind.i64.wrap ((i:Int)-1)=(j:Int)∧(j:Int)<(R.length:Int)∧V4.cell? ⟨g1,o1+j*3+1,none⟩=some (.int .i64 (p:Int))∧V4.cell? ⟨g,p,none⟩=some (.int .i64 a')∧(p:Int)<(n:Int)∧(a<a')=False∧(a'==a)=q∧(q=true→(e.t≤p)=False):=by
     rcases Nat.eq_zero_or_pos i with h0 | h0
     ·exact .inl (eq_false oz)
     ·have hjl:i-1<R.length:=by omega
      have hT':=HRm.out (i-1) hjl;have hpn:R[i-1].t<n:=by have:=HnN.out;have:=hT'.tN;omega
      have ho:=aDp.out i hlt h0;rw[←He.out,←Ha.out]at ho;exact .inr ⟨i-1,R[i-1].t,s.at R[i-1].t,_,eq_true h0,by rw[IntWalk.i64_in _ oz];omega,oz,((HX4.out).cell (p:=⟨g1,o1+(i-1)*3+1,none⟩) aAk).trans (HcR.out (i-1) hjl).2.1,Hdc.out V4 HX4.out _ hpn,oz,eq_false (by have:=ho.1;omega),rfl,fun h=>eq_false (fun h2=>ho.2 ⟨eq_of_beq h,h2⟩)⟩
    cases u
    all_goals try have hu2:=hu2 rfl
    all_goals
     go_wp2_with fail;clear c0 c1 c2 c3 c4 c5 c6 c7 DL Cb qD Xk zo hp4 x20 x21 x30 cN hw2 hu1 hu2;rcases hF with hg0 | ⟨j,p,a',_ | _,hg0,hjw,hjR,qc,e1,aEo,og,hq0,JQ⟩
     all_goals try have JQ:=JQ rfl
     all_goals
      go_quiet (fail);go_wp2;go_roundw
      case rel=>exact⟨i+1,n1+1,n2+1,oz,by go_num,oz,oz,HZ.out.1.below (aD (Below.refl _ _)),HZ.out.2.1.below (aD (Below.refl _ _)),aD HZ.out.2.2⟩
      case measure=>simp[intOf];omega
   ·have hie:i=R.length:=by omega
    have YO:((i:Int)<(R.length:Int))=False:=eq_false oz;rw[hie]at hMl;have HMl:=lz hMl;have HBe:=lz hB;obtain⟨c0,c1,c2,c3,c4,c5,c6,c7⟩:=gW.out wr (DV.out.trans (hB.mono DV.out.size));clear hMl hMd hB hie;go_wp2_with fail;clear c0 c1 c2 c3 c4 c5 c6 c7;refine(aDR x k wr (kX.out wr (DV.out.trans (HBe.out.mono DV.out.size))).1 Hc.out hk).mono ?_;rintro e V1 ⟨A3,cD,rfl,yP,kq⟩;rw[←Hy.out]at yP ⊢;obtain⟨D,hD⟩:=ez (aAC x y x.mods.l.length);rw[←hD]at yP ⊢;have HD:=lz hD;have aD0:=lz (aCy yP);have HBV:=lz (HBe.out.trans (kq.mono HBe.out.size));have hMl:=HMl.out.below kq;have HMv:=lz hMl;have hD4:D.length≤4:=by rw[hD];have:=aAj x y x.mods.l.length;omega
    have aEP:=hMl.lt;clear yP kq hD hMl;generalize wr=W9 at *;go_wp2;go_loopw [195] (fun t wq=>∃(i:Nat),i≤R.length∧t= .int .i64 i∧Below V1.heap.size V1 wq) (fun t wq=>R.length-(intOf t).toNat)
    case atStart=>exact⟨0,nZ,rfl,Below.refl _ _⟩
    case round=>
     obtain⟨i,hi,rfl,hB⟩:=hrel;by_cases hlt:i<R.length
     ·obtain⟨e,he⟩:=ez (R[i])
      have hT:=HRm.out i hlt;rw[←he]at hT;obtain⟨g1,o1,rfl,aAk,hc1⟩:=aGh.out oz;obtain⟨d0,d1,d2⟩:=hc1 i hlt;rw[←he]at d0 d1 d2;have aAp:=HX6.out.trans ((HBV.out.trans (hB.mono HBV.out.size)).mono HX6.out.size);have d0:=(aAp.cell (p:=⟨g1,o1+i*3,none⟩) aAk).trans d0;have d1:=(aAp.cell (p:=⟨g1,o1+i*3+1,none⟩) aAk).trans d1;have d2:=(aAp.cell (p:=⟨g1,o1+i*3+2,none⟩) aAk).trans d2;have hiR:(i:Int)<(R.length:Int):=by omega
      obtain⟨V2,hV2⟩:=ez (wr.alloc (.cells #[.int .i64 e.f,.int .i64 e.t,.int .i64 e.l] 53));obtain⟨hb,hhb⟩:=ez wr.heap.size;have bY:Below wr.heap.size wr V2:=by rw[hV2];exact bN
      have gP:ah V2 hb 53 #[.int .i64 e.f,.int .i64 e.t,.int .i64 e.l]:=by rw[hV2,hhb];exact ah.new wr _ _
      have eF:=lz (hB.trans (bY.mono hB.size));have DU:=lz gP;have HT:=lz hT;have He:=lz he;have HV2:=lz hV2;have Hhb:=lz hhb;clear hB bY gP hT hc1 he hV2 aAp hhb;go_wp2_with fail;rw[←HV2.out,←Hhb.out];go_loopw [201,19] (fun t u wq=>∃(j:Nat),j≤D.length∧t= .int .i64 j∧u= .bool ((D.take j).any fun m=>decide (m=e.t))∧Below V2.heap.size V2 wq) (fun t u wq=>D.length-(intOf t).toNat)
      case atStart=>exact⟨0,nZ,rfl,rfl,Below.refl _ _⟩
      case round=>
       obtain⟨j,hj,rfl,rfl,hB⟩:=hrel;by_cases hjl:j<D.length
       ·obtain⟨b3,o3,rfl,kq,hc3⟩:=aD0.out qo
        have m0:=hc3 j (by simpa using hjl);rw[List.getElem_map]at m0;obtain⟨m,hm⟩:=ez (D[j]);rw[←hm]at m0;have WY:(D.take (j+1)).any (fun m=>decide (m=e.t))=((D.take j).any (fun m=>decide (m=e.t))||decide (m=e.t)):=by
         rw[List.take_succ_eq_append_getElem hjl,List.any_append,←hm];simp
        have m0:=((eF.out.trans (hB.mono eF.out.size)).cell (p:=⟨b3,o3+j,none⟩) kq).trans m0;have x1:=(DU.out.below hB DU.out.lt).cell 1;have hjD:(j:Int)<(D.length:Int):=by omega
        have HBj:=lz hB;clear hc3 hm hB;have hq:∃(u r:Bool),((D.take j).any fun m=>decide (m=e.t))=u∧((m:Int)==(e.t:Int))=r∧(D.take (j+1)).any (fun m=>decide (m=e.t))=(u||r):=⟨_,_,rfl,rfl,by rw[WY];congr 1;rw[Bool.eq_iff_iff];simp;omega⟩;obtain⟨u,r,ha,hq0,WY⟩:=hq;rw[ha];have Htk:=lz WY;clear WY ha
        cases u
        all_goals cases r
        all_goals
         go_wp2;go_roundw
         case rel=>exact⟨j+1,oz,by go_num,by rw[Htk.out];rfl,HBj.out⟩
         case measure=>simp[intOf];omega
       ·have hje:j=D.length:=by omega
        have hjn:((j:Int)<(D.length:Int))=False:=eq_false oz;rw[hje,List.take_length];have HBj:=lz (eF.out.trans (hB.mono eF.out.size));have x1:=(DU.out.below hB DU.out.lt).cell 1;have hlk:=(HMv.out.below (eF.out.trans (hB.mono eF.out.size))).look e.t (by have:=HT.out.t12;omega);clear hB hje;obtain⟨lv,hlv⟩:=ez (aAA R R.length e.t);rw[←hlv]at hlk;obtain⟨u,ha⟩:=ez (D.any fun m=>decide (m=e.t))
        have hq0:u=false→(lv==0)=false:=fun hu=>beq_eq_false_iff_ne.2 (fun h=>by
         have h2:=vQ.out i hlt (by rw[←He.out,←hlv];exact h);rw[←He.out,←HD.out]at h2;have h3:=List.any_eq_false.1 (ha.symm.trans hu) _ h2;simp at h3)
        rw[←ha];clear ha hlv
        cases u
        all_goals try have hq0:=hq0 rfl
        all_goals
         go_wp2;go_roundw
         case rel=>exact⟨i+1,oz,by go_num,HBj.out⟩
         case measure=>simp[intOf];omega
     ·have hie:i=R.length:=by omega
      have aYB:((i:Int)<(R.length:Int))=False:=eq_false oz;have VA:=lz (HBV.out.trans (hB.mono HBV.out.size));have aD3:=lz (aD0.out.below hB);obtain⟨c0,c1,c2,c3,c4,c5,c6,c7⟩:=gW.out wr (DV.out.trans (VA.out.mono DV.out.size));have aEv:=lz (aGh.out.below (HX6.out.trans (VA.out.mono HX6.out.size)));clear hB hie;go_wp2_with fail;clear c0 c1 c2 c3 c4 c5 c6 c7;refine(Ag x k A cp R wr (kX.out wr (DV.out.trans (VA.out.mono DV.out.size))).1 (kX.out wr (DV.out.trans (VA.out.mono DV.out.size))).2.1 Hx.out Hc.out hk aEv.out oz (fun e he=>by
       obtain⟨i,hi,rfl⟩:=List.getElem_of_mem he;have:=HRm.out i hi;have:=this.f12;have:=(HRm.out i hi).t12;omega)).mono ?_
      rintro e V8 ⟨A8,c8,rfl,Es,Mi⟩;rw[←Hy.out,←Hsr.out,aEH.out,←HD.out]at Es ⊢;have HB8:=lz (DV.out.trans ((VA.out.trans (Mi.mono VA.out.size)).mono DV.out.size));have aL3:=aCy Es;have aL4:=aD3.out.below Mi;have hsm:=Et (D.map fun k:Nat=>(k:Int)) (D.map fun k:Nat=>(k:Int)) A8 A3 c8 cD V8 aL3 aL4 qo;rw[tI rfl,List.length_map]at hsm;have Hsm:=lz hsm;clear Es Mi aL3 aL4 hsm;go_wp2_with fail;refine Hsm.out.mono ?_;rintro e V9 ⟨rfl,Ms⟩;have Yn:=lz (HB8.out.trans (Ms.mono HB8.out.size));clear Ms;go_wp2;go_ret;exact⟨rfl,(kX.out V9 Yn.out).2.2⟩
end
end Go.Proofs.YtmdgooofdmpcjaaGreatDoor
