import Derived.Test.YtmdgooofdmpcjaaGreatDoorY29
import Derived.Test.YtmdgooofdmpcjaaGreatDoorY34
import Derived.Test.YtmdgooofdmpcjaaGreatDoorY30
import Derived.Test.YtmdgooofdmpcjaaGreatDoorY24
import Derived.Test.YtmdgooofdmpcjaaGreatDoorY0
set_option maxRecDepth 100000
set_option maxHeartbeats 8000000
set_option linter.unusedSimpArgs false
set_option linter.unusedVariables false
set_option linter.unusedSectionVars false
open Go.Proofs.Tryz renaming prog → pG
namespace Go.Proofs.YtmdgooofdmpcjaaGreatDoor
section
open Go.ChangeShapes Go.WideShapes Go.ChangeAt Go.RowKit
attribute [local go_sem] Oper.semAt_some
def aAB(s:aQ)(src:Nat)(R:List aI)(i:Nat):Nat→Int:=fun j=>if j=src then 1 else if j∈(R.take i).map (·.t)then s.at j+1 else 0
section
variable {E:List aI} {N src:Nat} {s:aQ} {ms:List Nat} {R:List aI}
theorem aAD(R:List aI)(i:Nat)(hi:i<R.length)(j:Nat):j∈(R.take (i+1)).map (·.t)↔j∈(R.take i).map (·.t)∨j=R[i].t:=by
 rw[List.take_succ_eq_append_getElem hi,List.map_append,List.mem_append];simp
theorem aCV(h:aQ.Inv E N src s)(hr:jk E s src ms R)(Pm:∀m∈ms,0≤s.at m)(i:Nat)(hi:i<R.length):aAB s src R i R[i].f=s.at R[i].f+1:=by
 unfold aAB;by_cases e:R[i].f=src
 ·rw[if_pos e,e,(h.zero src).2 rfl];rfl
 ·rw[if_neg e]
  rcases Ny h hr Pm i hi with k | k
  ·exact absurd k e
  ·rw[if_pos k]
theorem aDJ(h:aQ.Inv E N src s)(hr:jk E s src ms R)(Pm:∀m∈ms,0≤s.at m)(i:Nat)(hi:i<R.length):aAB s src R i R[i].t=0:=by
 unfold aAB;have hp:=(Lf h hr Pm i hi).2.1;have hne:R[i].t≠src:=fun e=>by rw[e,(h.zero src).2 rfl]at hp;omega
 rw[if_neg hne,if_neg];intro hm;obtain⟨e,he,ht⟩:=List.mem_map.1 hm;obtain⟨j,hj,rfl⟩:=List.getElem_of_mem he;have hj':j<i:=by simp at hj;omega
 have hnd:=hr.ok.nodup;rw[List.getElem_take]at ht;have:=(List.nodup_iff_pairwise_ne.1 hnd);rw[List.pairwise_iff_getElem]at this;have:=this j i qo qo hj';simp only[List.getElem_map]at this;exact this ht
theorem aCX(h:aQ.Inv E N src s)(hr:jk E s src ms R)(Pm:∀m∈ms,0≤s.at m)(i:Nat)(hi:i<R.length):Ou (aAB s src R i) R[i].t (s.at R[i].t+1)=aAB s src R (i+1):=by
 funext j;have hp:=(Lf h hr Pm i hi).2.1;have hne:R[i].t≠src:=fun e=>by rw[e,(h.zero src).2 rfl]at hp;omega
 unfold Ou;by_cases e:j=R[i].t
 ·rw[if_pos e]
  unfold aAB;rw[if_neg (by rw[e];exact hne),if_pos ((aAD R i hi j).2 (.inr e)),e]
 ·rw[if_neg e]
  unfold aAB;by_cases c:j=src
  ·rw[if_pos c,if_pos c]
  ·rw[if_neg c,if_neg c]
   by_cases m:j∈(R.take i).map (·.t)
   ·rw[if_pos m,if_pos ((aAD R i hi j).2 (.inl m))]
   ·rw[if_neg m,if_neg (fun q=>by rcases(aAD R i hi j).1 q with q | q;exact m q;exact e q)]
theorem aCY(hr:jk E s src ms R)(i:Nat)(hi:i<R.length)(h0:0<i):¬(s.at (R[i-1]'(by omega)).t>s.at R[i].t)∧¬(s.at (R[i-1]'(by omega)).t=s.at R[i].t∧(R[i-1]'(by omega)).t≥R[i].t):=by
 have:=hr.ord;rw[List.pairwise_iff_getElem]at this;have h:=this (i-1) i oz hi oz;unfold aI.before at h;omega
def aAA(R:List aI)(i:Nat):Nat→Int:=fun j=>((R.take i).countP fun e=>e.f==j:Nat)
theorem aCb(R:List aI)(i:Nat)(hi:i<R.length):Ou (aAA R i) R[i].f (aAA R i R[i].f+1)=aAA R (i+1):=by
 funext j;unfold Ou aAA;rw[List.take_succ_eq_append_getElem hi];simp only[List.countP_append,List.countP_singleton];by_cases e:j=R[i].f
 ·rw[if_pos e,e];simp
 ·rw[if_neg e]
  have:(R[i].f==j)=false:=by simp;omega
  rw[this];simp
theorem aCd(R:List aI)(j:Nat)(h:∃e∈R,e.f=j):aAA R R.length j≠0:=by
 obtain⟨e,he,hf⟩:=h;unfold aAA;rw[List.take_length];have:0<R.countP fun e=>e.f==j:=List.countP_pos_iff.2 ⟨e,he,by simp[hf]⟩
 omega
theorem aDK(R:List aI)(i j:Nat):0≤aAA R i j∧aAA R i j≤i:=by
 unfold aAA;have h1:(R.take i).countP (fun e=>e.f==j)≤(R.take i).length:=List.countP_le_length;have h2:(R.take i).length≤i:=by simp;omega
 omega
end
theorem aBo{a b:ByteArray}:seqB a b=true↔a=b:=by
 constructor
 ·intro h
  refine Decidable.byContradiction fun e=> ?_
  unfold seqB at h;rw[VP e]at h
  cases h
 ·intro e
  unfold seqB;rw[e];simp
theorem aAi{l:List ByteArray}(h:eM l=true){i j:Nat}(hj:j<l.length)(hij:i<j):l[i]'(by omega)≠l[j]:=by
 unfold eM at h;have h1:=List.all_eq_true.1 h j (List.mem_range.2 hj);rw[List.getElem?_eq_getElem hj]at h1;simp only[Option.getD_some,Bool.not_eq_true']at h1;intro e;have h2:fP l[j] (l.take j)=true:=nS.2 (by
  rw[←e];exact List.mem_iff_getElem.2 ⟨i,qo,qz⟩)
 rw[h1]at h2
 cases h2
section
variable {x:ay} {y:fU} {net:Int}
theorem aCq(hc:cW x=0){i j:Nat}(hi:i<x.mods.l.length)(hj:j<x.mods.l.length)(h:x.mods.l[i].nm=x.mods.l[j].nm):i=j:=by
 have h2:zR x=true:=nQ hc 2 oz;unfold zR at h2;simp only[Bool.and_eq_true]at h2;have hd:=h2.2.1.1.1;rcases Nat.lt_trichotomy i j with c | c | c
 ·have:=aAi hd (i:=i) (j:=j) (by simpa using hj) c
  simp only[List.getElem_map]at this;exact absurd h this
 ·exact c
 ·have:=aAi hd (i:=j) (j:=i) (by simpa using hi) c
  simp only[List.getElem_map]at this;exact absurd h.symm this
theorem aBs(hc:cW x=0){s:ByteArray}(h0:0≤iM x s){m:Nat}(hm:m<x.mods.l.length):seqB s x.mods.l[m].nm=true↔iM x s=m:=by
 unfold iM cV at h0⊢
 cases hf:x.mods.l.findIdx? (fun y:bT=>seqB y.nm s)with
 | none=>rw[hf]at h0;simp at h0
 | some i=>
  obtain⟨hi,h1,-⟩:=List.findIdx?_eq_some_iff_getElem.1 hf;have h1:=aBo.1 h1;simp only;rw[aBo];constructor
  ·intro e
   have:=aCq hc hi hm (h1.trans e);omega
  ·intro e
   obtain rfl:i=m:=by omega
   exact h1.symm
def aAF(x:ay)(y:fU)(m:Nat):Bool:=match x.mods.l[m]? with | some q=>y.dst.l.any fun r=>seqB r.m q.nm | none=>false
def aAC(x:ay)(y:fU)(n:Nat):List Nat:=(List.range n).filter (aAF x y)
theorem aCI(x:ay)(y:fU)(n:Nat):aAC x y (n+1)=aAC x y n++if aAF x y n=true then[n]else[]:=by
 unfold aAC;rw[List.range_succ,List.filter_append];by_cases h:aAF x y n=true<;>simp[h]
theorem aAj(x:ay)(y:fU)(n:Nat):(aAC x y n).length≤n:=by
 have:=List.length_filter_le (aAF x y) (List.range n);unfold aAC;simpa using this
theorem aBu(hc:cW x=0)(hy:y∈x.aF.l){m:Nat}(hm:m<x.mods.l.length):aAF x y m=true↔m∈bV x y:=by
 obtain⟨-,-,h3⟩:=El hc hy;unfold aAF bV;rw[List.getElem?_eq_getElem hm,List.mem_map];simp only[List.any_eq_true];constructor
 ·rintro⟨r,hr,h⟩
  have:=(aBs hc (h3 r hr).1 hm).1 h;exact⟨r,hr,by rw[(h3 r hr).2.1];omega⟩
 ·rintro⟨r,hr,h⟩
  refine⟨r,hr,(aBs hc (h3 r hr).1 hm).2 ?_⟩;have h1:=(h3 r hr).1;rw[(h3 r hr).2.1]at h;omega
theorem aAE(net:Int)(src:Nat):∀e∈gj x net src,e.f=src∨x.mods.l.length≤e.f:=fun e he=>(oT.1 he).2.2.2
theorem aBv(hc:cW x=0)(hy:y∈x.aF.l){R:List aI}(aJ:∀m∈bV x y,0≤(dW x net y).at m)(hR:jk (gj x net (dX x y)) (dW x net y) (dX x y) (bV x y) R):
 lN x.mods.l.length (dX x y) R=aAC x y x.mods.l.length:=by
 have cD:=jw hc net hy;unfold lN jW aAC;apply List.filter_congr;intro m hm;have hm:m<x.mods.l.length:=List.mem_range.1 hm;rw[Bool.eq_iff_iff,Bool.and_eq_true,decide_eq_true_eq,decide_eq_true_eq,aBu hc hy hm,Nz cD.inv hR aJ];constructor
 ·rintro⟨h1,h2⟩
  rcases h2 with h2 | h2
  ·exact absurd h2 h1
  ·exact(Qj cD.inv hR (Jr hc net hy aJ) (aAE net _) m hm h1).1 h2
 ·intro h
  have h1:=(Ep hc hy m h).2;exact⟨h1,.inr ((Qj cD.inv hR (Jr hc net hy aJ) (aAE net _) m hm h1).2 h)⟩
theorem aDO(hc:cW x=0)(hy:y∈x.aF.l){R:List aI}(aJ:∀m∈bV x y,0≤(dW x net y).at m)(hR:jk (gj x net (dX x y)) (dW x net y) (dX x y) (bV x y) R)(i:Nat)(hi:i<R.length)(hl:aAA R R.length R[i].t=0):R[i].t∈aAC x y x.mods.l.length:=by
 have cD:=jw hc net hy;rcases(qg.of cD.inv hR.ok aJ).2.2 R[i] (List.getElem_mem hi)with h | h
 ·unfold aAC
  have:=(Ep hc hy _ h).1;exact List.mem_filter.2 ⟨List.mem_range.2 this,(aBu hc hy this).2 h⟩
 ·exact absurd hl (aCd R _ h)
end
theorem aDP(x:ay)(net:Int)(src:Nat)(e:aI)(w:World)(hr:x.rd w w.heap.size)(hc:cW x=0)(he:e∈gj x net src):
 Calls pG 16 #[x.val,.int .i64 (e.l:Int),.int .i64 (e.f:Int),.int .i64 (e.t:Int),.int .i64 net] w fun r w'=>r= .returned (.bool true)∧Below w.heap.size w w':=by
 obtain⟨y0,bR⟩:=ez (w.alloc (.cells #[.slice x.mods.a x.mods.l.length x.mods.c,.slice x.aj.a x.aj.l.length x.aj.c,.slice x.aP.a x.aP.l.length x.aP.c,.slice x.links.a x.links.l.length x.links.c,.slice x.aF.a x.aF.l.length x.aF.c,.slice x.bQ.a x.bQ.l.length x.bQ.c,.slice x.causes.a x.causes.l.length x.causes.c,.slice x.aA.a x.aA.l.length x.aA.c] 31));obtain⟨gc,uW⟩:=ez w.heap.size;have bW:Below w.heap.size w y0:=by rw[bR];exact bN
 have bS:ah y0 gc 31 x.arr:=by rw[bR,uW];exact ah.new w _ _
 have hs0:y0.heap.size=gc+1:=by rw[bR,uW];simp
 have jy:=hr.below bW;have aV:=lz bW;have sA:=lz bS;have dV:=lz bR;have Oc:=lz uW;have Hs0:=lz hs0;have rT:=lz jy;obtain⟨hl,hn,hen,-⟩:=oT.1 he;have C5:=jv hc;obtain⟨hc1,qc,hc3,hc4⟩:=C5;obtain⟨l,hle⟩:=ez (x.links.l[e.l]);have hlm:l∈x.links.l:=by rw[hle];exact List.getElem_mem hl
 obtain⟨ha0,aD9,hab⟩:=zX hc l hlm;obtain⟨bl,ol,FZ,Ef,hlc⟩:=jy.links oz;obtain⟨l0,l1,l2,-⟩:=hlc e.l hl;rw[←hle]at hn hen l0 l1 l2;obtain⟨p,hp⟩:∃p:Nat,bg x l.a=(p:Int):=⟨(bg x l.a).toNat,oz⟩;obtain⟨q,hq⟩:∃q:Nat,bg x l.b=(q:Int):=⟨(bg x l.b).toNat,oz⟩;have Ss:(p=e.f∧q=e.t)∨(p=e.t∧q=e.f):=by
  rw[hp,hq]at hen;simp only[Int.toNat_natCast]at hen;omega
 have hpq:¬p=q:=by omega
 have hnd:∀(t:ByteArray) (k:Nat),bg x t=(k:Int)→∀z:Ext y0,CU 12 #[x.val,.string t] z.w (.int .i64 (k:Int)):=fun t k hk z=>by
  rw[←hk];exact vI x t z.w (jy.below z.h) oz oz
 have Hp:=lz (hnd l.a p hp);have Hq:=lz (hnd l.b q hq);have Hla:=lz FZ;have hne:(l.net !=net)=false:=by simp[hn]
 have g0:¬((e.l:Int)<0):=by omega
 have g1:¬((e.l:Int)≥(x.links.l.length:Int)):=by omega
 have g2:(e.l:Int)<(x.links.l.length:Int):=by omega
 obtain⟨c0,c1,c2,c3,c4,c5,c6,c7⟩:y0.cell? ⟨gc,0,none⟩=some (.slice x.mods.a x.mods.l.length x.mods.c)∧y0.cell? ⟨gc,1,none⟩=some (.slice x.aj.a x.aj.l.length x.aj.c)∧y0.cell? ⟨gc,2,none⟩=some (.slice x.aP.a x.aP.l.length x.aP.c)∧y0.cell? ⟨gc,3,none⟩=some (.slice x.links.a x.links.l.length x.links.c)∧y0.cell? ⟨gc,4,none⟩=some (.slice x.aF.a x.aF.l.length x.aF.c)∧y0.cell? ⟨gc,5,none⟩=some (.slice x.bQ.a x.bQ.l.length x.bQ.c)∧y0.cell? ⟨gc,6,none⟩=some (.slice x.causes.a x.causes.l.length x.causes.c)∧y0.cell? ⟨gc,7,none⟩=some (.slice x.aA.a x.aA.l.length x.aA.c):=⟨bS.cell 0,bS.cell 1,bS.cell 2,bS.cell 3,bS.cell 4,bS.cell 5,bS.cell 6,bS.cell 7⟩;rw[FZ]at c3;obtain⟨ef,KC⟩:=ez e.f;obtain⟨et,Bh⟩:=ez e.t;obtain⟨el,hel⟩:=ez e.l;rw[←hel]at l0 l1 l2 g0 g1 g2;rw[←KC,←Bh]at Ss;rw[←KC,←Bh,←hel];have aDl:=lz Ss;have Hpq:=lz hpq;clear bR uW bW bS hs0 jy hr hc he hn hen hle hlm ha0 aD9 hab hlc hp hq Ss hpq hnd FZ KC Bh hel hl;go_enter Tryz.func16,Tryz.ntmps16;rw[dV.out,Oc.out]at c0 c1 c2 c3 c4 c5 c6 c7;rw[dV.out]at l0 l1 l2;go_wp2_with fail;rw[←dV.out]at l0 l1 l2 ⊢;rw[←dV.out,←Oc.out]at c0 c1 c2 c3 c4 c5 c6 c7;rw[←Oc.out];have iR:=bn y0;have hgs:gc<y0.heap.size:=by have:=Hs0.out;omega
 refine aB kz kz ?_;repeat (go_big_quiet_step ((go_at_call 12;rw[←Hla.out];first | with_reducible exact dN (Hp.out _) | with_reducible exact dN (Hq.out _))))
 refine wpQuiet_nil ?_;intro _ hw';obtain⟨xx,hw''⟩:=hw';subst hw'';have HX:=lz (aV.out.trans (xx.h.mono aV.out.size));clear iR c0 c1 c2 c3 c4 c5 c6 c7 l0 l1 l2;generalize xx.w=W5 at *;have hpq:=Hpq.out;rcases aDl.out with⟨e1,e2⟩ | ⟨e1,e2⟩
 ·subst e1 e2
  go_wp2;go_ret;exact⟨rfl,HX.out⟩
 ·subst e1 e2
  have NI:((p:Int)==(q:Int))=false:=by rw[beq_eq_false_iff_ne];omega
  go_wp2;go_ret;exact⟨rfl,HX.out⟩
theorem aDR(x:ay)(v:Nat)(w:World)(hr:x.rd w w.heap.size)(hc:cW x=0)(hv:v<x.aF.l.length):
 Calls pG 17 #[x.val,.int .i64 (v:Int)] w fun e w'=>∃A c,e= .returned (.slice A (aAC x x.aF.l[v] x.mods.l.length).length c)∧
  w'.ownsRow w.heap.size 3 1 (.slice A (aAC x x.aF.l[v] x.mods.l.length).length c) (aAC x x.aF.l[v] x.mods.l.length).length ((aAC x x.aF.l[v] x.mods.l.length).map fun k:Nat=>Value.int .i64 (k:Int))∧Below w.heap.size w w':=by
 obtain⟨y0,bR⟩:=ez (w.alloc (.cells #[.slice x.mods.a x.mods.l.length x.mods.c,.slice x.aj.a x.aj.l.length x.aj.c,.slice x.aP.a x.aP.l.length x.aP.c,.slice x.links.a x.links.l.length x.links.c,.slice x.aF.a x.aF.l.length x.aF.c,.slice x.bQ.a x.bQ.l.length x.bQ.c,.slice x.causes.a x.causes.l.length x.causes.c,.slice x.aA.a x.aA.l.length x.aA.c] 31));obtain⟨gc,uW⟩:=ez w.heap.size;have bW:Below w.heap.size w y0:=by rw[bR];exact bN
 have bS:ah y0 gc 31 x.arr:=by rw[bR,uW];exact ah.new w _ _
 have hs0:y0.heap.size=gc+1:=by rw[bR,uW];simp
 have jy:=hr.below bW;have aV:=lz bW;have sA:=lz bS;have dV:=lz bR;have Oc:=lz uW;have Hs0:=lz hs0;have rT:=lz jy;have C5:=jv hc;obtain⟨hc1,qc,hc3,hc4⟩:=C5;obtain⟨y,hy⟩:=ez (x.aF.l[v]);have yu:y∈x.aF.l:=by rw[hy];exact List.getElem_mem hv
 have I6:=(Jp hc yu).2;have aED:=(Jp hc yu).1;obtain⟨bv,ov,hva,hbv,hvc⟩:=jy.aF oz;obtain⟨v0,v1,v2,v3,v4,v5,v6,hvr⟩:=hvc v hv;rw[←hy]at v6 hvr ⊢;obtain⟨bd,od,hda,hbd,hdc⟩:=hvr.dst aED;have v6':y0.cell? ⟨bv,ov+v*7+6,none⟩=some (.slice (some ⟨bd,od,none⟩) y.dst.l.length y.dst.c):=by rw[v6];show some (Value.slice y.dst.a y.dst.l.length y.dst.c)=_;rw[hda]
 have hvi:(v:Int)<(x.aF.l.length:Int):=by omega
 have Hva:=lz hva;have Hdc:=lz hdc;have Hv6:=lz v6';obtain⟨c0,c1,c2,c3,c4,c5,c6,c7⟩:y0.cell? ⟨gc,0,none⟩=some (.slice x.mods.a x.mods.l.length x.mods.c)∧y0.cell? ⟨gc,1,none⟩=some (.slice x.aj.a x.aj.l.length x.aj.c)∧y0.cell? ⟨gc,2,none⟩=some (.slice x.aP.a x.aP.l.length x.aP.c)∧y0.cell? ⟨gc,3,none⟩=some (.slice x.links.a x.links.l.length x.links.c)∧y0.cell? ⟨gc,4,none⟩=some (.slice x.aF.a x.aF.l.length x.aF.c)∧y0.cell? ⟨gc,5,none⟩=some (.slice x.bQ.a x.bQ.l.length x.bQ.c)∧y0.cell? ⟨gc,6,none⟩=some (.slice x.causes.a x.causes.l.length x.causes.c)∧y0.cell? ⟨gc,7,none⟩=some (.slice x.aA.a x.aA.l.length x.aA.c):=⟨bS.cell 0,bS.cell 1,bS.cell 2,bS.cell 3,bS.cell 4,bS.cell 5,bS.cell 6,bS.cell 7⟩;rw[hva]at c4;have hgs:gc<y0.heap.size:=by omega
 clear bR uW bW bS hs0 jy hr hc hy yu hvc v0 v1 v2 v3 v4 v5 v6 v6' hvr hda hdc hva hv;go_enter Tryz.func17,Tryz.ntmps17;rw[dV.out,Oc.out]at c0 c1 c2 c3 c4 c5 c6 c7;go_wp2_with fail;rw[←dV.out,←Oc.out];clear c0 c1 c2 c3 c4 c5 c6 c7;go_loopw [13,5] (fun t u wq=>∃(j:Nat) (V:Value),j≤x.mods.l.length∧t= .int .i64 j∧u=V∧wq.ownsRow y0.heap.size 3 1 V (aAC x y j).length ((aAC x y j).map fun k:Nat=>Value.int .i64 (k:Int))∧Below y0.heap.size y0 wq) (fun t u wq=>x.mods.l.length-(intOf t).toNat)
 case atStart=>exact⟨0,_,nZ,rfl,rfl,World.ownsRow_nil _ _ _ _,Below.refl _ _⟩
 case round=>
  obtain⟨j,V,hj,rfl,rfl,hown,hB⟩:=hrel;obtain⟨Av,cv,rfl,Me,hv2⟩:=bp hown;have hrl:=aAj x y j;have yp:=aCI x y j;by_cases hjl:j<x.mods.l.length
  ·have kZ:=lz hown
   have HB:=lz hB;have NM:=lz yp;have aU:=sA.out.below HB.out hgs;have k4:wr.cell? ⟨gc,4,none⟩=some (.slice (some ⟨bv,ov,none⟩) x.aF.l.length x.aF.c):=by rw[←Hva.out];exact aU.cell 4
   have k0:wr.cell? ⟨gc,0,none⟩=some (.slice x.mods.a x.mods.l.length x.mods.c):=aU.cell 0;have k6:=(HB.out.cell (p:=⟨bv,ov+v*7+6,none⟩) hbv).trans Hv6.out;have CA:(j:Int)<(x.mods.l.length:Int):=by omega
   have gh:=lz aU;obtain⟨q,hq⟩:=ez (x.mods.l[j]);have hdf:aAF x y j=y.dst.l.any fun r=>seqB r.m q.nm:=by unfold aAF;rw[List.getElem?_eq_getElem hjl,←hq]
   have Hdf:=lz hdf;have yc:=(rT.out.below HB.out).mods oz;obtain⟨bm,om,hma,CY,hmc⟩:=yc;have m0:=(hmc j hjl).1;rw[←hq]at m0;have Hma:=lz hma;have Hm0:=lz m0;clear hown hB yp aU hdf hq hma hmc m0;go_wp2_with fail;clear k4 k0 k6;generalize wr=W1 at *;go_loopw [23,7] (fun t u wq=>∃(i:Nat),i≤y.dst.l.length∧t= .int .i64 i∧u= .bool ((y.dst.l.take i).any fun r=>seqB r.m q.nm)∧Below W1.heap.size W1 wq) (fun t u wq=>y.dst.l.length-(intOf t).toNat)
   case atStart=>exact⟨0,nZ,rfl,rfl,Below.refl _ _⟩
   case round=>
    obtain⟨i,hi,rfl,rfl,hB⟩:=hrel;by_cases YO:i<y.dst.l.length
    ·obtain⟨r,hr⟩:=ez (y.dst.l[i])
     have WY:(y.dst.l.take (i+1)).any (fun r=>seqB r.m q.nm)=((y.dst.l.take i).any (fun r=>seqB r.m q.nm)||seqB r.m q.nm):=by
      rw[List.take_succ_eq_append_getElem YO,List.any_append,←hr];simp
     have hd:=Hdc.out i YO;rw[←hr]at hd;have hBB:=HB.out.trans (hB.mono HB.out.size);have d0:=(hBB.cell (p:=⟨bd,od+i*3,none⟩) hbd).trans hd.1;have d1:=(hBB.cell (p:=⟨bd,od+i*3+1,none⟩) hbd).trans hd.2.1;have d2:=(hBB.cell (p:=⟨bd,od+i*3+2,none⟩) hbd).trans hd.2.2;have hii:(i:Int)<(y.dst.l.length:Int):=by omega
     have pq:Below W1.heap.size W1 (wr.alloc (.cells #[.string r.m,.string r.p,.string r.o] 41)):=hB.alloc hB.size _;have dI:=gh.out.below pq (gh.out.lt);have k0:(wr.alloc (.cells #[.string r.m,.string r.p,.string r.o] 41)).cell? ⟨gc,0,none⟩=some (.slice (some ⟨bm,om,none⟩) x.mods.l.length x.mods.c):=by rw[←Hma.out];exact dI.cell 0
     have m0:=(pq.cell (p:=⟨bm,om+j*4,none⟩) CY).trans Hm0.out;have n0:=(ah.new wr 41 #[.string r.m,.string r.p,.string r.o]).cell 0;have eF:=lz pq
     cases ha:(y.dst.l.take i).any fun r=>seqB r.m q.nm with
     | true=>
      rw[ha]at WY;have Htk:=lz WY;clear hd hB hBB pq dI hr WY ha;go_wp2_with fail;go_quiet (fail);go_wp2;go_roundw
      case rel=>exact⟨i+1,oz,by go_num,by rw[Htk.out];rfl,aD eF.out⟩
      case measure=>simp[intOf];omega
     | false=>
      rw[ha]at WY;have Htk:=lz WY;clear hd hB hBB pq dI hr WY ha;go_wp2_with fail;go_quiet (fail);go_wp2;go_roundw
      case rel=>exact⟨i+1,oz,by go_num,by rw[Htk.out];rfl,aD eF.out⟩
      case measure=>simp[intOf];omega
    ·have hie:i=y.dst.l.length:=by omega
     have aFS:((i:Int)<(y.dst.l.length:Int))=False:=eq_false oz;rw[hie,List.take_length,←Hdf.out];have HBW:=lz (HB.out.trans (hB.mono HB.out.size));have SF:=lz (cO (X:=fun k=>W1.heap.size≤k) kZ.out (Gr.ak hB) (fun k hk e=>by have:=(kZ.out.lt k hk).2;omega));clear hB hie;have yp:=NM.out;by_cases hd:aAF x y j=true
     ·rw[hd]
      rw[if_pos hd]at yp;obtain⟨i0,lX,hz0,hz1,hz2⟩:=info_parts Nw;have NM:=lz yp;clear yp hd;generalize hR:aAC x y j=R at *;obtain⟨ys,hys⟩:=ez (R.map fun k:Nat=>Value.int .i64 (k:Int))
      have hown:=SF.out;rw[←hys]at hown;have Hys:=lz hys;clear hys hR;go_wp2_with (at_builtin;refine wpList_append_own _ rfl _ _ 36 rfl y0.heap.size 3 i0 (.int .i64 0) 1 8 Tryz.underlying36 lX hz0 hz1 hz2 rfl dz _ _ _ rfl (hown.alloc _) ⟨wr.heap.size,0,none⟩ 1 1 [.int .i64 j] rfl rfl ?c1 ?c2 ?c3 ?c4 ?c5 ?_)
      case c1=>
       intro j' u hj';rcases j' with _ | j'
       ·simp at hj'
        subst hj';exact(ah.new wr 3 #[.int .i64 j]).cell 0
       ·simp at hj'
      case c2=>simp[Value.oneCell']
      case c3=>unfold maxLen;omega
      case c4=>omega
      case c5=>have:=HBW.out.size;simp;omega
      intro v5 wo dQ mE _;obtain⟨g5,cp5,rfl,_⟩:=dQ.form oz;have Zi:=hown.alloc (.cells #[.int .i64 j] 3);have Cp:=(HBW.out.alloc HBW.out.size (.cells #[.int .i64 j] 3)).grown mE (by simp;have:=HBW.out.size;omega) (fun k e=>(Zi.lt k e).1);have HE:=lz (ai dQ Cp);clear dQ mE Zi Cp hown;go_wp2;go_roundw
      case rel=>
       refine⟨j+1,_,oz,by go_num,rfl,?_,HE.out.2⟩;rw[NM.out,List.length_append,List.map_append,←Hys.out];exact HE.out.1
      case measure=>simp[intOf];omega
     ·have hdF:aAF x y j=false:=by simpa using hd
      rw[hdF];rw[if_neg hd,List.append_nil]at yp;have NM:=lz yp;clear yp hd hdF;go_wp2;go_roundw
      case rel=>exact⟨j+1,_,oz,by go_num,rfl,by rw[NM.out];exact SF.out,HBW.out⟩
      case measure=>simp[intOf];omega
  ·have hje:j=x.mods.l.length:=by omega
   have aYB:((j:Int)<(x.mods.l.length:Int))=False:=eq_false oz;rw[hje]at hown;rw[hje];have HN:=lz (ai hown hB);clear hown hB hje yp;go_wp2;go_ret;exact⟨Av,cv,rfl,nV HN.out.1 aV.out.size,aV.out.trans (HN.out.2.mono aV.out.size)⟩
end
end Go.Proofs.YtmdgooofdmpcjaaGreatDoor
