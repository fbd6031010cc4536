import Derived.Test.YtmdgooofdmpcjaaGreatDoorY26
import Derived.Test.YtmdgooofdmpcjaaGreatDoorY30
import Derived.Test.YtmdgooofdmpcjaaGreatDoorY27
import Derived.Test.YtmdgooofdmpcjaaGreatDoorY0
set_option maxRecDepth 100000
set_option maxHeartbeats 8000000
set_option linter.unusedSimpArgs false
set_option linter.unusedVariables false
set_option linter.unusedSectionVars false
open Go.Proofs.Tryz renaming prog → pG
namespace Go.Proofs.YtmdgooofdmpcjaaGreatDoor
section
open Go.ChangeShapes Go.WideShapes Go.ChangeAt Go.RowKit
attribute [local go_sem] Oper.semAt_some
open Go.Act renaming put → zP
open List renaming setIfInBounds_toArray → zA, set_cons_zero → zB, set_cons_succ → zC
theorem Oy(n:Nat):madeCells #[Value.int .i64 0] n=((List.replicate n (0:Int)).map (Value.int .i64)).toArray:=by
 refine Array.ext (by simp[madeCells]) fun i h1 h2=> ?_
 simp[madeCells,Nat.mod_one]
theorem Vd(n:Nat)(hn:n≤1000)(W:World):(Instr.makeSlice 36 (.int .i64 (n:Int)) (.int .i64 (n:Int))).run pG W= .ok (.slice (some ⟨W.heap.size,0,none⟩) n n) (W.alloc (.cells ((List.replicate n (0:Int)).map (Value.int .i64)).toArray 3)):=by
 obtain⟨i0,lX,hz0,hz1,hz2⟩:=info_parts Nw;have hb:(i0.bytes:Int)*(n:Int)≤281474976710656:=by rw[hz2];omega
 have e:=run_make (P:=pG) W 36 3 i0 _ Tryz.underlying36 lX hz0 .i64 .i64 n n oz oz hb oz;simp only[Int.toNat_natCast]at e;rw[hz1]at e;rw[←Oy];simpa [Value.cells]using e
theorem aAc(x:ay)(v net:Int)(w:World)(hr:x.rd w w.heap.size)(hL:ct w)(hx:∀r∈x.causes.l,r.x.n≤8796093021952):
 CU 3 #[x.val,.int .i64 v,.int .i64 net] w (.bool true):=by
 obtain⟨y0,bR⟩:=ez (w.alloc (.cells #[.slice x.mods.a x.mods.l.length x.mods.c,.slice x.aj.a x.aj.l.length x.aj.c,.slice x.aP.a x.aP.l.length x.aP.c,.slice x.links.a x.links.l.length x.links.c,.slice x.aF.a x.aF.l.length x.aF.c,.slice x.bQ.a x.bQ.l.length x.bQ.c,.slice x.causes.a x.causes.l.length x.causes.c,.slice x.aA.a x.aA.l.length x.aA.c] 31));obtain⟨gc,uW⟩:=ez w.heap.size;have bW:Below w.heap.size w y0:=by rw[bR];exact bN
 have bS:ah y0 gc 31 x.arr:=by rw[bR,uW];exact ah.new w _ _
 have hs0:y0.heap.size=gc+1:=by rw[bR,uW];simp
 have haw:=La y0 (hL.below bW);have Haw:=lz haw;have gW:Hid (∀W,Below y0.heap.size y0 W→W.cell? ⟨gc,0,none⟩=some (.slice x.mods.a x.mods.l.length x.mods.c)∧W.cell? ⟨gc,1,none⟩=some (.slice x.aj.a x.aj.l.length x.aj.c)∧W.cell? ⟨gc,2,none⟩=some (.slice x.aP.a x.aP.l.length x.aP.c)∧W.cell? ⟨gc,3,none⟩=some (.slice x.links.a x.links.l.length x.links.c)∧W.cell? ⟨gc,4,none⟩=some (.slice x.aF.a x.aF.l.length x.aF.c)∧W.cell? ⟨gc,5,none⟩=some (.slice x.bQ.a x.bQ.l.length x.bQ.c)∧W.cell? ⟨gc,6,none⟩=some (.slice x.causes.a x.causes.l.length x.causes.c)∧W.cell? ⟨gc,7,none⟩=some (.slice x.aA.a x.aA.l.length x.aA.c)):=lz fun W hW=>by
  have h:=bS.below hW oz;exact⟨h.cell 0,h.cell 1,h.cell 2,h.cell 3,h.cell 4,h.cell 5,h.cell 6,h.cell 7⟩
 have kX:Hid (∀W,Below y0.heap.size y0 W→x.rd W W.heap.size∧ct W∧Below w.heap.size w W):=lz fun W hW=>by
  have h:=bW.trans (hW.mono bW.size);exact⟨hr.below h,hL.below h,h⟩
 have Hx:=lz hx;have dV:=lz bR;have Oc:=lz uW;have Hs0:=lz hs0;clear bR uW bW bS hs0 haw hr hL hx;go_enter Tryz.func3,Tryz.ntmps3;go_wp2_with fail;rw[←dV.out,←Oc.out];refine Haw.out.mono ?_;rintro e W1 ⟨rfl,aU⟩;obtain⟨c0,c1,c2,c3,c4,c5,c6,c7⟩:=gW.out W1 aU;have cU:=lz aU;clear aU;go_wp2_with fail;clear c0 c1 c2 c3 c4 c5 c6 c7;refine(Q0 x W1 (kX.out W1 cU.out).1).mono ?_;rintro e W2 ⟨⟨zs,rfl⟩,dI⟩;have eF:=lz (cU.out.trans (dI.mono cU.out.size));obtain⟨c0,c1,c2,c3,c4,c5,c6,c7⟩:=gW.out W2 eF.out;clear dI;by_cases hzs:zs>600
 ·go_wp2_with fail
  go_ret;exact⟨rfl,(kX.out W2 eF.out).2.2⟩
 go_wp2_with fail;clear c0 c1 c2 c3 c4 c5 c6 c7;refine(yx x W2 (kX.out W2 eF.out).1 (kX.out W2 eF.out).2.1 Hx.out).mono ?_;rintro e W3 ⟨rfl,kq⟩;have mP:=lz (eF.out.trans (kq.mono eF.out.size));obtain⟨c0,c1,c2,c3,c4,c5,c6,c7⟩:=gW.out W3 mP.out;clear kq;by_cases hc0:cW x≠0
 ·generalize cW x=zc at*
  have hcz:(zc !=0)=true:=by simpa using hc0
  go_wp2;go_ret;exact⟨rfl,(kX.out W3 mP.out).2.2⟩
 have hc:cW x=0:=Decidable.of_not_not hc0;rw[hc];have Hc:=lz hc;clear hc hc0;go_wp2_with fail;clear c0 c1 c2 c3 c4 c5 c6 c7
 cases oU:Ab x v net with
 | false=>
  refine(K4 x v net W3 (kX.out W3 mP.out).1 (kX.out W3 mP.out).2.1 Hx.out oU).mono ?_;rintro e W4 ⟨rfl,mF⟩;have pN:=lz (mP.out.trans (mF.mono mP.out.size));clear mF;obtain⟨CS⟩:=gW.out W4 pN.out;have uH:v<0∨(v≥(x.aF.l.length:Int))∨net<0∨net>1:=by
   have hn:¬(Ab x v net=true):=by rw[oU];simp
   rw[oV]at hn;have h0:=Hc.out;omega
  clear oU;by_cases q0:v<0
  ·go_wp2_with fail
   go_ret;exact⟨rfl,(kX.out W4 pN.out).2.2⟩
  by_cases q1:v≥(x.aF.l.length:Int)
  ·go_wp2_with fail
   go_ret;exact⟨rfl,(kX.out W4 pN.out).2.2⟩
  by_cases q2:net<0
  ·go_wp2_with fail
   go_ret;exact⟨rfl,(kX.out W4 pN.out).2.2⟩
  have q3:net>1:=by omega
  go_wp2;go_ret;exact⟨rfl,(kX.out W4 pN.out).2.2⟩
 | true=>
  obtain⟨-,hv0,Me,qw,NI⟩:=oV.1 oU;obtain⟨k,rfl⟩:∃k:Nat,v=(k:Int):=⟨v.toNat,oz⟩;have hk:k<x.aF.l.length:=by omega
  clear oU;refine(ql x k net W3 (kX.out W3 mP.out).1 (kX.out W3 mP.out).2.1 Hx.out Hc.out hk qw NI).mono ?_;rintro e W4 ⟨A,cp,rfl,aCx,aQD,iO,mF⟩;have pN:=lz (mP.out.trans (mF.mono mP.out.size));obtain⟨bv,ov,hva,hbv,hvc⟩:=(kX.out W4 pN.out).1.aF (show 0<x.aF.l.length by omega);have aLi:=(hvc k hk).2.1;obtain⟨y,hy⟩:=ez (x.aF.l[k]);have yu:y∈x.aF.l:=by rw[hy];exact List.getElem_mem hk
  rw[←hy]at aCx iO aLi ⊢;obtain⟨src,K2⟩:=ez (dX x y);obtain⟨s,hs⟩:=ez (dW x net y);have I6:=JF Hc.out net yu;have hda:=Zg Hc.out net yu;have hN:x.mods.l.length+x.aP.l.length≤12:=Eo Hc.out;have Qc:=En Hc.out yu;have hch:=El Hc.out yu;have C5:=jv Hc.out;have cD:=jw Hc.out net yu;have SZ:=fun e (he:e∈gj x net (dX x y))=>Vc Hc.out net yu he
  have aLj:=zX Hc.out;have iJ:∀(cnt:List Int) (n B:Nat),iN (dW x net y) cnt n (gj x net (dX x y)) B→∀k:Nat,k<n→0<(dW x net y).at k→0<cnt.getD k 0:=fun cnt n B h k hk hp=>Zh Hc.out net yu h hk hp
  have hnd:bg x y.src.m=(src:Int):=by rw[K2];unfold dX;have:=hch.2.1;have:=hch.1;omega
  rw[←hs]at hda cD SZ iJ;rw[←K2]at Qc cD SZ iJ;obtain⟨dl,aLk⟩:=ez (mh x net y);rw[←aLk]at aCx iO I6 hda ⊢;obtain⟨n,hn⟩:=ez dl.length;obtain⟨g,cap,hv,hg1,eG⟩:=iO.form oz;have hA:A=some ⟨g,0,none⟩:=by injection hv
  have hdc:∀W,Below W4.heap.size W4 W→∀j:Nat,j<n→W.cell? ⟨g,j,none⟩=some (.int .i64 (s.at j)):=fun W hW j hj=>by
   have hj':j<dl.length:=by omega
   have c0:=iO.cells (g:=g) (by rw[hA];rfl) j (.int .i64 dl[j]) (by simp[hj']);rw[add_plain,Nat.zero_add]at c0;rw[←hda j hj'];exact(hW.cell (p:=⟨g,j,none⟩) eG).trans c0
  subst hA;have hz0:s.at src=0:=(cD.inv.zero src).2 rfl;rw[←hn]at I6 ⊢;have Hdc:=lz hdc;have aEI:=lz SZ;have vQ:=lz iJ;have aQE:=lz aLj;have dU:=lz cD;have Hva:=lz hva;have Hsr:=lz K2;have KM:=lz (show n=x.mods.l.length+x.aP.l.length from I6);obtain⟨hc1,qc,hc3,hc4⟩:=C5;obtain⟨Qc,-⟩:=Qc;have aQF:n≤12:=by omega
  have aGe:src<n:=by omega
  have aX1:bv<W4.heap.size:=hbv;have aQG:gc<W4.heap.size:=by have:=pN.out.size;have:=Hs0.out;omega
  have HN4:Hid (∀z:Ext W4,CU 12 #[x.val,.string y.src.m] z.w (.int .i64 (src:Int))):=lz fun z=>by
   rw[←hnd];exact vI x y.src.m z.w (kX.out z.w (pN.out.trans (z.h.mono pN.out.size))).1 oz oz
  clear hdc SZ iJ aLj cD hva K2 I6 hda hch hnd hs aLk hy yu iO aCx hvc hv mF hbv hn;obtain⟨c0,c1,c2,c3,c4,c5,c6,c7⟩:=gW.out W4 pN.out;have iR:=bn W4;rw[Hva.out]at c4;have hvi:(k:Int)<(x.aF.l.length:Int):=by omega
  go_wp2_with fail;refine aB kz kz ?_;repeat (go_big_quiet_step ((go_at_call 12;rw[←Hva.out];with_reducible exact dN (HN4.out _))))
  refine wpQuiet_nil ?_;intro _ hw';obtain⟨xx,hw''⟩:=hw';subst hw'';have Gm:=lz xx.h;clear iR HN4 c0 c1 c2 c3 c4 c5 c6 c7 aLi;generalize xx.w=W5 at *;have tT:=lz (pN.out.trans (Gm.out.mono pN.out.size));obtain⟨c0,c1,c2,c3,c4,c5,c6,c7⟩:=gW.out W5 tT.out;have d0:W5.cell? ⟨g,src,none⟩=some (.int .i64 0):=by rw[←hz0];exact Hdc.out W5 Gm.out src oz
  have hnn:((n:Int) !=(x.mods.l.length:Int)+(x.aP.l.length:Int))=false:=by have:=KM.out;simp;omega
  have yp:(src:Int)<(n:Int):=by omega
  have hs0:(0:Int)≤(src:Int):=by omega
  have hmk:=Vd n oz;obtain⟨Z,hZ⟩:=ez (((List.replicate n (0:Int)).map (Value.int .i64)).toArray);rw[←hZ]at hmk;have HZ:=lz hZ;clear hZ;obtain⟨-,-,-,zn,-⟩:=gW.out _ (tT.out.alloc tT.out.size (.cells Z 3));go_wp2_with fail;clear c0 c1 c2 c3 c4 c5 c6 c7 zn d0 hmk;have yU:Below W5.heap.size W5 (W5.alloc (.cells Z 3)):=bN;have rz:=ah.new W5 3 Z;have DV:=lz (ai yU rz);clear yU rz;have aX2:gc<W5.heap.size:=Nat.lt_of_lt_of_le aQG Gm.out.size;have mE:g<W5.heap.size:=Nat.lt_of_lt_of_le eG Gm.out.size;go_loopw [94] (fun t wr=>∃(i:Nat) (cnt:List Int),i≤x.links.l.length∧t= .int .i64 i∧iN s cnt n (dD x net src 0 (x.links.l.take i)) (2*i)∧ah wr W5.heap.size 3 (cnt.map (Value.int .i64)).toArray∧Below W5.heap.size W5 wr) (fun t wr=>x.links.l.length-(intOf t).toNat)
  case atStart=>exact⟨0,_,nZ,rfl,iN.start s n,by rw[←HZ.out];exact DV.out.2,DV.out.1⟩
  case round=>
   clear DV;obtain⟨i,cnt,hi,rfl,hNr,hcb,hB⟩:=hrel;have CP:=tT.out.trans (hB.mono tT.out.size);obtain⟨c0,c1,c2,c3,c4,c5,c6,c7⟩:=gW.out wr CP;by_cases hlt:i<x.links.l.length
   ·obtain⟨bl,ol,FZ,Ef,hlc⟩:=(kX.out wr CP).1.links oz
    obtain⟨l0,l1,l2,-⟩:=hlc i hlt;obtain⟨l,hl⟩:=ez (x.links.l[i]);have hlm:l∈x.links.l:=by rw[hl];exact List.getElem_mem hlt
    have WY:x.links.l.take (i+1)=x.links.l.take i++ [l]:=by rw[hl];exact List.take_succ_eq_append_getElem hlt
    have yp:dD x net src 0 (x.links.l.take (i+1))=dD x net src 0 (x.links.l.take i)++lC x net src i l:=by
     rw[WY,tG,Nat.zero_add,List.length_take,Nat.min_eq_left oz]
    rw[←hl]at l0 l1 l2;rw[FZ]at c3;have hii:(i:Int)<(x.links.l.length:Int):=by omega
    have Hla:=lz FZ;have HBr:=lz CP;have Rl:=lz (ai hNr (ai hcb hB));have NM:=lz yp;have Hl:=lz hl;clear FZ CP hNr hcb hB yp WY hlc hl;by_cases pQ:l.net=net
    ·have hne:(l.net !=net)=false:=by simp[pQ]
     go_wp2_with fail;have je:∀W,Below wr.heap.size wr W→W.cell? ⟨gc,0,none⟩=some (.slice x.mods.a x.mods.l.length x.mods.c)∧W.cell? ⟨gc,1,none⟩=some (.slice x.aj.a x.aj.l.length x.aj.c)∧W.cell? ⟨gc,2,none⟩=some (.slice x.aP.a x.aP.l.length x.aP.c)∧W.cell? ⟨gc,3,none⟩=some (.slice (some ⟨bl,ol,none⟩) x.links.l.length x.links.c)∧W.cell? ⟨gc,4,none⟩=some (.slice x.aF.a x.aF.l.length x.aF.c)∧W.cell? ⟨gc,5,none⟩=some (.slice x.bQ.a x.bQ.l.length x.bQ.c)∧W.cell? ⟨gc,6,none⟩=some (.slice x.causes.a x.causes.l.length x.causes.c)∧W.cell? ⟨gc,7,none⟩=some (.slice x.aA.a x.aA.l.length x.aA.c)∧W.cell? ⟨bl,ol+i*4,none⟩=some (.string l.a)∧W.cell? ⟨bl,ol+i*4+1,none⟩=some (.string l.b):=fun W hW=>by
      obtain⟨q0,q1,q2,q3,q4,q5,q6,q7⟩:=gW.out W (HBr.out.trans (hW.mono HBr.out.size));rw[Hla.out]at q3;exact⟨q0,q1,q2,q3,q4,q5,q6,q7,(hW.cell (p:=⟨bl,ol+i*4,none⟩) Ef).trans l0,(hW.cell (p:=⟨bl,ol+i*4+1,none⟩) Ef).trans l1⟩
     obtain⟨ha0,bS,hab⟩:=aQE.out l hlm;obtain⟨a,hae⟩:∃a:Nat,a=(bg x l.a).toNat:=⟨_,rfl⟩;obtain⟨b,NC⟩:∃b:Nat,b=(bg x l.b).toNat:=⟨_,rfl⟩;have Pj:bg x l.a=(a:Int):=by omega
     have uH:bg x l.b=(b:Int):=by omega
     have TV:a<n:=by have h1:=yC x l.a;have h2:=KM.out;omega
     have aLm:b<n:=by have h1:=yC x l.b;have h2:=KM.out;omega
     have hnd:∀W,Below wr.heap.size wr W→∀t,CU 12 #[x.val,.string t] W (.int .i64 (bg x t)):=fun W hW t=>
      vI x t W (kX.out W (HBr.out.trans (hW.mono HBr.out.size))).1 oz oz
     have hle:lC x net src i l=([⟨a,b,i⟩,⟨b,a,i⟩]:List aI).filter fun e=>decide (e.f=src)||decide (x.mods.l.length≤e.f):=by unfold lC;rw[if_pos pQ,←hae,←NC]
     have iU:∀e∈([⟨a,b,i⟩,⟨b,a,i⟩]:List aI),e.f=src∨x.mods.l.length≤e.f→e∈gj x net src:=fun e he hu=>by
      refine oT.2 ?_;simp only[List.mem_cons,List.not_mem_nil,or_false]at he;rcases he with rfl | rfl
      ·exact⟨hlt,by rw[←Hl.out];exact pQ,.inl ⟨by rw[←Hl.out];exact hae,by rw[←Hl.out];exact NC⟩,hu⟩
      ·exact⟨hlt,by rw[←Hl.out];exact pQ,.inr ⟨by rw[←Hl.out];exact NC,by rw[←Hl.out];exact hae⟩,hu⟩
     have Ej:=lz je;have Hnd:=lz hnd;have Yv:=lz hle;have aQH:=lz iU;have Hna:=lz Pj;have Hnb:=lz uH;have hHeld:=je wr.drew (Below.refl _ _).drew;clear je hnd hle iU Pj uH ha0 bS hab hae NC c0 c1 c2 c3 c4 c5 c6 c7 l0 l1 l2;refine aT (fun W=>W.cell? ⟨gc,0,none⟩=some (.slice x.mods.a x.mods.l.length x.mods.c)∧W.cell? ⟨gc,1,none⟩=some (.slice x.aj.a x.aj.l.length x.aj.c)∧W.cell? ⟨gc,2,none⟩=some (.slice x.aP.a x.aP.l.length x.aP.c)∧W.cell? ⟨gc,3,none⟩=some (.slice (some ⟨bl,ol,none⟩) x.links.l.length x.links.c)∧W.cell? ⟨gc,4,none⟩=some (.slice x.aF.a x.aF.l.length x.aF.c)∧W.cell? ⟨gc,5,none⟩=some (.slice x.bQ.a x.bQ.l.length x.bQ.c)∧W.cell? ⟨gc,6,none⟩=some (.slice x.causes.a x.causes.l.length x.causes.c)∧W.cell? ⟨gc,7,none⟩=some (.slice x.aA.a x.aA.l.length x.aA.c)∧W.cell? ⟨bl,ol+i*4,none⟩=some (.string l.a)∧W.cell? ⟨bl,ol+i*4+1,none⟩=some (.string l.b)) 17 kz hHeld (fun hHeld=> ?_);refine TS 0 rfl hHeld ?_;simp only[zP,zA,zB,zC];refine TS 1 rfl hHeld ?_;simp only[zP,zA,zB,zC];refine TS 2 rfl hHeld ?_;simp only[zP,zA,zB,zC];refine TS 3 rfl hHeld ?_;simp only[zP,zA,zB,zC];refine TS 4 rfl hHeld ?_;simp only[zP,zA,zB,zC];refine TS 5 rfl hHeld ?_;simp only[zP,zA,zB,zC];refine TS 6 rfl hHeld ?_;simp only[zP,zA,zB,zC];refine TS 8 rfl hHeld ?_;simp only[zP,zA,zB,zC];refine TS 9 rfl hHeld ?_;simp only[zP,zA,zB,zC];refine TS 10 rfl hHeld ?_;simp only[zP,zA,zB,zC];refine TS 11 rfl hHeld ?_;simp only[zP,zA,zB,zC];refine TS 12 rfl hHeld ?_;simp only[zP,zA,zB,zC];refine TS 13 rfl hHeld ?_;simp only[zP,zA,zB,zC];refine TS 14 rfl hHeld ?_;simp only[zP,zA,zB,zC];refine RQ 7 rfl fun K hK=> ?_
     go_simp;rw[←Hla.out];refine(Hnd.out _ (Below.refl _ wr).drew l.a).mono ?_;rintro e W7 ⟨rfl,Nk⟩;have NN:=(Below.refl wr.heap.size wr).drew.trans Nk;rw[Hna.out];have hHeld:=Ej.out W7 NN;refine hK.out _ _ (fun _=>hHeld) ?_;clear hK;refine RQ 15 rfl fun K hK=> ?_
     go_simp;refine(Hnd.out W7 NN l.b).mono ?_;rintro e W8 ⟨rfl,Mi⟩;have Ve:=NN.trans (Mi.mono NN.size);rw[Hnb.out];have hHeld:=Ej.out W8 Ve;refine hK.out _ _ (fun _=>hHeld) ?_;clear hK;refine RQ 16 rfl fun K hK=> ?_
     go_simp;have Jh:=Ve.alloc Ve.size (.cells #[.int .i64 a,.int .i64 b] 3);have hHeld:=Ej.out _ Jh;refine hK.out _ _ (fun _=>hHeld) ?_;clear hK;refine RQ 17 rfl fun K hK=> ?_
     go_simp;refine hK.out _ _ (fun h=>absurd h dz) ?_;clear hK;refine aL kz ?_ _;have he9:=ah.new W8 3 #[.int .i64 a,.int .i64 b];have aLn:Below W5.heap.size W5 (W8.alloc (.cells #[.int .i64 a,.int .i64 b] 3)):=Rl.out.2.2.trans (Jh.mono Rl.out.2.2.size);have hc9:=Rl.out.2.1.below Jh Rl.out.2.1.lt;have H9:=lz (ai hc9 (ai he9 aLn));obtain⟨eb,Uo⟩:=ez W8.heap.size;obtain⟨W9,hW9⟩:=ez (W8.alloc (.cells #[.int .i64 a,.int .i64 b] 3));rw[←Uo,←hW9]at H9 ⊢;have aLo:W5.heap.size≠eb:=by have h1:=Rl.out.2.1.lt;have h2:=Ve.size;omega
     have aX3:W5.heap.size≤eb:=by have h1:=Rl.out.2.1.lt;have h2:=Ve.size;omega
     clear he9 aLn hc9 Jh Ve Mi NN Nk hHeld Uo hW9 Ej Hnd Hna Hnb;go_wp2;go_loopw [122] (fun t wq=>∃(j:Nat) (cnt':List Int),j≤2∧t= .int .i64 j∧iN s cnt' n (dD x net src 0 (x.links.l.take i)++(([⟨a,b,i⟩,⟨b,a,i⟩]:List aI).take j).filter fun e=>decide (e.f=src)||decide (x.mods.l.length≤e.f)) (2*i+j)∧ah wq W5.heap.size 3 (cnt'.map (Value.int .i64)).toArray∧ah wq eb 3 #[.int .i64 a,.int .i64 b]∧Below W5.heap.size W5 wq) (fun t wq=>2-(intOf t).toNat)
     case atStart=>exact⟨0,cnt,oz,rfl,by simpa using Rl.out.1,H9.out.1,H9.out.2.1,H9.out.2.2⟩
     case round=>
      clear H9 Rl;obtain⟨j,cnt',hj,rfl,Oz,Gh,Rm,JG⟩:=hrel;have aGf:=tT.out.trans (JG.mono tT.out.size);obtain⟨c0,c1,c2,c3,c4,c5,c6,c7⟩:=gW.out wr aGf;by_cases hj2:j<2
      ·have Js:=qJ (fun e:aI=>decide (e.f=src)||decide (x.mods.l.length≤e.f)) ([⟨a,b,i⟩,⟨b,a,i⟩]:List aI) j hj2
       have hE:∃(e:aI) (j':Nat),e=([⟨a,b,i⟩,⟨b,a,i⟩]:List aI)[j]∧e.f<n∧e.t<n∧j'<2∧(1:Int)-(j:Int)=(j':Int)∧wr.cell? ⟨eb,j,none⟩=some (.int .i64 e.f)∧wr.cell? ⟨eb,j',none⟩=some (.int .i64 e.t):=by
        obtain rfl | rfl:j=0∨j=1:=by omega
        ·exact⟨⟨a,b,i⟩,1,rfl,TV,aLm,oz,rfl,Rm.cell 0,Rm.cell 1⟩
        ·exact⟨⟨b,a,i⟩,0,rfl,aLm,TV,oz,rfl,Rm.cell 1,Rm.cell 0⟩
       obtain⟨e,j',Vo,KC,Bh,hj3,aX4,e0,e1⟩:=hE;have hEm:e.f=src∨x.mods.l.length≤e.f→e∈gj x net src:=aQH.out e (by rw[Vo];exact List.getElem_mem _);rw[←Vo]at Js;have hX4:=Gm.out.trans (JG.mono Gm.out.size);have df:=Hdc.out wr hX4 e.f KC;have dt:=Hdc.out wr hX4 e.t Bh;have CA:(j:Int)<2:=by omega
       have aX5:(j':Int)<2:=by omega
       have aX6:(e.f:Int)<(n:Int):=by omega
       have aX7:(e.t:Int)<(n:Int):=by omega
       have Fv:e.f<12∧e.t<12:=by omega
       clear aGf hX4;have Vw:=lz (ai KC (ai Bh (ai Fv hEm)));by_cases qw:s.at e.f<0
       ·have HN:=lz (show iN s cnt' n (dD x net src 0 (x.links.l.take i)++(([⟨a,b,i⟩,⟨b,a,i⟩]:List aI).take (j+1)).filter fun e=>decide (e.f=src)||decide (x.mods.l.length≤e.f)) (2*i+(j+1))from by
         rw[Js,←List.append_assoc];refine Oz.mono oz fun e' jm=> ?_
         rcases List.mem_append.1 jm with q | q
         ·exact .inl q
         ·split at q
          ·rw[List.mem_singleton.1 q];exact .inr (fun h=>by omega)
          ·cases q)
        have HK:=lz (ai Gh (ai Rm JG));clear Oz Gh Rm JG Js Vo Fv hEm;generalize hq:s.at e.f=q at *;go_wp2_with fail;go_quiet (fail);go_wp2;go_roundw
        case rel=>exact⟨j+1,cnt',oz,by go_num,HN.out,HK.out.1.drewN _,HK.out.2.1.drewN _,aD HK.out.2.2⟩
        case measure=>simp[intOf];omega
       have Mh:wr.cell? ⟨W5.heap.size,e.t,none⟩=some (.int .i64 (cnt'.getD e.t 0)):=by
        rw[List.getD_eq_getElem?_getD];refine(Gh.cell e.t).trans ?_;simp[Oz.len,Bh]
       have hcf:=Gh.frozen e.t;have cC:=Oz.lo e.t;have hch:=Oz.hi e.t;by_cases hns:e.f=src
       ·have aGG:((e.f:Int) !=(src:Int))=false:=by simp[hns]
        have Ml:(decide (e.f=src)||decide (x.mods.l.length≤e.f))=true:=by simp[hns]
        have Cx:e.f=src∨x.mods.l.length≤e.f:=by simpa using Ml
        clear hns;obtain⟨ht0,ht1⟩:=aEI.out e (hEm Cx) oz;have MI:=aQ.tX dU.out.inv oz e.f;rw[Ml,if_pos rfl]at Js;have HK:=lz (ai Gh (ai Rm JG));by_cases VG:s.at e.t=s.at e.f+1
        ·have HN:=lz (show iN s (cnt'.set e.t (cnt'.getD e.t 0+1)) n (dD x net src 0 (x.links.l.take i)++(([⟨a,b,i⟩,⟨b,a,i⟩]:List aI).take (j+1)).filter fun e=>decide (e.f=src)||decide (x.mods.l.length≤e.f)) (2*i+(j+1))from by
          rw[Js,←List.append_assoc];refine Oz.mark Bh fun e' jm=> ?_
          rcases List.mem_append.1 jm with q | q
          ·exact .inl q
          ·exact .inr (.inl (by rw[List.mem_singleton.1 q])))
         clear Oz Gh Rm JG Js Vo Fv hEm Ml Cx;rw[VG]at dt;clear VG ht0 ht1;generalize hq:s.at e.f=q at *;generalize hcq:cnt'.getD e.t 0=cq at *;have hrn:decide (q+1<0)=false:=dF oz;go_wp2_with fail;go_quiet (fail);go_wp2_with fail;go_quiet (fail);go_wp2_with fail;go_quiet (fail);go_wp2;go_roundw
         case rel=>
          have hs9:∀m,ah ((wr.drewN m).setCell ⟨W5.heap.size,e.t,none⟩ (.int .i64 (cq+1))) W5.heap.size 3 ((cnt'.set e.t (cq+1)).map (Value.int .i64)).toArray:=fun m=>by
           have:=(HK.out.1.drewN m).bX e.t (.int .i64 (cq+1));simpa [List.map_set]using this
          have Ms:∀m,ah ((wr.drewN m).setCell ⟨W5.heap.size,e.t,none⟩ (.int .i64 (cq+1))) eb 3 #[.int .i64 a,.int .i64 b]:=fun m=>(HK.out.2.1.drewN m).far (p:=⟨W5.heap.size,e.t,none⟩) aLo.symm _
          have hw9:∀m,Below W5.heap.size W5 ((wr.drewN m).setCell ⟨W5.heap.size,e.t,none⟩ (.int .i64 (cq+1))):=fun m=>(aD HK.out.2.2).setCell (p:=⟨W5.heap.size,e.t,none⟩) nL _
          exact⟨j+1,cnt'.set e.t (cq+1),oz,by go_num,HN.out,hs9 _,Ms _,hw9 _⟩
         case measure=>simp[intOf];omega
        ·have HN:=lz (show iN s cnt' n (dD x net src 0 (x.links.l.take i)++(([⟨a,b,i⟩,⟨b,a,i⟩]:List aI).take (j+1)).filter fun e=>decide (e.f=src)||decide (x.mods.l.length≤e.f)) (2*i+(j+1))from by
          rw[Js,←List.append_assoc];refine Oz.mono oz fun e' jm=> ?_
          rcases List.mem_append.1 jm with q | q
          ·exact .inl q
          ·rw[List.mem_singleton.1 q];exact .inr (fun h=>VG h.2))
         clear Oz Gh Rm JG Js Vo Fv hEm Ml Cx;generalize hq:s.at e.f=q at *;generalize hr:s.at e.t=r at *;have aQM:(r==q+1)=false:=by simp[VG]
         have hrn:decide (r<0)=false:=dF oz;have hrq:decide (r>q+1)=false:=dF oz;have aQN:decide (q+1<r)=false:=dF oz;go_wp2_with fail;go_quiet (fail);go_wp2_with fail;go_quiet (fail);go_wp2_with fail;go_quiet (fail);go_wp2;go_roundw
         case rel=>exact⟨j+1,cnt',oz,by go_num,HN.out,HK.out.1.drewN _,HK.out.2.1.drewN _,aD HK.out.2.2⟩
         case measure=>simp[intOf];omega
       ·have aGG:((e.f:Int) !=(src:Int))=true:=by simp;omega
        by_cases hlm:(e.f:Int)<(x.mods.l.length:Int)
        ·have Ml:(decide (e.f=src)||decide (x.mods.l.length≤e.f))=false:=by simp[hns];omega
         rw[Ml,if_neg qz,List.append_nil]at Js;have HN:=lz (show iN s cnt' n (dD x net src 0 (x.links.l.take i)++(([⟨a,b,i⟩,⟨b,a,i⟩]:List aI).take (j+1)).filter fun e=>decide (e.f=src)||decide (x.mods.l.length≤e.f)) (2*i+(j+1))from by
          rw[Js];exact Oz.mono oz (fun e' jm=> .inl jm))
         have HK:=lz (ai Gh (ai Rm JG));clear Oz Gh Rm JG Js Vo Fv hEm Ml;generalize hq:s.at e.f=q at *;go_wp2_with fail;go_quiet (fail);go_wp2;go_roundw
         case rel=>exact⟨j+1,cnt',oz,by go_num,HN.out,HK.out.1.drewN _,HK.out.2.1.drewN _,aD HK.out.2.2⟩
         case measure=>simp[intOf];omega
        ·have Ml:(decide (e.f=src)||decide (x.mods.l.length≤e.f))=true:=by simp;right;omega
         have Cx:e.f=src∨x.mods.l.length≤e.f:=by simpa using Ml
         obtain⟨ht0,ht1⟩:=aEI.out e (hEm Cx) oz;have MI:=aQ.tX dU.out.inv oz e.f;rw[Ml,if_pos rfl]at Js;have HK:=lz (ai Gh (ai Rm JG));by_cases VG:s.at e.t=s.at e.f+1
         ·have HN:=lz (show iN s (cnt'.set e.t (cnt'.getD e.t 0+1)) n (dD x net src 0 (x.links.l.take i)++(([⟨a,b,i⟩,⟨b,a,i⟩]:List aI).take (j+1)).filter fun e=>decide (e.f=src)||decide (x.mods.l.length≤e.f)) (2*i+(j+1))from by
           rw[Js,←List.append_assoc];refine Oz.mark Bh fun e' jm=> ?_
           rcases List.mem_append.1 jm with q | q
           ·exact .inl q
           ·exact .inr (.inl (by rw[List.mem_singleton.1 q])))
          clear Oz Gh Rm JG Js Vo Fv hEm Ml Cx;rw[VG]at dt;clear VG ht0 ht1;generalize hq:s.at e.f=q at *;generalize hcq:cnt'.getD e.t 0=cq at *;have hrn:decide (q+1<0)=false:=dF oz;go_wp2_with fail;go_quiet (fail);go_wp2_with fail;go_quiet (fail);go_wp2_with fail;go_quiet (fail);go_wp2;go_roundw
          case rel=>
           have hs9:∀m,ah ((wr.drewN m).setCell ⟨W5.heap.size,e.t,none⟩ (.int .i64 (cq+1))) W5.heap.size 3 ((cnt'.set e.t (cq+1)).map (Value.int .i64)).toArray:=fun m=>by
            have:=(HK.out.1.drewN m).bX e.t (.int .i64 (cq+1));simpa [List.map_set]using this
           have Ms:∀m,ah ((wr.drewN m).setCell ⟨W5.heap.size,e.t,none⟩ (.int .i64 (cq+1))) eb 3 #[.int .i64 a,.int .i64 b]:=fun m=>(HK.out.2.1.drewN m).far (p:=⟨W5.heap.size,e.t,none⟩) aLo.symm _
           have hw9:∀m,Below W5.heap.size W5 ((wr.drewN m).setCell ⟨W5.heap.size,e.t,none⟩ (.int .i64 (cq+1))):=fun m=>(aD HK.out.2.2).setCell (p:=⟨W5.heap.size,e.t,none⟩) nL _
           exact⟨j+1,cnt'.set e.t (cq+1),oz,by go_num,HN.out,hs9 _,Ms _,hw9 _⟩
          case measure=>simp[intOf];omega
         ·have HN:=lz (show iN s cnt' n (dD x net src 0 (x.links.l.take i)++(([⟨a,b,i⟩,⟨b,a,i⟩]:List aI).take (j+1)).filter fun e=>decide (e.f=src)||decide (x.mods.l.length≤e.f)) (2*i+(j+1))from by
           rw[Js,←List.append_assoc];refine Oz.mono oz fun e' jm=> ?_
           rcases List.mem_append.1 jm with q | q
           ·exact .inl q
           ·rw[List.mem_singleton.1 q];exact .inr (fun h=>VG h.2))
          clear Oz Gh Rm JG Js Vo Fv hEm Ml Cx;generalize hq:s.at e.f=q at *;generalize hr:s.at e.t=r at *;have aQM:(r==q+1)=false:=by simp[VG]
          have hrn:decide (r<0)=false:=dF oz;have hrq:decide (r>q+1)=false:=dF oz;have aQN:decide (q+1<r)=false:=dF oz;go_wp2_with fail;go_quiet (fail);go_wp2_with fail;go_quiet (fail);go_wp2_with fail;go_quiet (fail);go_wp2;go_roundw
          case rel=>exact⟨j+1,cnt',oz,by go_num,HN.out,HK.out.1.drewN _,HK.out.2.1.drewN _,aD HK.out.2.2⟩
          case measure=>simp[intOf];omega
      ·have hje:j=2:=by omega
       have hjl:((j:Int)<2)=False:=eq_false oz;subst hje;have HN:=lz (show iN s cnt' n (dD x net src 0 (x.links.l.take (i+1))) (2*(i+1))from by
        rw[NM.out,Yv.out];exact Oz.mono oz (fun e' jm=> .inl (by simpa using jm)))
       have HK:=lz (ai Gh JG);clear Oz Gh Rm JG aGf c0 c1 c2 c3 c4 c5 c6 c7;go_wp2;go_roundw
       case rel=>exact⟨i+1,cnt',oz,by go_num,HN.out,HK.out⟩
       case measure=>simp[intOf];omega
    ·have hne:(l.net !=net)=true:=by simp[pQ]
     have aGe:dD x net src 0 (x.links.l.take (i+1))=dD x net src 0 (x.links.l.take i):=by rw[NM.out,zW x src i pQ,List.append_nil]
     have Hs1:=lz aGe;clear aGe;go_wp2;go_roundw
     case rel=>exact⟨i+1,cnt,oz,by go_num,by rw[Hs1.out];exact Rl.out.1.mono oz (fun e he=> .inl he),Rl.out.2⟩
     case measure=>simp[intOf];omega
   ·have hie:i=x.links.l.length:=by omega
    have YO:((i:Int)<(x.links.l.length:Int))=False:=eq_false oz;rw[hie,List.take_length]at hNr;have Rl:=lz (ai hNr (ai hcb (ai hB CP)));clear hNr hcb hB CP hie c0 c1 c2 c3 c4 c5 c6 c7;go_wp2;go_loopw [188] (fun t wq=>∃m:Nat,m≤n∧t= .int .i64 m∧ah wq W5.heap.size 3 (cnt.map (Value.int .i64)).toArray∧Below W5.heap.size W5 wq) (fun t wq=>n-(intOf t).toNat)
    case atStart=>exact⟨0,nZ,rfl,Rl.out.2.1,Rl.out.2.2.1⟩
    case round=>
     obtain⟨m,hm,rfl,Gh,JG⟩:=hrel;by_cases hmn:m<n
     ·have df:=Hdc.out wr (Gm.out.trans (JG.mono Gm.out.size)) m hmn
      have hmi:(m:Int)<(n:Int):=by omega
      have Mh:wr.cell? ⟨W5.heap.size,m,none⟩=some (.int .i64 (cnt.getD m 0)):=by
       rw[List.getD_eq_getElem?_getD];refine(Gh.cell m).trans ?_;simp[Rl.out.1.len,hmn]
      have KQ:0<s.at m→0<cnt.getD m 0:=vQ.out cnt n _ Rl.out.1 m hmn;have hz:=dU.out.inv.zero m;have HK:=lz (ai Gh JG);clear Gh JG;by_cases hp:0<s.at m
      ·have KQ:=KQ hp
       have hce:(cnt.getD m 0==0)=false:=by rw[beq_eq_false_iff_ne];omega
       have hse:(s.at m==0)=false:=by simp;omega
       clear hz;generalize hq:s.at m=q at *;generalize hcq:cnt.getD m 0=cq at *;go_wp2;go_roundw
       case rel=>exact⟨m+1,oz,by go_num,HK.out⟩
       case measure=>simp[intOf];omega
      ·have hpf:(s.at m>0)=False:=eq_false oz
       by_cases hs0:s.at m=0
       ·have hse:(s.at m==0)=true:=by simp[hs0]
        have Pm:((m:Int) !=(src:Int))=false:=by simp[hz.1 hs0]
        clear hz KQ hs0;generalize hq:s.at m=q at *;go_wp2;go_roundw
        case rel=>exact⟨m+1,oz,by go_num,HK.out⟩
        case measure=>simp[intOf];omega
       ·have hse:(s.at m==0)=false:=by simp[hs0]
        clear hz KQ hs0;generalize hq:s.at m=q at *;go_wp2;go_roundw
        case rel=>exact⟨m+1,oz,by go_num,HK.out⟩
        case measure=>simp[intOf];omega
     ·have IK:((m:Int)<(n:Int))=False:=eq_false oz
      have HK:=lz (Gm.out.trans (JG.mono Gm.out.size));clear Gh JG;go_wp2;go_ret;exact⟨rfl,(kX.out wr (pN.out.trans (HK.out.mono pN.out.size))).2.2⟩
end
end Go.Proofs.YtmdgooofdmpcjaaGreatDoor
