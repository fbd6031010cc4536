import Derived.Test.YtmdgooofdmpcjaaGreatDoorY26
import Derived.Test.YtmdgooofdmpcjaaGreatDoorY34
import Derived.Test.YtmdgooofdmpcjaaGreatDoorY27
import Derived.Test.YtmdgooofdmpcjaaGreatDoorY0
set_option maxRecDepth 100000
set_option maxHeartbeats 8000000
set_option linter.unusedSimpArgs false
set_option linter.unusedVariables false
set_option linter.unusedSectionVars false
open Go.Proofs.Tryz renaming prog → pG
namespace Go.Proofs.YtmdgooofdmpcjaaGreatDoor
section
open Go.ChangeShapes Go.WideShapes Go.ChangeAt Go.RowKit
attribute [local go_sem] Oper.semAt_some
open Go.Act renaming put → zP
open List renaming setIfInBounds_toArray → zA, set_cons_zero → zB, set_cons_succ → zC
theorem jd{ops:Array Oper}{o:Oper}{a:Act}{w:World}{K:Act→World→Prop}{Q:Exit→Act→World→Prop}{E:Prop}(hgd:o.guard=none)(s x:Operand)(t:TypeId)
 (ho:o.op= .call {callee:= .builtin .append,args:= #[s,x],argTypes:= #[t,t]})
 (base:Nat) (e:TypeId) (i:TypeInfo) (z:Value) (size bytes:Nat) (ht:pG.underlying t=some (.slice e)) (hi:pG.info? e=some i) (hz:i.zero=some z)
 (hsize:i.size=size) (hby:i.bytes=bytes) (hzs:z.cells.size=size) (hsz:0<size)
 (v:Value) (n:Nat) (xs:List Value) (hs:a.eval s=v) (hown:w.ownsRow base e size v n xs)
 (B:Nat) (A:Option Addr) (m c:Nat) (news:List Value) (hx:a.eval x= .slice A m c) (hr:Reads w B size A m news) (h1:∀u∈news,u.oneCell'=true)
 (h63:n+m≤maxLen) (hbytes:(n+m)*bytes≤140737488355328) (hbase:base≤w.heap.size)
 (h:∀v' w',w'.ownsRow base e size v' (n+m) (xs++news)→w.grownBy w' v.ownBlock→(v'.ownBlock=v.ownBlock∨v'.ownBlock=some w.heap.size)→K (a.put o.dst v') w'):
 if Region.wanted o (yielded ops a.tmps)=true then Oper.wp pG o a w K Q else E:=by
 have hw:Region.wanted o (yielded ops a.tmps)=true:=by simp[Region.wanted,hgd]
 rw[if_pos hw];exact uw w s x t ho base e i z size bytes ht hi hz hsize hby hzs hsz v n xs hs hown B A m c news hx hr h1 h63 hbytes hbase h
theorem oW{w:World}{g B:Nat}{R:List aI}{bs n:Nat}{v:Value}(h:w.ownsRow bs 53 3 v n (R.flatMap aI.cells))(hv:v.ownBlock=some g)(hB:w.heap.size≤B)(p m:Nat)(hm:p+m≤R.length)(A:Option Addr)(hA:0<m→A=some ⟨g,p*3,none⟩):Reads w B 3 A m (((R.drop p).take m).flatMap aI.cells):=by
 have hlen:∀l:List aI,(l.flatMap aI.cells).length=l.length*3:=fun l=>by
  induction l with
  | nil=>rfl
  | cons e l ih=>rw[List.flatMap_cons,List.length_append,ih];simp[aI.cells];omega
 refine⟨by rw[hlen,List.length_take,List.length_drop];congr 1;omega,fun h0=>⟨⟨g,p*3,none⟩,hA h0,Nat.lt_of_lt_of_le (h.lt g hv).2 hB,fun j u hj=> ?_⟩⟩;have hR:R=R.take p++((R.drop p).take m++(R.drop p).drop m):=by rw[List.take_append_drop,List.take_append_drop]
 have hj2:(R.flatMap aI.cells)[p*3+j]?=some u:=by
  rw[hR,List.flatMap_append,List.flatMap_append,List.getElem?_append_right (by rw[hlen,List.length_take];omega)];rw[hlen,List.length_take,Nat.min_eq_left oz,Nat.add_sub_cancel_left,List.getElem?_append_left (List.getElem?_eq_some_iff.1 hj).1];exact hj
 have:=h.cells hv _ _ hj2;rw[add_plain]at this ⊢;simpa using this
theorem cells_one{R:List aI}:∀u∈R.flatMap aI.cells,u.oneCell'=true:=fun u hu=>by
 obtain⟨e,-,he⟩:=List.mem_flatMap.1 hu;simp[aI.cells]at he;rcases he with rfl | rfl | rfl<;>rfl
theorem yI{W:World}{base cp:Nat}{A:Option Addr}{l:List Nat}(h:W.ownsRow base 3 1 (.slice A l.length cp) l.length (l.map fun k:Nat=>Value.int .i64 (k:Int))):fV W W.heap.size A (l.map fun k:Nat=>(k:Int)):=by
 have e:(l.map fun k:Nat=>Value.int .i64 (k:Int))=(l.map fun k:Nat=>(k:Int)).map (Value.int .i64):=by rw[List.map_map];rfl
 have e2:l.length=(l.map fun k:Nat=>(k:Int)).length:=by simp
 rw[e,e2]at h;exact nu h
theorem aCz{x:ay}(hc:cW x=0)(net:Int){y:fU}(hy:y∈x.aF.l){R:List aI}(aJ:∀m∈bV x y,0≤(dW x net y).at m)(hR:jk (gj x net (dX x y)) (dW x net y) (dX x y) (bV x y) R)(q:Nat)(hq:q<R.length):
 (lN x.mods.l.length (dX x y) (R.eraseIdx q)).length<(lN x.mods.l.length (dX x y) R).length∧lN x.mods.l.length (dX x y) (R++ [R[q]])=lN x.mods.l.length (dX x y) R:=by
 have cD:=jw hc net hy;have Ct:=Nz cD.inv hR aJ;constructor
 ·unfold lN jW
  refine Bn _ (fun z hz=> ?_) ?_
  ·simp only[Bool.and_eq_true,decide_eq_true_eq]at hz⊢
   exact⟨hz.1,rF R q _ z hz.2⟩
  ·obtain⟨m,hm,Pm,IK⟩:=Xb cD.inv hR aJ (fun z=>aQ.tX cD.inv oz z) q hq
   have hd:=Ep hc hy m hm;have fK:=Qj (M:=x.mods.l.length) cD.inv hR (Jr hc net hy aJ) (fun e he=>(oT.1 he).2.2.2) m hd.1 Pm;refine⟨m,List.mem_range.2 hd.1,?_,?_⟩
   ·simp only[Bool.and_eq_true,decide_eq_true_eq]
    exact⟨Pm,(Ct m).2 (.inr (fK.2 hm))⟩
   ·simp[IK]
 ·unfold lN
  exact Ov hq (fun e he=>(Ct e.t).2 (.inr (List.mem_map.2 ⟨e,he,rfl⟩)))
theorem aGg{Q T:World→Nat→Value→Nat→Prop}{G:Prop}(h:(∀W n v b,Q W n v b→T W n v b)→G)(k:∀W n v b,Q W n v b→T W n v b):G:=h k
theorem Zj(n:Nat){l:List Nat}(hn:l.Nodup)(h:∀j∈l,j<n):l.length≤n:=by
 have:=CT l (List.range n) hn (fun j hj=>List.mem_range.2 (h j hj));simpa using this
theorem aID(x:ay)(v net cut:Int)(w:World)(hr:x.rd w w.heap.size)(hL:ct w)(hx:∀r∈x.causes.l,r.x.n≤8796093021952)(hcu:0≤cut∧cut≤255):
 CU 7 #[x.val,.int .i64 v,.int .i64 net,.int .u8 cut] w (.bool true):=by
 obtain⟨y0,bR⟩:=ez (w.alloc (.cells #[.slice x.mods.a x.mods.l.length x.mods.c,.slice x.aj.a x.aj.l.length x.aj.c,.slice x.aP.a x.aP.l.length x.aP.c,.slice x.links.a x.links.l.length x.links.c,.slice x.aF.a x.aF.l.length x.aF.c,.slice x.bQ.a x.bQ.l.length x.bQ.c,.slice x.causes.a x.causes.l.length x.causes.c,.slice x.aA.a x.aA.l.length x.aA.c] 31));obtain⟨gc,uW⟩:=ez w.heap.size;have bW:Below w.heap.size w y0:=by rw[bR];exact bN
 have bS:ah y0 gc 31 x.arr:=by rw[bR,uW];exact ah.new w _ _
 have hs0:y0.heap.size=gc+1:=by rw[bR,uW];simp
 have haw:=La y0 (hL.below bW);have Haw:=lz haw;have gW:Hid (∀W,Below y0.heap.size y0 W→W.cell? ⟨gc,0,none⟩=some (.slice x.mods.a x.mods.l.length x.mods.c)∧W.cell? ⟨gc,1,none⟩=some (.slice x.aj.a x.aj.l.length x.aj.c)∧W.cell? ⟨gc,2,none⟩=some (.slice x.aP.a x.aP.l.length x.aP.c)∧W.cell? ⟨gc,3,none⟩=some (.slice x.links.a x.links.l.length x.links.c)∧W.cell? ⟨gc,4,none⟩=some (.slice x.aF.a x.aF.l.length x.aF.c)∧W.cell? ⟨gc,5,none⟩=some (.slice x.bQ.a x.bQ.l.length x.bQ.c)∧W.cell? ⟨gc,6,none⟩=some (.slice x.causes.a x.causes.l.length x.causes.c)∧W.cell? ⟨gc,7,none⟩=some (.slice x.aA.a x.aA.l.length x.aA.c)):=lz fun W hW=>by
  have h:=bS.below hW oz;exact⟨h.cell 0,h.cell 1,h.cell 2,h.cell 3,h.cell 4,h.cell 5,h.cell 6,h.cell 7⟩
 have kX:Hid (∀W,Below y0.heap.size y0 W→x.rd W W.heap.size∧ct W∧Below w.heap.size w W):=lz fun W hW=>by
  have h:=bW.trans (hW.mono bW.size);exact⟨hr.below h,hL.below h,h⟩
 have Hx:=lz hx;have dV:=lz bR;have Oc:=lz uW;have Hs0:=lz hs0;clear bR uW bW bS hs0 haw hr hL hx;go_enter Tryz.func7,Tryz.ntmps7;go_wp2_with fail;rw[←dV.out,←Oc.out];refine Haw.out.mono ?_;rintro e W1 ⟨rfl,aU⟩;obtain⟨c0,c1,c2,c3,c4,c5,c6,c7⟩:=gW.out W1 aU;have cU:=lz aU;clear aU;go_wp2_with fail;clear c0 c1 c2 c3 c4 c5 c6 c7;refine(Q0 x W1 (kX.out W1 cU.out).1).mono ?_;rintro e W2 ⟨⟨zs,rfl⟩,dI⟩;have eF:=lz (cU.out.trans (dI.mono cU.out.size));obtain⟨c0,c1,c2,c3,c4,c5,c6,c7⟩:=gW.out W2 eF.out;clear dI;by_cases hzs:zs>600
 ·go_wp2_with fail
  go_ret;exact⟨rfl,(kX.out W2 eF.out).2.2⟩
 go_wp2_with fail;clear c0 c1 c2 c3 c4 c5 c6 c7;refine(yx x W2 (kX.out W2 eF.out).1 (kX.out W2 eF.out).2.1 Hx.out).mono ?_;rintro e W3 ⟨rfl,kq⟩;have mP:=lz (eF.out.trans (kq.mono eF.out.size));obtain⟨c0,c1,c2,c3,c4,c5,c6,c7⟩:=gW.out W3 mP.out;clear kq;by_cases hc0:cW x≠0
 ·generalize cW x=zc at*
  have hcz:(zc !=0)=true:=by simpa using hc0
  go_wp2;go_ret;exact⟨rfl,(kX.out W3 mP.out).2.2⟩
 have hc:cW x=0:=Decidable.of_not_not hc0;rw[hc];have Hc:=lz hc;clear hc hc0;go_wp2_with fail;clear c0 c1 c2 c3 c4 c5 c6 c7
 cases oU:Ab x v net with
 | false=>
  refine(Ol x v net W3 (kX.out W3 mP.out).1 (kX.out W3 mP.out).2.1 Hx.out oU).mono ?_;rintro e W4 ⟨rfl,mF⟩;have pN:=lz (mP.out.trans (mF.mono mP.out.size));clear mF;go_wp2;go_ret;exact⟨rfl,(kX.out W4 pN.out).2.2⟩
 | true=>
  obtain⟨-,hv0,Me,qw,NI⟩:=oV.1 oU;obtain⟨k,rfl⟩:∃k:Nat,v=(k:Int):=⟨v.toNat,oz⟩;have hk:k<x.aF.l.length:=by omega
  clear oU;refine(qL x k net W3 (kX.out W3 mP.out).1 (kX.out W3 mP.out).2.1 Hx.out Hc.out hk qw NI).mono ?_;rintro e W4 ⟨hP,mF⟩;have pN:=lz (mP.out.trans (mF.mono mP.out.size));by_cases rG:∃m∈bV x x.aF.l[k],(dW x net x.aF.l[k]).at m<0
  ·obtain rfl:=hP.2 rG
   clear hP rG mF;go_wp2;go_ret;exact⟨rfl,(kX.out W4 pN.out).2.2⟩
  have aJ:∀m∈bV x x.aF.l[k],0≤(dW x net x.aF.l[k]).at m:=fun m hm=>by
   have h:¬((dW x net x.aF.l[k]).at m<0):=fun h=>rG ⟨m,hm,h⟩
   omega
  obtain⟨A,cp,R,rfl,hp,ho,aCx,aQD,iO⟩:=hP.1 aJ;obtain⟨y,hy⟩:=ez (x.aF.l[k]);have yu:y∈x.aF.l:=by rw[hy];exact List.getElem_mem hk
  rw[←hy]at hp ho aJ;have cD:=jw Hc.out net yu;have Fw:=CR cD.inv (bV x y) aJ;have hR:jk (gj x net (dX x y)) (dW x net y) (dX x y) (bV x y) R:=jk.Ky Fw hp ho;have aQP:=jv Hc.out;have hRm:∀e∈R,e.f<12∧e.t<12:=fun e he=>by
   obtain⟨i,hi,rfl⟩:=List.getElem_of_mem he;have h1:=(Lf cD.inv hR aJ i hi).1;have h2:=qI Hc.out net (dX x y) _ h1;have h3:x.mods.l.length+x.aP.l.length≤12:=Eo Hc.out;omega
  have aLr:R.length≤12:=by
   have:=Zj 12 hR.ok.nodup (fun j hj=>by
    obtain⟨e,he,rfl⟩:=List.mem_map.1 hj;exact(hRm e he).2)
   simpa using this
  have hdp:=Jr Hc.out net yu aJ;have I6:=Jp Hc.out yu;have hR0:0<R.length:=by
   have hd0:0<(bV x y).length:=by unfold bV;simp;exact I6.1
   obtain⟨m0,yc⟩:∃m0,m0∈bV x y:=⟨_,List.getElem_mem hd0⟩;exact List.length_pos_of_mem ((hR.ok.mem _).2 ⟨m0,yc,by rw[iT cD.inv (hdp m0 yc)];exact List.mem_cons_self ..⟩)
  have fK:=gV iO;have hown:=nV iO nZ;obtain⟨c0,c1,c2,c3,c4,c5,c6,c7⟩:=gW.out W4 pN.out;obtain⟨aYD,aYE⟩:=hcu;have HR:=lz hR;have aGh:=lz fK;have kZ:=lz hown;have HRm:=lz hRm;have dU:=lz cD;have Hdp:=lz hdp;have Co:=lz aJ;have Hy:=lz hy;have hlz:((R.length:Int)==0)=false:=by rw[beq_eq_false_iff_ne];omega
  have Vx:(0:Int)<(R.length:Int):=by omega
  clear hP rG fK hown iO hR hRm cD hdp aJ Fw hp ho hy mF yu I6 aQP;obtain⟨g,cap,hv,hg1,eG⟩:=kZ.out.form hR0;have hA:A=some ⟨g,0,none⟩:=by injection hv
  subst hA;clear hv;go_wp2_with fail;obtain⟨q,hq⟩:∃q:Nat,cut%(R.length:Int)=(q:Int):=⟨(cut%(R.length:Int)).toNat,by have:=Int.emod_nonneg cut (show(R.length:Int)≠0 by omega);omega⟩;have Fz:q<R.length:=by have:=Int.emod_lt_of_pos cut Vx;omega
  rw[hq];clear c0 c1 c2 c3 c4 c5 c6 c7 hq;refine(Ag x k _ cp R W4 (kX.out W4 pN.out).1 (kX.out W4 pN.out).2.1 Hx.out Hc.out hk aGh.out oz (fun e he=>by have:=HRm.out e he;omega)).mono ?_;rintro e W5 ⟨A1,c1,rfl,hown1,jU⟩;have tT:=lz (pN.out.trans (jU.mono pN.out.size));have aQQ:=lz (aGh.out.below jU);have E8:=lz (cO (X:=fun j=>W4.heap.size≤j) kZ.out (Gr.ak jU) (fun j hj h=>by have:=(kZ.out.lt j hj).2;omega));have Zk:=lz hown1;clear jU hown1 kZ aGh;generalize hL1:lN x.mods.l.length (dX x x.aF.l[k]) R=L1 at *;have HL1:=lz hL1;clear hL1;go_wp2_with fail;have hHeld:=gW.out W5.drew (tT.out.trans (Below.refl _ _).drew);have MI:(q:Int)≤(cp:Int):=by omega
  have lS:(0:Int)≤(q:Int):=by omega
  have aYF:(q:Int)<12:=by omega
  have hwr:IntKind.i64.wrap ((q:Int)+1)=((q+1:Nat):Int):=by rw[IntWalk.i64_in _ oz];omega
  have Pc:(q:Int)+1≤(R.length:Int):=by omega
  have hq4:(0:Int)≤(q:Int)+1:=by omega
  have hq5:(R.length:Int)≤(cp:Int):=by omega
  refine aT (fun W=>W.cell? ⟨gc,0,none⟩=some (.slice x.mods.a x.mods.l.length x.mods.c)∧W.cell? ⟨gc,1,none⟩=some (.slice x.aj.a x.aj.l.length x.aj.c)∧W.cell? ⟨gc,2,none⟩=some (.slice x.aP.a x.aP.l.length x.aP.c)∧W.cell? ⟨gc,3,none⟩=some (.slice x.links.a x.links.l.length x.links.c)∧W.cell? ⟨gc,4,none⟩=some (.slice x.aF.a x.aF.l.length x.aF.c)∧W.cell? ⟨gc,5,none⟩=some (.slice x.bQ.a x.bQ.l.length x.bQ.c)∧W.cell? ⟨gc,6,none⟩=some (.slice x.causes.a x.causes.l.length x.causes.c)∧W.cell? ⟨gc,7,none⟩=some (.slice x.aA.a x.aA.l.length x.aA.c)) 13 kz hHeld (fun hHeld=> ?_);refine TS 0 rfl hHeld ?_;simp only[zP,zA,zB,zC];refine TS 2 rfl hHeld ?_;simp only[zP,zA,zB,zC];refine TS 3 rfl hHeld ?_;simp only[zP,zA,zB,zC];refine TS 4 rfl hHeld ?_;simp only[zP,zA,zB,zC];refine TS 6 rfl hHeld ?_;simp only[zP,zA,zB,zC];refine TS 7 rfl hHeld ?_;simp only[zP,zA,zB,zC];refine TS 8 rfl hHeld ?_;simp only[zP,zA,zB,zC];refine TS 9 rfl hHeld ?_;simp only[zP,zA,zB,zC];refine TS 11 rfl hHeld ?_;simp only[zP,zA,zB,zC];obtain⟨A52,aGi⟩:=ez ((if cp=q+1 then some (⟨g,0,none⟩:Addr)else some ⟨g,(q+1)*3,none⟩));rw[←aGi];have aQS:=lz aGi;clear aGi;obtain⟨i0,lX,hz0,hz1,hz2⟩:=info_parts SX;refine RQ 1 rfl fun K hK=> ?_
  go_simp;have yU:Below W5.heap.size W5 (W5.alloc (.cells #[] 53)).drew:=(bN).drew;have aGj:(W5.alloc (.cells #[] 53)).drew.ownsRow W5.heap.size 53 3 (.slice (some ⟨W5.heap.size,0,none⟩) 0 0) 0 []:=World.ownsRow_made W5 #[] 0 nL nZ rfl;have Zl:=cO (X:=fun j=>W5.heap.size≤j) E8.out (Gr.ak yU) (fun j hj h=>by have:=(E8.out.lt j hj).2;omega);obtain⟨W6,J5⟩:=ez ((W5.alloc (.cells #[] 53)).drew);rw[←J5]at yU aGj Zl;have hHeld:=gW.out W6 (tT.out.trans (yU.mono tT.out.size));refine hK.out _ _ (fun _=>by rw[←J5];exact hHeld) ?_;rw[←J5];clear hK J5;refine RQ 5 rfl fun K hK=> ?_
  refine jd rfl (.tmp 44) (.tmp 47) 49 rfl W5.heap.size 53 i0 _ 3 24 Tryz.underlying49 lX hz0 hz1 hz2 rfl dz (.slice (some ⟨W5.heap.size,0,none⟩) 0 0) 0 [] rfl aGj W6.heap.size (some ⟨g,0,none⟩) q cp (((R.drop 0).take q).flatMap aI.cells) rfl (oW Zl rfl nL 0 q oz _ (fun _=>by simp)) cells_one (by unfold maxLen;omega) oz yU.size ?_;intro v7 W7 S9 Vv _;have NN:Below W5.heap.size W5 W7:=yU.grown Vv yU.size (fun j e=>by have e:W5.heap.size=j:=Option.some.inj e;omega);have aEJ:=cO (X:=fun j=>W5.heap.size≤j) E8.out (Gr.ak NN) (fun j hj h=>by have:=(E8.out.lt j hj).2;omega);rw[List.nil_append,List.drop_zero,Nat.zero_add]at S9;have hHeld:=gW.out W7 (tT.out.trans (NN.mono tT.out.size));refine hK.out _ _ (fun _=>hHeld) ?_;clear hK aGj Zl Vv;refine RQ 10 rfl fun K hK=> ?_
  refine jd rfl (.tmp 48) (.tmp 52) 49 rfl W5.heap.size 53 i0 _ 3 24 Tryz.underlying49 lX hz0 hz1 hz2 rfl dz v7 q _ rfl S9 W7.heap.size _ (R.length-(q+1)) _ (((R.drop (q+1)).take (R.length-(q+1))).flatMap aI.cells) rfl (oW aEJ rfl nL (q+1) _ oz _ (fun h0=>by rw[aQS.out,if_neg oz])) cells_one (by unfold maxLen;omega) oz NN.size ?_;intro v8 W8 Es hg8 _;have Ve:Below W5.heap.size W5 W8:=NN.grown hg8 NN.size (fun j e=>(S9.lt j e).1);have hse:((R.take q).flatMap aI.cells)++(((R.drop (q+1)).take (R.length-(q+1))).flatMap aI.cells)=(R.eraseIdx q).flatMap aI.cells:=by
   have ht:(R.drop (q+1)).take (R.length-(q+1))=R.drop (q+1):=List.take_of_length_le (by rw[List.length_drop];omega);rw[ht,←List.flatMap_append,←List.eraseIdx_eq_take_drop_succ]
  have aLt:q+(R.length-(q+1))=(R.eraseIdx q).length:=by rw[List.length_eraseIdx,if_pos Fz];omega
  rw[hse,aLt]at Es;obtain⟨A8,c8,rfl,hc8,aYG⟩:=bp Es;have aLu:=gV Es;have hHeld:=gW.out W8 (tT.out.trans (Ve.mono tT.out.size));refine hK.out _ _ (fun _=>hHeld) ?_;clear hK S9 aEJ hg8 hse aLt NN yU;refine RQ 12 rfl fun K hK=> ?_
  go_simp;refine(Ag x k A8 c8 (R.eraseIdx q) W8 (kX.out W8 (tT.out.trans (Ve.mono tT.out.size))).1 (kX.out W8 (tT.out.trans (Ve.mono tT.out.size))).2.1 Hx.out Hc.out hk aLu (by rw[List.length_eraseIdx];split<;>omega) (fun e he=>by have:=HRm.out e (List.mem_of_mem_eraseIdx he);omega)).mono ?_;rintro e W9 ⟨A2,c2,rfl,hown2,Ms⟩;have Jh:Below W5.heap.size W5 W9:=Ve.trans (Ms.mono Ve.size);have hHeld:=gW.out W9 (tT.out.trans (Jh.mono tT.out.size));refine hK.out _ _ (fun _=>hHeld) ?_;clear hK;refine RQ 13 rfl fun K hK=> ?_
  go_simp;refine hK.out _ _ (fun h=>absurd h dz) ?_;clear hK;refine aL kz ?_ _;have VA:=lz (tT.out.trans (Jh.mono tT.out.size));have E9:=lz (cO (X:=fun j=>W5.heap.size≤j) E8.out (Gr.ak Jh) (fun j hj h=>by have:=(E8.out.lt j hj).2;omega));have lH:=lz (cO (X:=fun j=>W5.heap.size≤j) Zk.out (Gr.ak Jh) (fun j hj h=>by have:=(Zk.out.lt j hj).2;omega));have Hw2:=lz hown2;clear hown2 Ms Jh Ve Es aLu hHeld E8 Zk aQQ;generalize hL2:lN x.mods.l.length (dX x x.aF.l[k]) (R.eraseIdx q)=L2 at *;have HL2:=lz hL2;clear hL2;go_wp2_with fail;obtain⟨e,hee⟩:=ez (R[q]);have cC:∀W,Below W9.heap.size W9 W→W.cell? ⟨gc,0,none⟩=some (.slice x.mods.a x.mods.l.length x.mods.c)∧W.cell? ⟨gc,1,none⟩=some (.slice x.aj.a x.aj.l.length x.aj.c)∧W.cell? ⟨gc,2,none⟩=some (.slice x.aP.a x.aP.l.length x.aP.c)∧W.cell? ⟨gc,3,none⟩=some (.slice x.links.a x.links.l.length x.links.c)∧W.cell? ⟨gc,4,none⟩=some (.slice x.aF.a x.aF.l.length x.aF.c)∧W.cell? ⟨gc,5,none⟩=some (.slice x.bQ.a x.bQ.l.length x.bQ.c)∧W.cell? ⟨gc,6,none⟩=some (.slice x.causes.a x.causes.l.length x.causes.c)∧W.cell? ⟨gc,7,none⟩=some (.slice x.aA.a x.aA.l.length x.aA.c)∧W.cell? ⟨g,q*3,none⟩=some (.int .i64 e.f)∧W.cell? ⟨g,q*3+1,none⟩=some (.int .i64 e.t)∧W.cell? ⟨g,q*3+2,none⟩=some (.int .i64 e.l)∧W.cell? ⟨g,q*3,none⟩=some (.int .i64 e.f)∧W.cell? ⟨g,q*3+1,none⟩=some (.int .i64 e.t):=fun W hW=>by
   obtain⟨c0,c1,c2,c3,c4,c5,c6,c7⟩:=gW.out W (VA.out.trans (hW.mono VA.out.size));obtain⟨b9,o9,Kv,Ms,hr9⟩:=gV E9.out hR0;obtain⟨r0,r1,r2⟩:=hr9 q Fz;injection Kv with Kv
   injection Kv with aQT aQU
   subst aQT aQU;rw[Nat.zero_add]at r0 r1 r2;rw[←hee]at r0 r1 r2;have k0:=(hW.cell (p:=⟨g,q*3,none⟩) Ms).trans r0;have k1:=(hW.cell (p:=⟨g,q*3+1,none⟩) Ms).trans r1;have k2:=(hW.cell (p:=⟨g,q*3+2,none⟩) Ms).trans r2;exact⟨c0,c1,c2,c3,c4,c5,c6,c7,k0,k1,k2,k0,k1⟩
  have Ej:=lz cC;have HBq:Hid (Below W9.heap.size W9 W9.drew):=lz (Below.refl _ _).drew;have hHeld:=cC W9.drew HBq.out;have Hee:=lz hee;have Rh:(q:Int)<(R.length:Int):=by omega
  clear cC hee;refine aGg (Q:=fun W n v b=>Below W9.heap.size W9 W∧W.ownsRow W9.heap.size 53 3 v R.length (R.flatMap aI.cells)∧ah W b 53 #[.int .i64 e.f,.int .i64 e.t,.int .i64 e.l]∧v.ownBlock≠some b) (T:= ?T) ?main ?key
  case main=>
   intro hkey;have UU:=lz hkey;clear hkey;refine aT (fun W=>W.cell? ⟨gc,0,none⟩=some (.slice x.mods.a x.mods.l.length x.mods.c)∧W.cell? ⟨gc,1,none⟩=some (.slice x.aj.a x.aj.l.length x.aj.c)∧W.cell? ⟨gc,2,none⟩=some (.slice x.aP.a x.aP.l.length x.aP.c)∧W.cell? ⟨gc,3,none⟩=some (.slice x.links.a x.links.l.length x.links.c)∧W.cell? ⟨gc,4,none⟩=some (.slice x.aF.a x.aF.l.length x.aF.c)∧W.cell? ⟨gc,5,none⟩=some (.slice x.bQ.a x.bQ.l.length x.bQ.c)∧W.cell? ⟨gc,6,none⟩=some (.slice x.causes.a x.causes.l.length x.causes.c)∧W.cell? ⟨gc,7,none⟩=some (.slice x.aA.a x.aA.l.length x.aA.c)∧W.cell? ⟨g,q*3,none⟩=some (.int .i64 e.f)∧W.cell? ⟨g,q*3+1,none⟩=some (.int .i64 e.t)∧W.cell? ⟨g,q*3+2,none⟩=some (.int .i64 e.l)∧W.cell? ⟨g,q*3,none⟩=some (.int .i64 e.f)∧W.cell? ⟨g,q*3+1,none⟩=some (.int .i64 e.t)) 12 kz hHeld (fun hHeld=> ?_);refine TS 0 rfl hHeld ?_;simp only[zP,zA,zB,zC];refine TS 2 rfl hHeld ?_;simp only[zP,zA,zB,zC];refine TS 4 rfl hHeld ?_;simp only[zP,zA,zB,zC];refine TS 5 rfl hHeld ?_;simp only[zP,zA,zB,zC];refine TS 6 rfl hHeld ?_;simp only[zP,zA,zB,zC];refine TS 7 rfl hHeld ?_;simp only[zP,zA,zB,zC];refine TS 10 rfl hHeld ?_;simp only[zP,zA,zB,zC];refine jB (rs:= [1,8]) kz qz ?_;refine dx.cons rfl (fun K hK=> ?_) (dx.cons rfl (fun K hK=> ?_) dx.nil)
   ·go_simp
    obtain⟨Vf,Lh⟩:∃n,n=W9.heap.size:=⟨_,rfl⟩;obtain⟨Wa,yJ⟩:∃W,W=(W9.alloc (.cells #[] 53)).drew:=⟨_,rfl⟩;have Li:Below W9.heap.size W9 Wa:=by rw[yJ];exact(((Below.refl _ W9).alloc nL (.cells #[] 53)).drew)
    have qM:Below W9.heap.size W9 Wa:=Li;have JH:Wa.ownsRow W9.heap.size 53 3 (.slice (some ⟨Vf,0,none⟩) 0 0) 0 []:=by rw[yJ,Lh];exact World.ownsRow_made (base:=W9.heap.size) W9 #[] 0 nL nZ rfl
    rw[←Lh,←yJ];have hHeld:=Ej.out Wa qM;refine hK.out _ _ (fun _=>hHeld) ?_;clear hK;clear yJ;have aLv:=lz Lh;clear Lh;refine jB (rs:= [3,8]) kz qz ?_;refine dx.cons rfl (fun K hK=> ?_) (dx.cons rfl (fun K hK=> ?_) dx.nil)
    ·refine jd rfl (.tmp 57) (.tmp 58) 49 rfl W9.heap.size 53 i0 _ 3 24 Tryz.underlying49 lX hz0 hz1 hz2 rfl dz (.slice (some ⟨Vf,0,none⟩) 0 0) 0 [] rfl JH Wa.heap.size (some ⟨g,0,none⟩) R.length cp (((R.drop 0).take R.length).flatMap aI.cells) rfl (oW (cO (X:=fun j=>W9.heap.size≤j) E9.out (Gr.ak qM) (fun j hj h=>by have:=(E9.out.lt j hj).2;omega)) rfl nL 0 R.length oz _ (fun _=>by simp)) cells_one (by unfold maxLen;omega) oz qM.size ?_
     intro v59 Wb yL aEK aGk;have mU:Below W9.heap.size W9 Wb:=qM.grown aEK qM.size (fun j e=>(JH.lt j e).1);rw[List.nil_append,List.drop_zero,List.take_length,Nat.zero_add]at yL;have hHeld:=Ej.out Wb mU;refine hK.out _ _ (fun _=>hHeld) ?_;clear hK;refine RQ 8 rfl fun K hK=> ?_
     go_simp;obtain⟨Pt,yM⟩:∃n,n=Wb.heap.size:=⟨_,rfl⟩;obtain⟨Wc,Ta⟩:∃W,W=Wb.alloc (.cells #[.int .i64 e.f,.int .i64 e.t,.int .i64 e.l] 53):=⟨_,rfl⟩;have Rn:Below Wb.heap.size Wb Wc:=by rw[Ta];exact(((Below.refl _ Wb).alloc nL (.cells #[.int .i64 e.f,.int .i64 e.t,.int .i64 e.l] 53)))
     have yN:Below W9.heap.size W9 Wc:=mU.trans (Rn.mono mU.size);have JI:ah Wc Pt 53 #[.int .i64 e.f,.int .i64 e.t,.int .i64 e.l]:=by rw[Ta,yM];exact ah.new Wb _ _
     rw[←yM,←Ta];have hHeld:=Ej.out Wc yN;refine hK.out _ _ (fun _=>hHeld) ?_;clear hK;clear Ta;have aC0:=lz yM;clear yM;have hv9:v59.ownBlock≠some Pt:=fun h=>by have:=(yL.lt _ h).2;have:=aC0.out;omega
     have pX:=cO (X:=fun j=>Wb.heap.size≤j) yL (Gr.ak Rn) (fun j hj h=>by have:=(yL.lt j hj).2;omega);have HT:=ai yN (ai pX (ai JI hv9));clear hHeld JH qM mU yL aEK aGk JI yN Rn Li hv9 pX;exact UU.out Wc Vf v59 Pt HT
    ·go_simp
     obtain⟨Pt,yM⟩:∃n,n=Wa.heap.size:=⟨_,rfl⟩;obtain⟨Wb,yO⟩:∃W,W=Wa.alloc (.cells #[.int .i64 e.f,.int .i64 e.t,.int .i64 e.l] 53):=⟨_,rfl⟩;have Fa:Below Wa.heap.size Wa Wb:=by rw[yO];exact(((Below.refl _ Wa).alloc nL (.cells #[.int .i64 e.f,.int .i64 e.t,.int .i64 e.l] 53)))
     have mU:Below W9.heap.size W9 Wb:=qM.trans (Fa.mono qM.size);have OB:ah Wb Pt 53 #[.int .i64 e.f,.int .i64 e.t,.int .i64 e.l]:=by rw[yO,yM];exact ah.new Wa _ _
     rw[←yM,←yO];have hHeld:=Ej.out Wb mU;refine hK.out _ _ (fun _=>hHeld) ?_;clear hK;clear yO;have aC0:=lz yM;clear yM;have OC:=cO (X:=fun j=>Wa.heap.size≤j) JH (Gr.ak Fa) (fun j hj h=>by have:=(JH.lt j hj).2;omega);have hne:Vf≠Pt:=by have:=(JH.lt Vf rfl).2;have:=aC0.out;omega
     refine RQ 3 rfl fun K hK=> ?_
     refine jd rfl (.tmp 57) (.tmp 58) 49 rfl W9.heap.size 53 i0 _ 3 24 Tryz.underlying49 lX hz0 hz1 hz2 rfl dz (.slice (some ⟨Vf,0,none⟩) 0 0) 0 [] rfl OC Wb.heap.size (some ⟨g,0,none⟩) R.length cp (((R.drop 0).take R.length).flatMap aI.cells) rfl (oW (cO (X:=fun j=>W9.heap.size≤j) E9.out (Gr.ak mU) (fun j hj h=>by have:=(E9.out.lt j hj).2;omega)) rfl nL 0 R.length oz _ (fun _=>by simp)) cells_one (by unfold maxLen;omega) oz mU.size ?_;intro v59 Wc pX OD Ro;have yN:Below W9.heap.size W9 Wc:=mU.grown OD mU.size (fun j e=>(OC.lt j e).1);rw[List.nil_append,List.drop_zero,List.take_length,Nat.zero_add]at pX;have hHeld:=Ej.out Wc yN;refine hK.out _ _ (fun _=>hHeld) ?_;clear hK;have JI:=OB.grown OD (fun h=>hne (Option.some.inj h).symm);have hv9:v59.ownBlock≠some Pt:=fun h=>by
      have h1:=OB.lt;rcases Ro with q1 | q1
      ·rw[h]at q1;exact hne (Option.some.inj q1).symm
      ·rw[h]at q1;have:=Option.some.inj q1;omega
     have HT:=ai yN (ai pX (ai JI hv9));exact UU.out Wc Vf v59 Pt HT
   ·go_simp
    obtain⟨Pt,yM⟩:∃n,n=W9.heap.size:=⟨_,rfl⟩;obtain⟨Wa,yJ⟩:∃W,W=(W9.alloc (.cells #[.int .i64 e.f,.int .i64 e.t,.int .i64 e.l] 53)).drew:=⟨_,rfl⟩;have Li:Below W9.heap.size W9 Wa:=by rw[yJ];exact(((Below.refl _ W9).alloc nL (.cells #[.int .i64 e.f,.int .i64 e.t,.int .i64 e.l] 53)).drew)
    have qM:Below W9.heap.size W9 Wa:=Li;have Zm:ah Wa Pt 53 #[.int .i64 e.f,.int .i64 e.t,.int .i64 e.l]:=by rw[yJ,yM];exact(ah.new W9 _ _).drew
    rw[←yM,←yJ];have hHeld:=Ej.out Wa qM;refine hK.out _ _ (fun _=>hHeld) ?_;clear hK;clear yJ;have aC0:=lz yM;clear yM;refine RQ 1 rfl fun K hK=> ?_
    go_simp;obtain⟨Vf,Lh⟩:∃n,n=Wa.heap.size:=⟨_,rfl⟩;obtain⟨Wb,yO⟩:∃W,W=Wa.alloc (.cells #[] 53):=⟨_,rfl⟩;have Fa:Below Wa.heap.size Wa Wb:=by rw[yO];exact(((Below.refl _ Wa).alloc nL (.cells #[] 53)))
    have mU:Below W9.heap.size W9 Wb:=qM.trans (Fa.mono qM.size);have OC:Wb.ownsRow W9.heap.size 53 3 (.slice (some ⟨Vf,0,none⟩) 0 0) 0 []:=by rw[yO,Lh];exact World.ownsRow_made (base:=W9.heap.size) Wa #[] 0 qM.size nZ rfl
    rw[←Lh,←yO];have hHeld:=Ej.out Wb mU;refine hK.out _ _ (fun _=>hHeld) ?_;clear hK;clear yO;have aLv:=lz Lh;clear Lh;have OB:=Zm.below Fa Zm.lt;have hne:Vf≠Pt:=by have:=Zm.lt;have:=aLv.out;omega
    refine RQ 3 rfl fun K hK=> ?_
    refine jd rfl (.tmp 57) (.tmp 58) 49 rfl W9.heap.size 53 i0 _ 3 24 Tryz.underlying49 lX hz0 hz1 hz2 rfl dz (.slice (some ⟨Vf,0,none⟩) 0 0) 0 [] rfl OC Wb.heap.size (some ⟨g,0,none⟩) R.length cp (((R.drop 0).take R.length).flatMap aI.cells) rfl (oW (cO (X:=fun j=>W9.heap.size≤j) E9.out (Gr.ak mU) (fun j hj h=>by have:=(E9.out.lt j hj).2;omega)) rfl nL 0 R.length oz _ (fun _=>by simp)) cells_one (by unfold maxLen;omega) oz mU.size ?_;intro v59 Wc pX OD Ro;have yN:Below W9.heap.size W9 Wc:=mU.grown OD mU.size (fun j e=>(OC.lt j e).1);rw[List.nil_append,List.drop_zero,List.take_length,Nat.zero_add]at pX;have hHeld:=Ej.out Wc yN;refine hK.out _ _ (fun _=>hHeld) ?_;clear hK;have JI:=OB.grown OD (fun h=>hne (Option.some.inj h).symm);have hv9:v59.ownBlock≠some Pt:=fun h=>by
     have h1:=OB.lt;rcases Ro with q1 | q1
     ·rw[h]at q1;exact hne (Option.some.inj q1).symm
     ·rw[h]at q1;have:=Option.some.inj q1;omega
    have HT:=ai yN (ai pX (ai JI hv9));exact UU.out Wc Vf v59 Pt HT
  case key=>
   rintro W10 Vf v59 Pt ⟨aC1,Rp,aGl,aQV⟩;refine RQ 9 rfl fun K hK=> ?_
   refine jd rfl (.tmp 59) (.tmp 64) 49 rfl W9.heap.size 53 i0 _ 3 24 Tryz.underlying49 lX hz0 hz1 hz2 rfl dz v59 R.length _ rfl Rp W10.heap.size (some ⟨Pt,0,none⟩) 1 1 ([e].flatMap aI.cells) rfl ⟨rfl,fun _=>⟨⟨Pt,0,none⟩,rfl,aGl.lt,fun j u hj=>by
    rw[add_plain,Nat.zero_add,aGl.cell j];simpa [aI.cells]using hj⟩⟩ cells_one (by unfold maxLen;omega) oz aC1.size ?_
   intro v11 wv Fb aLw _;have Zn:Below W9.heap.size W9 wv:=aC1.grown aLw aC1.size (fun j e=>(Rp.lt j e).1);have aEL:R.length+1=(R++ [e]).length:=by simp
   rw[←List.flatMap_append,aEL]at Fb;obtain⟨H,hH⟩:=ez (R++ [e]);rw[←hH]at Fb;have HH:=lz hH;clear hH;obtain⟨A11,c11,rfl,aYJ,aTm⟩:=bp Fb;have aEM:=gV Fb;have hHeld:=Ej.out wv Zn;refine hK.out _ _ (fun _=>hHeld) ?_;clear hK aLw Rp aGl aQV aC1 aEL;refine RQ 11 rfl fun K hK=> ?_
   go_simp;have Zo:=VA.out.trans (Zn.mono VA.out.size);refine(Ag x k A11 c11 H wv (kX.out wv Zo).1 (kX.out wv Zo).2.1 Hx.out Hc.out hk aEM (by rw[HH.out,List.length_append,List.length_singleton];omega) (fun e' jm=>by
    rw[HH.out]at jm;rcases List.mem_append.1 jm with h | h
    ·have:=HRm.out e' h;omega
    ·have h2:=HRm.out e' (by rw[List.mem_singleton.1 h,Hee.out];exact List.getElem_mem Fz);omega)).mono ?_
   rintro e' sI ⟨A3,c3,rfl,yP,aLx⟩;have aC2:Below W9.heap.size W9 sI:=Zn.trans (aLx.mono Zn.size);have hHeld:=Ej.out sI aC2;refine hK.out _ _ (fun _=>hHeld) ?_;clear hK;refine RQ 12 rfl fun K hK=> ?_
   go_simp;refine hK.out _ _ (fun h=>absurd h dz) ?_;clear hK;refine aL kz ?_ _;obtain⟨aLy,aGm⟩:=aCz Hc.out net (List.getElem_mem hk) (Hy.out▸Co.out) (Hy.out▸HR.out) q Fz;rw[HL1.out,HL2.out]at aLy;rw[HL1.out,←Hee.out,←HH.out]at aGm;rw[aGm]at yP ⊢;have hlt:(L2.length:Int)<(L1.length:Int):=by omega
   have cN:=cO (X:=fun j=>W9.heap.size≤j) lH.out (Gr.ak aC2) (fun j hj h=>by have:=(lH.out.lt j hj).2;omega);have hsm:=Et (L1.map fun k:Nat=>(k:Int)) (L1.map fun k:Nat=>(k:Int)) A3 A1 c3 c1 sI (yI yP) (yI cN) (by
    have h1:=E7 x.mods.l.length (dX x x.aF.l[k]) (bU [dX x x.aF.l[k]] R);have h2:=HL1.out;unfold lN at h2;rw[h2]at h1;have h3:=(jv Hc.out).1;simp;omega)
   rw[tI rfl,List.length_map]at hsm;have Hsm:=lz hsm;have aCi:=lz (VA.out.trans (aC2.mono VA.out.size));clear hsm cN yP aLx aC2 Zn Zo hHeld Fb aEM aLy aGm;go_wp2_with fail;refine Hsm.out.mono ?_;rintro e' VH ⟨rfl,Aj⟩;go_wp2;go_ret;exact⟨rfl,(kX.out VH (aCi.out.trans (Aj.mono aCi.out.size))).2.2⟩
end
end Go.Proofs.YtmdgooofdmpcjaaGreatDoor
