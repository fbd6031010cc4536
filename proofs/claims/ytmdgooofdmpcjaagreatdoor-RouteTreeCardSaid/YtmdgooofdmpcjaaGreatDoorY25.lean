import Derived.Test.YtmdgooofdmpcjaaGreatDoorY24
import Derived.Test.YtmdgooofdmpcjaaGreatDoorY23
import Derived.Test.YtmdgooofdmpcjaaGreatDoorY0
set_option maxRecDepth 100000
set_option maxHeartbeats 8000000
set_option linter.unusedSimpArgs false
set_option linter.unusedVariables false
set_option linter.unusedSectionVars false
open Go.Proofs.Tryz renaming prog → pG
namespace Go.Proofs.YtmdgooofdmpcjaaGreatDoor
section
open Go.ChangeShapes Go.WideShapes Go.ChangeAt Go.RowKit Go.Sort
attribute [local go_sem] Oper.semAt_some
theorem Ol(x:ay)(v net:Int)(w:World)(hr:x.rd w w.heap.size)(hL:ct w)(hx:∀r∈x.causes.l,r.x.n≤8796093021952)(jT:Ab x v net=false):
 CU 13 #[x.val,.int .i64 v,.int .i64 net] w (.tuple #[.slice none 0 0,.int .i64 2]):=by
 obtain⟨y0,bR⟩:=ez (w.alloc (.cells #[.slice x.mods.a x.mods.l.length x.mods.c,.slice x.aj.a x.aj.l.length x.aj.c,.slice x.aP.a x.aP.l.length x.aP.c,.slice x.links.a x.links.l.length x.links.c,.slice x.aF.a x.aF.l.length x.aF.c,.slice x.bQ.a x.bQ.l.length x.bQ.c,.slice x.causes.a x.causes.l.length x.causes.c,.slice x.aA.a x.aA.l.length x.aA.c] 31));have bW:Below w.heap.size w y0:=by rw[bR];exact bN
 have bS:ah y0 w.heap.size 31 x.arr:=by rw[bR];exact ah.new w _ _
 have oU:=Oe x v net y0 (hr.below bW) (hL.below bW) hx jT;have c0:=bS.cell 0;have c1:=bS.cell 1;have c2:=bS.cell 2;have c3:=bS.cell 3;have c4:=bS.cell 4;have c5:=bS.cell 5;have c6:=bS.cell 6;have c7:=bS.cell 7;rw[bR]at c0 c1 c2 c3 c4 c5 c6 c7;simp only[ay.arr,List.getElem?_toArray,List.getElem?_cons_zero,List.getElem?_cons_succ]at c0 c1 c2 c3 c4 c5 c6 c7;have SK:=lz oU;have aV:=lz bW;have dV:=lz bR;clear bR bW bS oU hr hL hx jT;go_enter Tryz.func13,Tryz.ntmps13;go_wp2_with fail;rw[←dV.out];clear c0 c1 c2 c3 c4 c5 c6 c7;refine SK.out.mono ?_;rintro e W1 ⟨rfl,aU⟩;have cU:=lz (aV.out.trans (aU.mono aV.out.size));clear aU;go_wp2_with fail;refine bodyPost_ret (results_tmp2 rfl _ _ _) rfl ?_;have qR:∀(o:Obj),Below w.heap.size w (W1.alloc o):=fun o=>cU.out.alloc cU.out.size o
 exact⟨rfl,qR _⟩
def aGO(s:aQ)(src:Nat)(ds:List Nat)(w:World)(e:Ending)(w':World):Prop:=
 ((∀m∈ds,0≤s.at m)→∃(A:Option Addr) (c:Nat) (R:List aI),e= .returned (.tuple #[.slice A R.length c,.int .i64 0])∧R.Perm (jj s src ds [])∧R.Pairwise (aI.before s)∧R.length≤c∧c≤maxLen∧w'.ownsRow w.heap.size 53 3 (.slice A R.length c) R.length (R.flatMap aI.cells))∧
 ((∃m∈ds,s.at m<0)→e= .returned (.tuple #[.slice none 0 0,.int .i64 6]))
theorem qL(x:ay)(v:Nat)(net:Int)(w:World)(hr:x.rd w w.heap.size)(hL:ct w)(hx:∀r∈x.causes.l,r.x.n≤8796093021952)(hc:cW x=0)(hv:v<x.aF.l.length)(qw:0≤net)(NI:net≤1):
 Calls pG 13 #[x.val,.int .i64 (v:Int),.int .i64 net] w fun e w'=>aGO (dW x net x.aF.l[v]) (dX x x.aF.l[v]) (bV x x.aF.l[v]) w e w'∧Below w.heap.size w w':=by
 obtain⟨y0,bR⟩:=ez (w.alloc (.cells #[.slice x.mods.a x.mods.l.length x.mods.c,.slice x.aj.a x.aj.l.length x.aj.c,.slice x.aP.a x.aP.l.length x.aP.c,.slice x.links.a x.links.l.length x.links.c,.slice x.aF.a x.aF.l.length x.aF.c,.slice x.bQ.a x.bQ.l.length x.bQ.c,.slice x.causes.a x.causes.l.length x.causes.c,.slice x.aA.a x.aA.l.length x.aA.c] 31));obtain⟨gc,uW⟩:=ez w.heap.size;have bW:Below w.heap.size w y0:=by rw[bR];exact bN
 have bS:ah y0 gc 31 x.arr:=by rw[bR,uW];exact ah.new w _ _
 have oU:=Aa x v net y0 (hr.below bW) (hL.below bW) hx hc hv qw NI;have hN:x.mods.l.length+x.aP.l.length≤12:=Eo hc;obtain⟨bv,ov,hva,hbv,hvc⟩:=hr.aF (show 0<x.aF.l.length by omega);have hvv:=hvc v hv;obtain⟨y,hy⟩:=ez (x.aF.l[v]);rw[←hy]at oU hvv ⊢;have yu:y∈x.aF.l:=by rw[hy];exact List.getElem_mem hv
 have cD:=jw hc net yu;have hds:=Ep hc yu;have I6:=Jp hc yu;have C5:=jv hc;obtain⟨n,hn⟩:=ez (x.mods.l.length+x.aP.l.length);obtain⟨src,K2⟩:=ez (dX x y);obtain⟨s,hs⟩:=ez (dW x net y);rw[←hn]at hN oU;rw[←K2,←hs]at oU cD ⊢;rw[←K2]at hds;have hEd:∀e∈gj x net src,e.f<12∧e.t<12:=fun e he=>by
  have h1:=qI hc net src e he;rw[←hn]at h1;omega
 have hs0:y0.heap.size=gc+1:=by rw[bR,uW];simp
 have SK:=lz oU;have aV:=lz bW;have sA:=lz bS;have dV:=lz bR;have Oc:=lz uW;have Hn:=lz hn;have dU:=lz cD;have Vz:=lz hds;have Hr:=lz hr;have Hva:=lz hva;have Hvv:=lz hvv;have HEd:=lz hEd;have Hs0:=lz hs0;have aK4:Hid (bV x y=y.dst.l.map fun r=>(bg x r.m).toNat):=lz rfl;have Hch:Hid (∀r∈y.dst.l,0≤bg x r.m):=lz (fun r hr=>by have:=(El hc yu).2.2 r hr;omega);obtain⟨TD,hd2⟩:=I6;obtain⟨hc1,qc,-,-⟩:=C5;have hvi:(v:Int)<(x.aF.l.length:Int):=by omega
 have hv0:(0:Int)≤(v:Int):=by omega
 obtain⟨c0,c1,c2,c3,c4,c5,c6,c7⟩:y0.cell? ⟨gc,0,none⟩=some (.slice x.mods.a x.mods.l.length x.mods.c)∧y0.cell? ⟨gc,1,none⟩=some (.slice x.aj.a x.aj.l.length x.aj.c)∧y0.cell? ⟨gc,2,none⟩=some (.slice x.aP.a x.aP.l.length x.aP.c)∧y0.cell? ⟨gc,3,none⟩=some (.slice x.links.a x.links.l.length x.links.c)∧y0.cell? ⟨gc,4,none⟩=some (.slice x.aF.a x.aF.l.length x.aF.c)∧y0.cell? ⟨gc,5,none⟩=some (.slice x.bQ.a x.bQ.l.length x.bQ.c)∧y0.cell? ⟨gc,6,none⟩=some (.slice x.causes.a x.causes.l.length x.causes.c)∧y0.cell? ⟨gc,7,none⟩=some (.slice x.aA.a x.aA.l.length x.aA.c):=⟨bS.cell 0,bS.cell 1,bS.cell 2,bS.cell 3,bS.cell 4,bS.cell 5,bS.cell 6,bS.cell 7⟩;clear bR bW bS oU hr hL hx hc hy hn hs K2 cD hds hva hvv hEd hs0 uW yu hvc;refine(callsIn_wide (n:=9)).1 ?_;refine callsIn_of_wp_marks Tryz.func13 rfl trivial ?_ rfl;simp only[Tryz.ntmps13,List.size_toArray,List.length_cons,List.length_nil,Nat.reduceAdd,Nat.reduceSub,Array.replicate_succ,Array.replicate_zero,List.push_toArray,List.append_toArray,List.nil_append,List.cons_append];refine wpIn_wide.2 ?_;rw[dV.out,Oc.out]at c0 c1 c2 c3 c4 c5 c6 c7;go_wp2_with fail;rw[←dV.out,←Oc.out];clear c0 c1 c2 c3 c4 c5 c6 c7;refine SK.out.mono ?_;rintro e W1 ⟨b,mb,nm,D,vf,F,rfl,hS⟩;have BQ:y0.heap.size≤W1.heap.size:=hS.sz;have hvW:∀W,Below W1.heap.size W1 W→W.cell? ⟨gc,4,none⟩=some (.slice (some ⟨bv,ov,none⟩) x.aF.l.length x.aF.c)∧W.cell? ⟨bv,ov+v*7+6,none⟩=some (y.dst.val):=fun W hW=>by
  have h1:=hS.lE.trans (hW.mono BQ);have h2:=aV.out.trans (h1.mono aV.out.size);refine⟨?_,(h2.cell (p:=⟨bv,ov+v*7+6,none⟩) hbv).trans Hvv.out.2.2.2.2.2.2.1⟩;rw[←Hva.out];exact(sA.out.below h1 (by have:=Hs0.out;omega)).cell 4
 have qR:Below W1.heap.size W1 (((W1.alloc (.cells #[.pointer (some ⟨b,0,none⟩)] 98)).alloc (.cells #[.int .i64 0,.int .i64 0,.int .i64 0,.int .i64 0,.int .i64 0,.int .i64 0,.int .i64 0,.int .i64 0,.int .i64 0,.int .i64 0,.int .i64 0,.int .i64 0] 105)).alloc (.cells #[.slice none 0 0] 49)):=((bN).alloc qz _).alloc qo _;obtain⟨c4,d4⟩:=hvW _ qR;obtain⟨⟨qv,bs,gP,-⟩,mz⟩:=hS.q;have YN:Below y0.heap.size y0 (((W1.alloc (.cells #[.pointer (some ⟨b,0,none⟩)] 98)).alloc (.cells #[.int .i64 0,.int .i64 0,.int .i64 0,.int .i64 0,.int .i64 0,.int .i64 0,.int .i64 0,.int .i64 0,.int .i64 0,.int .i64 0,.int .i64 0,.int .i64 0] 105)).alloc (.cells #[.slice none 0 0] 49)):=hS.lE.trans (qR.mono BQ);have hR0:Ad y0 (((W1.alloc (.cells #[.pointer (some ⟨b,0,none⟩)] 98)).alloc (.cells #[.int .i64 0,.int .i64 0,.int .i64 0,.int .i64 0,.int .i64 0,.int .i64 0,.int .i64 0,.int .i64 0,.int .i64 0,.int .i64 0,.int .i64 0,.int .i64 0] 105)).alloc (.cells #[.slice none 0 0] 49)) y0.heap.size gc W1.heap.size b (W1.heap.size+1) (W1.heap.size+1+1) mb qv bs src n s x (.slice none 0 0) [] (List.replicate 12 0) []:=by
  have hz2:((W1.alloc (.cells #[.pointer (some ⟨b,0,none⟩)] 98)).alloc (.cells #[.int .i64 0,.int .i64 0,.int .i64 0,.int .i64 0,.int .i64 0,.int .i64 0,.int .i64 0,.int .i64 0,.int .i64 0,.int .i64 0,.int .i64 0,.int .i64 0] 105)).heap.size=W1.heap.size+1+1:=by simp
  refine⟨gP.move (gP.blk.below qR gP.blk.lt),((ah.new W1 _ _).alloc _).alloc _,?_,?_,World.ownsRow_nil _ _ _ _,(sA.out.below YN (by have:=Hs0.out;omega)),YN,nT BQ qR.size,oz,oz,List.nodup_nil,fun D h=>absurd h qz⟩
  ·have:=(ah.new (W1.alloc (.cells #[.pointer (some ⟨b,0,none⟩)] 98)) 105 #[.int .i64 0,.int .i64 0,.int .i64 0,.int .i64 0,.int .i64 0,.int .i64 0,.int .i64 0,.int .i64 0,.int .i64 0,.int .i64 0,.int .i64 0,.int .i64 0]).alloc (.cells #[.slice none 0 0] 49)
   rw[World.size_alloc]at this;exact this
  ·have:=ah.new ((W1.alloc (.cells #[.pointer (some ⟨b,0,none⟩)] 98)).alloc (.cells #[.int .i64 0,.int .i64 0,.int .i64 0,.int .i64 0,.int .i64 0,.int .i64 0,.int .i64 0,.int .i64 0,.int .i64 0,.int .i64 0,.int .i64 0,.int .i64 0] 105)) 49 #[.slice none 0 0]
   rw[hz2]at this;exact this
 have pF:=lz hR0;have cU:Hid (Below w.heap.size w W1):=lz (aV.out.trans (hS.lE.mono aV.out.size));have Hbb:=lz (ai mz BQ);clear hS hR0 qR hvW gP YN mz BQ;clear SK;go_wp2_with fail;refine wp_loop (RtL y0 y0.heap.size gc W1.heap.size b (W1.heap.size+1) (W1.heap.size+1+1) mb qv bs src n s x y) (fun a _=>y.dst.l.length-(intOf (a.tmps.getD 32 undef)).toNat) ?h0 ?round
 case h0=>exact⟨0,[],_,_,[],nZ,⟨rfl,rfl,rfl,rfl,rfl,rfl,rfl,rfl,rfl⟩,rfl,pF.out,jV.start,qz,qz⟩
 case round=>
  clear pF;rintro a wr ⟨i,Ds,v,cnt,L,hi,hF,hL,hR,hM,aJ,hLn⟩;obtain⟨z,rfl⟩:=hF.lit;clear hF;have Mr:Below w.heap.size w wr:=aV.out.trans (hR.lE.mono aV.out.size);by_cases hlt:i<y.dst.l.length
  ·obtain⟨b2,o2,hA,dI,qc⟩:=(Hvv.out.2.2.2.2.2.2.2.dst.keep Mr) oz
   obtain⟨d0,d1,d2⟩:=qc i hlt;obtain⟨d,hd⟩:=ez (y.dst.l[i]);rw[←hd]at d0 d1 d2;obtain⟨W4,Ql⟩:=ez (wr.alloc (.cells #[.string d.m,.string d.p,.string d.o] 41));have Mj:Below wr.heap.size wr W4:=by rw[Ql];exact bN
   have hR4:=hR.below Mj;have hx4:x.rd W4 W4.heap.size:=Hr.out.below (Mr.trans (Mj.mono Mr.size));obtain⟨c0,c1,c2,c3,c4,c5,c6,c7⟩:W4.cell? ⟨gc,0,none⟩=some (.slice x.mods.a x.mods.l.length x.mods.c)∧W4.cell? ⟨gc,1,none⟩=some (.slice x.aj.a x.aj.l.length x.aj.c)∧W4.cell? ⟨gc,2,none⟩=some (.slice x.aP.a x.aP.l.length x.aP.c)∧W4.cell? ⟨gc,3,none⟩=some (.slice x.links.a x.links.l.length x.links.c)∧W4.cell? ⟨gc,4,none⟩=some (.slice x.aF.a x.aF.l.length x.aF.c)∧W4.cell? ⟨gc,5,none⟩=some (.slice x.bQ.a x.bQ.l.length x.bQ.c)∧W4.cell? ⟨gc,6,none⟩=some (.slice x.causes.a x.causes.l.length x.causes.c)∧W4.cell? ⟨gc,7,none⟩=some (.slice x.aA.a x.aA.l.length x.aA.c):=⟨hR4.cfg.cell 0,hR4.cfg.cell 1,hR4.cfg.cell 2,hR4.cfg.cell 3,hR4.cfg.cell 4,hR4.cfg.cell 5,hR4.cfg.cell 6,hR4.cfg.cell 7⟩;rw[Ql]at c0 c1 c2 c3 c4 c5 c6 c7;rw[hA];have Qp:=lz Ql;have Hd:=lz hd;have HL:=lz hL;have HR4:=lz hR4;have HM:=lz hM;have Co:=lz aJ;have HA:=lz hA;have Hx4:=lz hx4;have HBw:=lz (Mr.trans (Mj.mono Mr.size));clear Mr qc hd Ql Mj hR4 hx4 hL hR hM aJ hA;go_wp2_with fail;rw[←Qp.out];clear c0 c1 c2 c3 c4 c5 c6 c7 d0 d1 d2;refine(vI x d.m W4 Hx4.out oz oz).mono ?_;rintro e w5 ⟨rfl,jU⟩;have hdm:d∈y.dst.l:=by rw[Hd.out];exact List.getElem_mem hlt
   obtain⟨m,hm⟩:∃m:Nat,bg x d.m=(m:Int):=⟨(bg x d.m).toNat,by have:=Hch.out d hdm;omega⟩;have hdi:(bV x y)[i]?=some m:=by
    rw[aK4.out,List.getElem?_map,List.getElem?_eq_getElem hlt,←Hd.out];simp[hm]
   have hmd:m∈bV x y:=List.mem_of_getElem? hdi;obtain⟨hm1,Vq⟩:=Vz.out m hmd;have aCU:m<12:=by have:=Hn.out;omega
   rw[hm];have hR5:=HR4.out.below jU;have aCZ:=lz (HBw.out.trans (jU.mono HBw.out.size));have k8:w5.cell? ⟨W1.heap.size,0,none⟩=some (.pointer (some ⟨b,0,none⟩)):=hR5.sbk.cell 0;have k9:w5.cell? ⟨b,3+m,none⟩=some (.int .i64 (s.at m)):=hR5.box.kd m aCU;have QW:=lz hR5;have Hm:=lz (ai hm (ai hdi (ai hmd (ai hm1 Vq))));have hmi:(m:Int)<12:=by omega
   have aXI:(0:Int)≤(m:Int):=by omega
   clear jU hR5 HR4 HBw hm hdi hmd hm1 Vq hdm;by_cases rG:s.at m<0
   ·have hns:=lz rG
    generalize hq:s.at m=q at *;go_wp2_with fail;refine bP Ds w5 y0.heap.size QW.out.nod QW.out.YK fun W' j5=> ?_
    refine⟨.tuple #[.slice none 0 0,.int .i64 6],by simp[results,Tryz.f13,go_sem],⟨fun h=> ?_,fun _=>rfl⟩,aCZ.out.trans (j5.below.mono aV.out.size)⟩;have:=h m Hm.out.2.2.1;rw[hq]at this;omega
   ·have JQ:0≤s.at m:=by omega
    have Hge:=lz JQ;generalize hq:s.at m=q at *;have lS:=lz hq;go_wp2_with fail;clear k8 k9;refine(aGJ b (m:Int) w5).mono ?_;rintro e w6 ⟨rfl,rz,aK6,aCa⟩;have hR6:=QW.out.below rz;have aXK:=lz (aCZ.out.trans (rz.mono aCZ.out.size));have aXL:=QW.out.sz;have aXM:w5.heap.size+2≤w6.heap.size:=aCa.lt;have hsk:=QW.out.sbk.lt;have hmk:=QW.out.Mq.lt;have Cc:=QW.out.VE.lt;have DH:=QW.out.box.blk.lt;have VY:∀D∈Ds,D<w6.heap.size:=fun D hD=>(gE (hR6.YK D hD).2).1
    have aCT:=YJ dU.out.inv qv mb (w5.heap.size+1) w5.heap.size b (W1.heap.size+1) (W1.heap.size+1+1) (9-1) m oz (by rw[hq];omega) aCU HEd.out bs w6 oz oz aCa aK6 hR6.box oz oz oz oz (hR6.box.blk.Fu hR6.Mq dz) (hR6.box.blk.Fu hR6.VE dz);have ht1:(bV x y).take (i+1)=(bV x y).take i++ [m]:=by rw[List.take_add_one,Hm.out.2.1];rfl
    have HN:Hid (∀Q,dM (L.map (·.t)) (s.chain src m)=Q→L++Q=jj s src ((bV x y).take (i+1)) []):=lz fun Q hQ=>by rw[ht1,EA,←HL.out,hQ]
    have HA1:Hid (∀k∈(bV x y).take (i+1),0≤s.at k):=lz fun k hk=>by
     rw[ht1,List.mem_append]at hk;rcases hk with hk | hk
     ·exact Co.out k hk
     ·rw[List.mem_singleton.1 hk,hq];exact Hge.out
    have cC:=Jy dU.out.inv m;have um:=lz aCT;have Om:=lz hR6;have Hlo:=lz VY;have aPf:=lz aCa;have Hb6:=lz rz;clear ht1 aCT hR6 VY aCa aK6 rz QW aCZ;go_wp2_with fail;refine(wpIn_wide (n:=9)).1 ?_;refine uo (F:=Fence.wide) rfl oz (gf:=108) (nb:=w5.heap.size+1) (lb:= #[.pointer (some ⟨w5.heap.size+1,0,none⟩),.pointer (some ⟨w5.heap.size,0,none⟩)]) rfl trivial (enters_of Tryz.func108 kz rfl)
     um.out oz Gv.trans (fun W l o o' _ hl ho _=>Gv.put W l o o' hl ho) (Below.refl _ _) (fun _=>rfl)
     (RoI y0 y0.heap.size gc W1.heap.size b (W1.heap.size+1) (W1.heap.size+1+1) mb qv bs src n s x L Ds (13*i) (w5.heap.size+1))
     (RoX y0 y0.heap.size gc W1.heap.size b (W1.heap.size+1) (W1.heap.size+1+1) mb qv bs src n s x L Ds (13*i))
     (RoI.own oz Hlo.out) (RoI.YL oz) (RoX.own oz Hlo.out) ⟨v,cnt,by simpa using Om.out,by simpa using HM.out,rfl,_,aPf.out⟩
     (fun e a' W=>∃Bx,ah W Bx 107 #[.int .i64 e.1.f,.int .i64 e.1.t,.int .i64 e.1.l]∧FBt (W1.heap.size+1) (W1.heap.size+1+1) Bx a')
     (fun e a' s X Y row hs hg hr=>by obtain⟨Bx,h2,h3⟩:=hs;exact⟨Bx,YM s X Y row h2 hg hr,h3⟩) ?assign ?body ?done ?stop
    case assign=>
     rintro l pre e W K ⟨v9,rL,hI,Oo,hT9,u9,yZ⟩ hK;dsimp only;gi_wp2;exact hK _ _ ((KeepsOthers.alloc _ _).from _) (Gv.below (bN)) ⟨v9,rL,hI.below (bN),Oo,hT9,u9,yZ.alloc _⟩ ⟨W.heap.size,by simpa using ah.new W 107 _,⟨rfl,rfl,rfl,rfl,rfl⟩⟩
    case body=>
     rintro l pre ⟨e,he⟩ a' W hl' ⟨r,hr⟩ ⟨v9,rL,hI,Oo,hT9,u9,yZ⟩ ⟨Bx,gP,hF⟩ sF;obtain⟨zz,rfl⟩:=hF.lit;dsimp only at gP;obtain⟨P,hP⟩:=ez (L++pre.map (·.1));have hPl:P.length=L.length+pre.length:=by rw[hP];simp
     rw[←hP]at hI Oo;have HPl:=lz hPl;have HP:=lz hP;clear hPl hP;clear hF;have bW:pre.length≤12:=nT (Nat.le_of_lt sF) (Jy dU.out.inv m);have e0:W.cell? ⟨Bx,0,none⟩=some (.int .i64 e.f):=gP.cell 0;have e1:W.cell? ⟨Bx,1,none⟩=some (.int .i64 e.t):=gP.cell 1;have e2:W.cell? ⟨Bx,2,none⟩=some (.int .i64 e.l):=gP.cell 2;obtain⟨hmc,hmf⟩:=hI.kmk Oo.len e.t he;have hc0:=Oo.lo e.t;have hc1:=Oo.hi e.t;have FC:=Oo.met e.t he;have hRm:=hI.mark e.t (rL.getD e.t 0+1);have hMm:=Oo.mark he;have uU:ah (W.setCell ⟨W1.heap.size+1,e.t,none⟩ (.int .i64 (rL.getD e.t 0+1))) (w5.heap.size+1) 3 #[u9]:=yZ.far (yZ.Fu hI.Mq dz) _;have CY:ah (W.setCell ⟨W1.heap.size+1,e.t,none⟩ (.int .i64 (rL.getD e.t 0+1))) Bx 107 #[.int .i64 e.f,.int .i64 e.t,.int .i64 e.l]:=gP.far (gP.Fu hI.Mq dz) _;have Hme:=lz FC;have HMm:=lz hMm;have HRm:=lz hRm;have KM:=lz uU;have Hbm:=lz CY;have HT9:=lz hT9;have hei:(e.t:Int)<12:=by omega
     have aXN:(0:Int)≤(e.t:Int):=by omega
     have hmx:W1.heap.size+1≠Bx:=hI.Mq.Fu gP dz;have HKm:=lz (Gv.set (mk:=W1.heap.size+1) (ob:=W1.heap.size+1+1) W (W1.heap.size+1) e.t (.int .i64 (rL.getD e.t 0+1)) (.inl rfl));have f0:(W.setCell ⟨W1.heap.size+1,e.t,none⟩ (.int .i64 (rL.getD e.t 0+1))).cell? ⟨Bx,0,none⟩=some (.int .i64 e.f):=CY.cell 0;have f1:(W.setCell ⟨W1.heap.size+1,e.t,none⟩ (.int .i64 (rL.getD e.t 0+1))).cell? ⟨Bx,1,none⟩=some (.int .i64 e.t):=CY.cell 1;have f2:(W.setCell ⟨W1.heap.size+1,e.t,none⟩ (.int .i64 (rL.getD e.t 0+1))).cell? ⟨Bx,2,none⟩=some (.int .i64 e.l):=CY.cell 2;have f3:(W.setCell ⟨W1.heap.size+1,e.t,none⟩ (.int .i64 (rL.getD e.t 0+1))).cell? ⟨W1.heap.size+1+1,0,none⟩=some v9:=hRm.VE.cell 0;have f4:(W.setCell ⟨W1.heap.size+1,e.t,none⟩ (.int .i64 (rL.getD e.t 0+1))).cell? ⟨W1.heap.size+1,e.t,none⟩=some (.int .i64 (rL.getD e.t 0+1)):=by
      have:=(hRm.kmk (by simpa using Oo.len) e.t he).1;rw[gQ _ _ _ _ _ (by rw[Oo.len];exact he),if_pos rfl]at this;exact this
     clear Oo hI yZ gP FC hRm hMm uU CY hT9 hr um;generalize hcq:rL.getD e.t 0=cq at *;by_cases K9:0<cq
     ·have og:decide (cq+1>1)=true:=dT oz
      gi_wp2;have sy:=Hme.out.1 K9;have hX:RoX y0 y0.heap.size gc W1.heap.size b (W1.heap.size+1) (W1.heap.size+1+1) mb qv bs src n s x L Ds (13*i) (.exit 2) (pre++ [⟨e,he⟩]) (W.setCell ⟨W1.heap.size+1,e.t,none⟩ (.int .i64 (cq+1))):=by
       refine⟨rfl,v9,rL.set e.t (cq+1),pre,⟨e,he⟩,rfl,HT9.out,?_,by rw[←HP.out];exact HRm.out,by rw[←HP.out];exact(HMm.out.same fun t=>⟨fun h=>by rcases List.mem_cons.1 h with rfl | h;exact sy;exact h,List.mem_cons_of_mem _⟩).le qo⟩
       ·rw[HP.out,List.map_append,List.mem_append]at sy
        exact sy
      exact⟨(KeepsOthers.setCell _ _ _).from _,hX⟩
     ·have og:decide (cq+1>1)=false:=dF oz
      obtain⟨i0,lX,hz0,hz1,hz2⟩:=info_parts SX;have hLl:P.length≤1000:=by have:=HPl.out;omega
      gi_wp2_with (gi_at_builtin;refine wpListIn_append_own _ rfl _ _ 49 rfl y0.heap.size 53 i0 (.agg #[.int .i64 0,.int .i64 0,.int .i64 0]) 3 24 Tryz.underlying49 lX hz0 hz1 hz2 rfl dz _ _ _ rfl (HRm.out.row.alloc _) ⟨W.heap.size,0,none⟩ 1 1 [.int .i64 e.f,.int .i64 e.t,.int .i64 e.l] rfl rfl ?c1 ?c2 ?c3 ?c4 ?c5 ?_)
      case c2=>exact⟨rfl,rfl,rfl⟩
      case c3=>unfold maxLen;omega
      case c4=>omega
      case c5=>have:=HRm.out.sz;simp at this ⊢;omega
      intro v5 wo dQ mE _;obtain⟨g5,cp5,rfl,_⟩:=dQ.form oz;obtain⟨hR9,hK9,hP9,aGQ⟩:=HRm.out.hop dQ mE;have f9:=aGQ.frozen 0;have c9:wo.cell? ⟨W1.heap.size+1+1,0,none⟩=some v9:=aGQ.cell 0;have yZ:ah (wo.setCell ⟨W1.heap.size+1+1,0,none⟩ (.slice (some ⟨g5,0,none⟩) (P.length+1) cp5)) (w5.heap.size+1) 3 #[u9]:=hP9.blk _ _ _ KM.out dz oz oz;have sy:¬(e.t∈L.map (·.t)∨e.t∈(pre.map (·.1)).map (·.t)):=fun h=>by have:=Hme.out.2 (by rw[HP.out,List.map_append,List.mem_append];exact h);omega
      have hI9:RoI y0 y0.heap.size gc W1.heap.size b (W1.heap.size+1) (W1.heap.size+1+1) mb qv bs src n s x L Ds (13*i) (w5.heap.size+1) (pre++ [⟨e,he⟩]) (wo.setCell ⟨W1.heap.size+1+1,0,none⟩ (.slice (some ⟨g5,0,none⟩) (P.length+1) cp5)):=by
       have hPe:P++ [e]=L++(pre++ [(⟨e,he⟩:jx)]).map (·.1):=by rw[HP.out];simp
       refine⟨_,rL.set e.t (cq+1),hPe▸hR9,hPe▸(HMm.out.same fun t=> ?_).le qo,?_,u9,yZ⟩
       ·rw[List.map_append]
        exact K8 HT9.out sy
       ·rw[List.map_append]
        simp[or_comm]
      have HI9:=lz (ai (((KeepsOthers.setCell _ _ _).trans hK9).from w6.heap.size) (ai (HKm.out.trans hP9) hI9));clear hR9 hK9 hP9 aGQ yZ hI9 dQ mE sy;gi_wp2_with fail;exact HI9.out
    case done=>
     rintro D ys W hD hys ⟨v9,rL,hI,Oo,hT9,u9,yZ⟩ hK;have hys:ys.map (·.1)=s.chain src m:=hys;have yu:ys.length≤12:=by rw[←hys,List.length_map]at cC;exact cC
     have HD:=lz (ai (hI.aEC oz (fun E hE=>Nat.lt_of_lt_of_le (Hlo.out E hE) hD) hK) (ai (Oo.le (show 13*i+ys.length≤13*(i+1)by omega)) (HN.out (ys.map (·.1)) (by rw[←hys];exact hT9))));have hLl:(L++ys.map (·.1)).length≤13*(i+1):=by simp;omega
     clear hI Oo hT9 yZ hK hys um;go_wp2_with fail;exact⟨⟨i+1,D :: Ds,v9,rL,_,oz,⟨rfl,rfl,rfl,rfl,rfl,by rw[HA.out];rfl,rfl,qz,rfl⟩,HD.out.2.2,HD.out.1,HD.out.2.1,HA1.out,hLl⟩,by simp[intOf];omega⟩
    case stop=>
     rintro D c pre W hD hpf ⟨rfl,v9,rL,yG,e,rfl,hT9,K9,hI,Oo⟩ hK;have hpf:(yG++ [e]).map (·.1) <+: s.chain src m:=hpf;have yu:yG.length+1≤12:=by have:=hpf.length_le;simp at this;omega
     have I8:=Gw (e:=e.1) hT9 (by simpa using hpf) K9;have HD:=lz (ai (hI.aEC oz (fun E hE=>Nat.lt_of_lt_of_le (Hlo.out E hE) hD) hK) (ai (Oo.le (show 13*i+(yG++ [e]).length≤13*(i+1)by simp;omega)) (HN.out (yG.map (·.1)) I8)));have hLl:(L++yG.map (·.1)).length≤13*(i+1):=by simp;omega
     clear hI Oo hT9 hK hpf I8 K9 um;gi_wp2_with fail;go_wp2_with fail;exact⟨⟨i+1,D :: Ds,v9,rL,_,oz,⟨rfl,rfl,rfl,rfl,rfl,by rw[HA.out];rfl,rfl,qz,rfl⟩,HD.out.2.2,HD.out.1,HD.out.2.1,HA1.out,hLl⟩,by simp[intOf];omega⟩
  ·have hie:i=y.dst.l.length:=by omega
   have I6:(bV x y).length=y.dst.l.length:=by rw[aK4.out];simp
   rw[hie,List.take_of_length_le oz]at aJ hL;have Fw:=CR dU.out.inv (bV x y) aJ;rw[←hL]at Fw;obtain⟨h1,-,-⟩:=qg.of dU.out.inv Fw aJ;have h12:∀e∈L,e.t<12:=fun e he=>(HEd.out e (by rw[(h1 e he).2];exact(aQ.kR dU.out.inv (h1 e he).1).1)).2
   have hL0:0<L.length:=by
    obtain⟨m0,yc⟩:∃m0,m0∈bV x y:=⟨_,List.getElem_mem (show 0<(bV x y).length by omega)⟩;have hp0:0<s.at m0:=by
     have ha:=aJ m0 yc;have hb:s.at m0≠0:=fun h=>(Vz.out m0 yc).2 ((dU.out.inv.zero m0).1 h)
     omega
    exact List.length_pos_of_mem ((Fw.mem _).2 ⟨m0,yc,by rw[iT dU.out.inv hp0];exact List.mem_cons_self ..⟩)
   obtain⟨l,hl⟩:=aGN h12;have XK:l.length=L.length:=by rw[←hl];simp
   obtain⟨g,cap,hv,Ec,wu⟩:=hR.row.form hL0;obtain⟨_,c',hv',aGR,Us⟩:=bp hR.row;have Mh:c'=cap:=by rw[hv]at hv';injection hv' with _ _ h;exact h.symm
   rw[Mh]at aGR Us;have hown:wr.ownsRow y0.heap.size 53 3 (.slice (some ⟨g,0,none⟩) l.length cap) l.length (l.flatMap mq):=by
    have:=hR.row;rw[hv,←XK]at this;have e:L.flatMap aI.cells=l.flatMap mq:=by rw[←hl,List.flatMap_map];rfl
    rw[e]at this;exact this
   have k11:wr.cell? ⟨W1.heap.size+1+1,0,none⟩=some (.slice (some ⟨g,0,none⟩) l.length cap):=by
    rw[XK,←hv];exact hR.VE.cell 0
   have Hok:=lz Fw;have Hl:=lz hl;have HL:=lz hL;have HR:=lz hR;have Hv:=lz (ai hv (ai Ec (ai aGR (ai Us (ai XK (ai hLn hie))))));have Co:=lz aJ;have kZ:=lz hown;have HBw:=lz Mr;have YO:((i:Int)<(y.dst.l.length:Int))=False:=eq_false oz;clear aJ hL Fw h1 h12 hL0 hl XK hv Ec wu hv' aGR Us Mh hown hR hM Mr hLn hie I6;go_wp2_with fail;clear k11;refine(QU s.d (fun j=>⟨dU.out.inv.low j,aQ.tX dU.out.inv oz j⟩) W1.heap.size b y0.heap.size g cap l wr kZ.out (by have:=Hv.out;omega) (HR.out.sbk.cell 0) (fun j hj=>HR.out.box.kd j hj)
    (fun e=>aW kZ.out HR.out.sbk dz (by rw[e];rfl)) (fun e=>aW kZ.out HR.out.box.blk dz (by rw[e];rfl))).mono ?_
   rintro e w9 ⟨rfl,l',hp,hpw,mT,hG9⟩;have aPi:W1.heap.size+1+1≠g:=fun e=>aW kZ.out HR.out.VE dz (by rw[e];rfl)
   have k12:w9.cell? ⟨W1.heap.size+1+1,0,none⟩=some (.slice (some ⟨g,0,none⟩) l.length cap):=by
    rw[Hv.out.2.2.2.2.1,←Hv.out.1];exact(HR.out.VE.grown hG9 (fun e=>aPi (by injection e))).cell 0
   have aCe:∀D∈Ds,y0.heap.size≤D∧w9.heap[D]?=some (.deferred (some [])):=fun D hD=>by
    have hd:=HR.out.YK D hD;refine⟨hd.1,(hG9.block D (gE hd.2).1 (fun e=> ?_)).trans hd.2⟩;exact iQ kZ.out hd.2 rfl e.symm
   have Jh:Below y0.heap.size y0 w9:=j8 HR.out.lE HR.out.sz (Gr.eO hG9 (X:=(· =g)) (fun k e=>by injection e with e;exact e.symm)) (fun k e=>by rw[e];exact Hv.out.2.1);have HP:=lz (ai hp (ai hpw (ai mT (ai aCe Jh))));clear hp hpw mT hG9 aCe Jh;go_wp2_with fail;obtain⟨hp,hpw,mT,aCe,Jh⟩:=HP.out;refine bP Ds w9 y0.heap.size HR.out.nod aCe fun W' j5=> ?_
   have hlen:(l'.map (·.1)).length=l.length:=by rw[List.length_map];exact hp.length_eq
   have hpm:(l'.map (·.1)).Perm L:=by rw[←Hl.out];exact hp.map _
   refine⟨.tuple #[.slice (some ⟨g,0,none⟩) l.length cap,.int .i64 0],by simp[results,Tryz.f13,go_sem],⟨fun _=>⟨some ⟨g,0,none⟩,cap,l'.map (·.1),by rw[hlen],by rw[←HL.out];exact hpm,Gx hpw ?_,?_,Hv.out.2.2.2.1,?_⟩,fun⟨m,hm,hn⟩=> ?_⟩,aV.out.trans ((Jh.trans j5.below).mono aV.out.size)⟩
   ·exact((hpm.map (·.t)).nodup_iff).2 Hok.out.nodup
   ·rw[hlen,Hv.out.2.2.2.2.1];exact Hv.out.2.2.1
   ·have e:(l'.map (·.1)).flatMap aI.cells=l'.flatMap mq:=by rw[List.flatMap_map];rfl
    rw[hlen,e];exact nV (U1 mT j5) aV.out.size
   ·have:=Co.out m hm
    omega
end
section
open Go.ChangeShapes Go.WideShapes Go.ChangeAt Go.RowKit
attribute [local go_sem] Oper.semAt_some
theorem gV{W:World}{base cp:Nat}{A:Option Addr}{l:List aI}(h:W.ownsRow base 53 3 (.slice A l.length cp) l.length (l.flatMap aI.cells)):iq W W.heap.size A l:=fun hn=>by
 obtain⟨b,cap,hv,_,hlt⟩:=h.form hn;have hA:A=some ⟨b,0,none⟩:=by injection hv
 subst hA;refine⟨b,0,rfl,hlt,fun i hi=> ?_⟩;have c0:=h.cells (g:=b) rfl _ _ (aS aI.cells 3 (fun _=>rfl) l i 0 hi oz);have c1:=h.cells (g:=b) rfl _ _ (aS aI.cells 3 (fun _=>rfl) l i 1 hi oz);have c2:=h.cells (g:=b) rfl _ _ (aS aI.cells 3 (fun _=>rfl) l i 2 hi oz);rw[eY]at c0 c1 c2;simpa using ai c0 (ai c1 c2)
theorem nu{W:World}{base cp:Nat}{A:Option Addr}{l:List Int}(h:W.ownsRow base 3 1 (.slice A l.length cp) l.length (l.map (Value.int .i64))):fV W W.heap.size A l:=fun hn=>by
 obtain⟨b,cap,hv,_,hlt⟩:=h.form hn;have hA:A=some ⟨b,0,none⟩:=by injection hv
 subst hA;refine⟨b,0,rfl,hlt,fun i hi=> ?_⟩;have c0:=h.cells (g:=b) rfl i (.int .i64 l[i]) (by simp[hi]);rw[eY]at c0;simpa using c0
theorem QX(w:World)(t:TypeId)(l:List aI):iq (w.alloc (.cells (l.flatMap aI.cells).toArray t)) (w.alloc (.cells (l.flatMap aI.cells).toArray t)).heap.size (some ⟨w.heap.size,0,none⟩) l:=fun hn=>by
 refine⟨w.heap.size,0,rfl,qz,fun i hi=> ?_⟩;have key:∀j u,(l.flatMap aI.cells)[j]?=some u→(w.alloc (.cells (l.flatMap aI.cells).toArray t)).cell? ⟨w.heap.size,j,none⟩=some u:=fun j u hu=>by
  rw[(ah.new w t (l.flatMap aI.cells).toArray).cell j];simpa using hu
 have c0:=key _ _ (aS aI.cells 3 (fun _=>rfl) l i 0 hi oz);have c1:=key _ _ (aS aI.cells 3 (fun _=>rfl) l i 1 hi oz);have c2:=key _ _ (aS aI.cells 3 (fun _=>rfl) l i 2 hi oz);simpa using ai c0 (ai c1 c2)
theorem QY(w:World)(t:TypeId)(l:List Int):fV (w.alloc (.cells (l.map (Value.int .i64)).toArray t)) (w.alloc (.cells (l.map (Value.int .i64)).toArray t)).heap.size (some ⟨w.heap.size,0,none⟩) l:=fun hn=>by
 refine⟨w.heap.size,0,rfl,qz,fun i hi=> ?_⟩;rw[(ah.new w t (l.map (Value.int .i64)).toArray).cell];simp[hi]
theorem EB(a:List aI)(A1:Option Addr)(n c1 c2:Nat)(w:World)(ha:iq w w.heap.size A1 a)(hn:a.length=n)(hl:a.length≤100000):
 CU 14 #[.slice A1 n c1,.slice (some ⟨w.heap.size,0,none⟩) n c2] (w.alloc (.cells (a.flatMap aI.cells).toArray 53)) (.bool true):=by
 have:=Ev a a A1 (some ⟨w.heap.size,0,none⟩) c1 c2 (w.alloc (.cells (a.flatMap aI.cells).toArray 53)) (ha.below (bN)) (QX w _ a) hl;rw[tI rfl,hn]at this;exact this
theorem EC(a:List Int)(A1:Option Addr)(n c1 c2:Nat)(w:World)(ha:fV w w.heap.size A1 a)(hn:a.length=n)(hl:a.length≤100000):
 CU 18 #[.slice A1 n c1,.slice (some ⟨w.heap.size,0,none⟩) n c2] (w.alloc (.cells (a.map (Value.int .i64)).toArray 3)) (.bool true):=by
 have:=Et a a A1 (some ⟨w.heap.size,0,none⟩) c1 c2 (w.alloc (.cells (a.map (Value.int .i64)).toArray 3)) (ha.below (bN)) (QY w _ a) hl;rw[tI rfl,hn]at this;exact this
theorem YP(s:ByteArray)(ts:List Tok)(F:Nat)(I:List gF)(w:World)(hs:s.size≤1000)(h:jG s F 0 []=some ts)(hl:ts.length≤100000)(hI:qA ts 0 I=true)(hn:I.length≤900):
 Calls pG 20 #[.string s] w fun e w'=>∃(x:ay) (base:Nat),e= .returned x.val∧w.heap.size<base∧jP w' base x I∧Below w.heap.size w w':=by
 have hp:=fun W=>aAv s ts F I W hs h hl hI hn
 have Hp:=lz hp;clear hp hs h hl hI hn;go_enter Tryz.func20,Tryz.ntmps20;go_wp2_with fail;refine(Hp.out _).mono ?_;rintro e w1 ⟨x,base,rfl,IG,ho,hb⟩;have hz:=ah.new w 31 #[.slice none 0 0,.slice none 0 0,.slice none 0 0,.slice none 0 0,.slice none 0 0,.slice none 0 0,.slice none 0 0,.slice none 0 0];have hz1:=hz.below hb hz.lt;have wV:Below w.heap.size w w1:=(bN).trans (hb.mono qz);have aK9:w.heap.size<base:=by simp at IG;omega
 have HR:=lz (ai aK9 (ai ho wV));obtain⟨⟨Am,cm,lm⟩,⟨Ac,cc,lc⟩,⟨As,cs,ls⟩,⟨Ak,ck,lk⟩,⟨Av,cv,lv⟩,⟨Ah,ch,lh⟩,⟨Aq,cq,lq⟩,⟨Ae,ce,le⟩⟩:=x;have hz2:=hz1.alloc (.cells #[.slice Am lm.length cm,.slice Ac lc.length cc,.slice As ls.length cs,.slice Ak lk.length ck,.slice Av lv.length cv,.slice Ah lh.length ch,.slice Aq lq.length cq,.slice Ae le.length ce] 31);have Hz2:=lz hz2;obtain⟨k0,f0,k1,f1,k2,f2,k3,f3,k4,f4,k5,f5,k6,f6,k7,f7⟩:(w1.alloc (.cells #[.slice Am lm.length cm,.slice Ac lc.length cc,.slice As ls.length cs,.slice Ak lk.length ck,.slice Av lv.length cv,.slice Ah lh.length ch,.slice Aq lq.length cq,.slice Ae le.length ce] 31)).cell? ⟨w.heap.size,0,none⟩=some (.slice none 0 0)∧(w1.alloc (.cells #[.slice Am lm.length cm,.slice Ac lc.length cc,.slice As ls.length cs,.slice Ak lk.length ck,.slice Av lv.length cv,.slice Ah lh.length ch,.slice Aq lq.length cq,.slice Ae le.length ce] 31)).frozen? ⟨w.heap.size,0,none⟩=false∧(w1.alloc (.cells #[.slice Am lm.length cm,.slice Ac lc.length cc,.slice As ls.length cs,.slice Ak lk.length ck,.slice Av lv.length cv,.slice Ah lh.length ch,.slice Aq lq.length cq,.slice Ae le.length ce] 31)).cell? ⟨w.heap.size,1,none⟩=some (.slice none 0 0)∧(w1.alloc (.cells #[.slice Am lm.length cm,.slice Ac lc.length cc,.slice As ls.length cs,.slice Ak lk.length ck,.slice Av lv.length cv,.slice Ah lh.length ch,.slice Aq lq.length cq,.slice Ae le.length ce] 31)).frozen? ⟨w.heap.size,1,none⟩=false∧(w1.alloc (.cells #[.slice Am lm.length cm,.slice Ac lc.length cc,.slice As ls.length cs,.slice Ak lk.length ck,.slice Av lv.length cv,.slice Ah lh.length ch,.slice Aq lq.length cq,.slice Ae le.length ce] 31)).cell? ⟨w.heap.size,2,none⟩=some (.slice none 0 0)∧(w1.alloc (.cells #[.slice Am lm.length cm,.slice Ac lc.length cc,.slice As ls.length cs,.slice Ak lk.length ck,.slice Av lv.length cv,.slice Ah lh.length ch,.slice Aq lq.length cq,.slice Ae le.length ce] 31)).frozen? ⟨w.heap.size,2,none⟩=false∧(w1.alloc (.cells #[.slice Am lm.length cm,.slice Ac lc.length cc,.slice As ls.length cs,.slice Ak lk.length ck,.slice Av lv.length cv,.slice Ah lh.length ch,.slice Aq lq.length cq,.slice Ae le.length ce] 31)).cell? ⟨w.heap.size,3,none⟩=some (.slice none 0 0)∧(w1.alloc (.cells #[.slice Am lm.length cm,.slice Ac lc.length cc,.slice As ls.length cs,.slice Ak lk.length ck,.slice Av lv.length cv,.slice Ah lh.length ch,.slice Aq lq.length cq,.slice Ae le.length ce] 31)).frozen? ⟨w.heap.size,3,none⟩=false∧(w1.alloc (.cells #[.slice Am lm.length cm,.slice Ac lc.length cc,.slice As ls.length cs,.slice Ak lk.length ck,.slice Av lv.length cv,.slice Ah lh.length ch,.slice Aq lq.length cq,.slice Ae le.length ce] 31)).cell? ⟨w.heap.size,4,none⟩=some (.slice none 0 0)∧(w1.alloc (.cells #[.slice Am lm.length cm,.slice Ac lc.length cc,.slice As ls.length cs,.slice Ak lk.length ck,.slice Av lv.length cv,.slice Ah lh.length ch,.slice Aq lq.length cq,.slice Ae le.length ce] 31)).frozen? ⟨w.heap.size,4,none⟩=false∧(w1.alloc (.cells #[.slice Am lm.length cm,.slice Ac lc.length cc,.slice As ls.length cs,.slice Ak lk.length ck,.slice Av lv.length cv,.slice Ah lh.length ch,.slice Aq lq.length cq,.slice Ae le.length ce] 31)).cell? ⟨w.heap.size,5,none⟩=some (.slice none 0 0)∧(w1.alloc (.cells #[.slice Am lm.length cm,.slice Ac lc.length cc,.slice As ls.length cs,.slice Ak lk.length ck,.slice Av lv.length cv,.slice Ah lh.length ch,.slice Aq lq.length cq,.slice Ae le.length ce] 31)).frozen? ⟨w.heap.size,5,none⟩=false∧(w1.alloc (.cells #[.slice Am lm.length cm,.slice Ac lc.length cc,.slice As ls.length cs,.slice Ak lk.length ck,.slice Av lv.length cv,.slice Ah lh.length ch,.slice Aq lq.length cq,.slice Ae le.length ce] 31)).cell? ⟨w.heap.size,6,none⟩=some (.slice none 0 0)∧(w1.alloc (.cells #[.slice Am lm.length cm,.slice Ac lc.length cc,.slice As ls.length cs,.slice Ak lk.length ck,.slice Av lv.length cv,.slice Ah lh.length ch,.slice Aq lq.length cq,.slice Ae le.length ce] 31)).frozen? ⟨w.heap.size,6,none⟩=false∧(w1.alloc (.cells #[.slice Am lm.length cm,.slice Ac lc.length cc,.slice As ls.length cs,.slice Ak lk.length ck,.slice Av lv.length cv,.slice Ah lh.length ch,.slice Aq lq.length cq,.slice Ae le.length ce] 31)).cell? ⟨w.heap.size,7,none⟩=some (.slice none 0 0)∧(w1.alloc (.cells #[.slice Am lm.length cm,.slice Ac lc.length cc,.slice As ls.length cs,.slice Ak lk.length ck,.slice Av lv.length cv,.slice Ah lh.length ch,.slice Aq lq.length cq,.slice Ae le.length ce] 31)).frozen? ⟨w.heap.size,7,none⟩=false:=⟨hz2.cell 0,hz2.frozen 0,hz2.cell 1,hz2.frozen 1,hz2.cell 2,hz2.frozen 2,hz2.cell 3,hz2.frozen 3,hz2.cell 4,hz2.frozen 4,hz2.cell 5,hz2.frozen 5,hz2.cell 6,hz2.frozen 6,hz2.cell 7,hz2.frozen 7⟩;clear ho hb hz hz1 wV hz2 IG aK9;simp only[ay.val,Sl.val];go_wp2_with fail;have hz9:=((((((((Hz2.out.bX 0 (.slice Am lm.length cm)).bX 1 (.slice Ac lc.length cc)).bX 2 (.slice As ls.length cs)).bX 3 (.slice Ak lk.length ck)).bX 4 (.slice Av lv.length cv)).bX 5 (.slice Ah lh.length ch)).bX 6 (.slice Aq lq.length cq)).bX 7 (.slice Ae le.length ce));have Oq:ah (((((((((w1.alloc (.cells #[.slice Am lm.length cm,.slice Ac lc.length cc,.slice As ls.length cs,.slice Ak lk.length ck,.slice Av lv.length cv,.slice Ah lh.length ch,.slice Aq lq.length cq,.slice Ae le.length ce] 31)).setCell ⟨w.heap.size,0,none⟩ (.slice Am lm.length cm)).setCell ⟨w.heap.size,1,none⟩ (.slice Ac lc.length cc)).setCell ⟨w.heap.size,2,none⟩ (.slice As ls.length cs)).setCell ⟨w.heap.size,3,none⟩ (.slice Ak lk.length ck)).setCell ⟨w.heap.size,4,none⟩ (.slice Av lv.length cv)).setCell ⟨w.heap.size,5,none⟩ (.slice Ah lh.length ch)).setCell ⟨w.heap.size,6,none⟩ (.slice Aq lq.length cq)).setCell ⟨w.heap.size,7,none⟩ (.slice Ae le.length ce)) w.heap.size 31 #[.slice Am lm.length cm,.slice Ac lc.length cc,.slice As ls.length cs,.slice Ak lk.length ck,.slice Av lv.length cv,.slice Ah lh.length ch,.slice Aq lq.length cq,.slice Ae le.length ce]:=by simpa using hz9
 have z0:=Oq.cell 0;have z1:=Oq.cell 1;have z2:=Oq.cell 2;have z3:=Oq.cell 3;have z4:=Oq.cell 4;have z5:=Oq.cell 5;have z6:=Oq.cell 6;have z7:=Oq.cell 7;simp only[List.getElem?_toArray,List.getElem?_cons_zero,List.getElem?_cons_succ]at z0 z1 z2 z3 z4 z5 z6 z7;refine bodyPost_ret (v:= .agg #[.slice Am lm.length cm,.slice Ac lc.length cc,.slice As ls.length cs,.slice Ak lk.length ck,.slice Av lv.length cv,.slice Ah lh.length ch,.slice Aq lq.length cq,.slice Ae le.length ce]) (by simp[results,Tryz.results20,go_sem,z0,z1,z2,z3,z4,z5,z6,z7]) rfl ?_;exact⟨⟨⟨Am,cm,lm⟩,⟨Ac,cc,lc⟩,⟨As,cs,ls⟩,⟨Ak,ck,lk⟩,⟨Av,cv,lv⟩,⟨Ah,ch,lh⟩,⟨Aq,cq,lq⟩,⟨Ae,ce,le⟩⟩,base,rfl,HR.out.1,(((((((((HR.out.2.1.below (bN)).far ⟨w.heap.size,0,none⟩ HR.out.1 _).far ⟨w.heap.size,1,none⟩ HR.out.1 _).far ⟨w.heap.size,2,none⟩ HR.out.1 _).far ⟨w.heap.size,3,none⟩ HR.out.1 _).far ⟨w.heap.size,4,none⟩ HR.out.1 _).far ⟨w.heap.size,5,none⟩ HR.out.1 _).far ⟨w.heap.size,6,none⟩ HR.out.1 _).far ⟨w.heap.size,7,none⟩ HR.out.1 _),(((((((((HR.out.2.2.trans ((bN).mono HR.out.2.2.size)).setCell (p:=⟨w.heap.size,0,none⟩) nL _).setCell (p:=⟨w.heap.size,1,none⟩) nL _).setCell (p:=⟨w.heap.size,2,none⟩) nL _).setCell (p:=⟨w.heap.size,3,none⟩) nL _).setCell (p:=⟨w.heap.size,4,none⟩) nL _).setCell (p:=⟨w.heap.size,5,none⟩) nL _).setCell (p:=⟨w.heap.size,6,none⟩) nL _).setCell (p:=⟨w.heap.size,7,none⟩) nL _)⟩
end
end Go.Proofs.YtmdgooofdmpcjaaGreatDoor
