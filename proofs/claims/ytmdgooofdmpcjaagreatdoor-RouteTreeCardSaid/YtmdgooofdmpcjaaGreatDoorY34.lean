import Derived.Test.YtmdgooofdmpcjaaGreatDoorY24
import Derived.Test.YtmdgooofdmpcjaaGreatDoorY29
import Derived.Test.YtmdgooofdmpcjaaGreatDoorY0
set_option maxRecDepth 100000
set_option maxHeartbeats 8000000
set_option linter.unusedSimpArgs false
set_option linter.unusedVariables false
set_option linter.unusedSectionVars false
open Go.Proofs.Tryz renaming prog → pG
namespace Go.Proofs.YtmdgooofdmpcjaaGreatDoor
section
open Go.ChangeShapes Go.WideShapes Go.ChangeAt Go.RowKit
attribute [local go_sem] Oper.semAt_some
structure sx(f:Nat→Int)(met:List Nat)(B:Nat):Prop where
 met:∀j,0<f j↔j∈met
 lo:∀j,0≤f j
 hi:∀j,f j≤B
theorem sx.start(src:Nat):sx (Ou (fun _=>0) src 1) [src] 1:=by
 refine⟨fun j=> ?_,fun j=> ?_,fun j=> ?_⟩<;>unfold Ou<;>by_cases e:j=src<;>simp[e]
theorem sx.le{f:Nat→Int}{met:List Nat}{B C:Nat}(h:sx f met B)(hB:B≤C):sx f met C:=⟨h.met,h.lo,fun j=>by have:=h.hi j;omega⟩
theorem sx.more{f:Nat→Int}{met:List Nat}{B:Nat}(h:sx f met B)(t:Nat):sx (Ou f t (f t+1)) (t :: met) (B+1):=by
 have h1:=h.lo t;have h2:=h.hi t;refine⟨fun j=> ?_,fun j=> ?_,fun j=> ?_⟩<;>unfold Ou<;>by_cases e:j=t
 ·rw[if_pos e];exact⟨fun _=>by simp[e],fun _=>by omega⟩
 ·rw[if_neg e,h.met j];simp[e]
 ·rw[if_pos e];omega
 ·rw[if_neg e];exact h.lo j
 ·rw[if_pos e];omega
 ·rw[if_neg e];have:=h.hi j;omega
theorem BK(L:List aI)(e:aI)(met:List Nat):bU met (L++ [e])=if e.f∈bU met L then e.t :: bU met L else bU met L:=by
 rw[lT];simp only[bU]
def lN(M src:Nat)(hs:List aI):List Nat:=jW M src (bU [src] hs)
theorem OA(j src:Nat)(met:List Nat):jW (j+1) src met=jW j src met++(if (decide (j≠src)&&decide (j∈met))=true then[j]else[]):=by
 unfold jW;rw[List.range_succ,List.filter_append];congr 1;simp[List.filter_cons]
theorem E7(j src:Nat)(met:List Nat):(jW j src met).length≤j:=by
 unfold jW;have:=List.length_filter_le (fun m=>decide (m≠src)&&decide (m∈met)) (List.range j);simpa using this
theorem Ag(x:ay)(v:Nat)(A:Option Addr)(cp:Nat)(hs:List aI)(w:World)(hr:x.rd w w.heap.size)(hL:ct w)(hx:∀r∈x.causes.l,r.x.n≤8796093021952)(hc:cW x=0)(hv:v<x.aF.l.length)
 (hA:iq w w.heap.size A hs) (hhl:hs.length≤1000) (hh:∀e∈hs,e.f<1000∧e.t<1000):
 Calls pG 19 #[x.val,.slice A hs.length cp,.int .i64 (v:Int)] w fun e w'=>∃A' c',e= .returned (.slice A' (lN x.mods.l.length (dX x x.aF.l[v]) hs).length c')∧
  w'.ownsRow w.heap.size 3 1 (.slice A' (lN x.mods.l.length (dX x x.aF.l[v]) hs).length c') (lN x.mods.l.length (dX x x.aF.l[v]) hs).length ((lN x.mods.l.length (dX x x.aF.l[v]) hs).map fun k:Nat=>Value.int .i64 (k:Int))∧Below w.heap.size w w':=by
 obtain⟨y0,bR⟩:=ez (w.alloc (.cells #[.slice x.mods.a x.mods.l.length x.mods.c,.slice x.aj.a x.aj.l.length x.aj.c,.slice x.aP.a x.aP.l.length x.aP.c,.slice x.links.a x.links.l.length x.links.c,.slice x.aF.a x.aF.l.length x.aF.c,.slice x.bQ.a x.bQ.l.length x.bQ.c,.slice x.causes.a x.causes.l.length x.causes.c,.slice x.aA.a x.aA.l.length x.aA.c] 31));obtain⟨gc,uW⟩:=ez w.heap.size;have bW:Below w.heap.size w y0:=by rw[bR];exact bN
 have bS:ah y0 gc 31 x.arr:=by rw[bR,uW];exact ah.new w _ _
 have oU:=Aa x v 0 y0 (hr.below bW) (hL.below bW) hx hc hv oz oz;obtain⟨y,hy⟩:=ez (x.aF.l[v]);rw[←hy]at oU ⊢;have yu:y∈x.aF.l:=by rw[hy];exact List.getElem_mem hv
 have Qc:=(En hc yu).1;have C5:=jv hc;obtain⟨src,K2⟩:=ez (dX x y);rw[←K2]at oU Qc ⊢;have hs0:y0.heap.size=gc+1:=by rw[bR,uW];simp
 have SK:=lz oU;have aV:=lz bW;have sA:=lz bS;have dV:=lz bR;have Oc:=lz uW;have HA:=lz hA;have Hh:=lz hh;have Hs0:=lz hs0;obtain⟨hc1,-,-,-⟩:=C5;obtain⟨c0,c1,c2,c3,c4,c5,c6,c7⟩:y0.cell? ⟨gc,0,none⟩=some (.slice x.mods.a x.mods.l.length x.mods.c)∧y0.cell? ⟨gc,1,none⟩=some (.slice x.aj.a x.aj.l.length x.aj.c)∧y0.cell? ⟨gc,2,none⟩=some (.slice x.aP.a x.aP.l.length x.aP.c)∧y0.cell? ⟨gc,3,none⟩=some (.slice x.links.a x.links.l.length x.links.c)∧y0.cell? ⟨gc,4,none⟩=some (.slice x.aF.a x.aF.l.length x.aF.c)∧y0.cell? ⟨gc,5,none⟩=some (.slice x.bQ.a x.bQ.l.length x.bQ.c)∧y0.cell? ⟨gc,6,none⟩=some (.slice x.causes.a x.causes.l.length x.causes.c)∧y0.cell? ⟨gc,7,none⟩=some (.slice x.aA.a x.aA.l.length x.aA.c):=⟨bS.cell 0,bS.cell 1,bS.cell 2,bS.cell 3,bS.cell 4,bS.cell 5,bS.cell 6,bS.cell 7⟩;clear bR bW bS oU hr hL hx hc hy K2 hs0 uW yu hA hh hv;have hmm:= @run_makeMap pG;go_enter Tryz.func19,Tryz.ntmps19;rw[dV.out,Oc.out]at c0 c1 c2 c3 c4 c5 c6 c7;go_wp2_with fail;rw[←dV.out,←Oc.out];clear c0 c1 c2 c3 c4 c5 c6 c7;refine SK.out.mono ?_;rintro e W1 ⟨b,mb,nm,D,vf,F,rfl,hS⟩;obtain⟨⟨qv,bs,gP,-⟩,mz⟩:=hS.q;have BQ:y0.heap.size≤W1.heap.size:=hS.sz;have Ef:=gP.blk.lt;have cU:Hid (Below w.heap.size w W1):=lz (aV.out.trans (hS.lE.mono aV.out.size));have Hg1:Hid (ah W1 gc 31 x.arr):=lz (sA.out.below hS.lE (by have:=Hs0.out;omega));have gh:=lz gP.blk;have rZ:bs[2]?=some (.int .i64 src):=gP.c2;have Hk2:=lz rZ;have hM0:=lM.made W1;have k2:(W1.alloc (.map #[] 0)).cell? ⟨b,2,none⟩=some (.int .i64 src):=((gP.blk.alloc _).cell 2).trans rZ;have hput:=hM0.put (by unfold maxLen;omega) src oz 1;obtain⟨W2,Cr,zO,zo⟩:=hput;have HM:=lz (ai zO zo);clear hS gP SK hM0 zO zo rZ;go_wp2_with fail;obtain⟨mp,hmp⟩:=ez W1.heap.size;have pq:Below W1.heap.size W1 W2:=(bN).grown HM.out.2 qz (fun j e=>by cases e;exact Nat.le_refl _);have hz2:W1.heap.size<W2.heap.size:=by have:=HM.out.2.size;simp at this;omega
 go_loopw [30] (fun t wr=>∃(i n:Nat) (f:Nat→Int),i≤hs.length∧t= .int .i64 i∧n≤i+1∧lM wr W1.heap.size n f∧sx f (bU [src] (hs.take i)) (i+1)∧Below W1.heap.size W1 wr∧W1.heap.size<wr.heap.size) (fun t wr=>hs.length-(intOf t).toNat)
 case atStart=>exact⟨0,1,_,nZ,rfl,nL,HM.out.1,sx.start src,pq,hz2⟩
 case round=>
  clear HM Cr pq hz2 hmm k2;obtain⟨i,n,f,hi,rfl,hn,hM,hK,hB,hz⟩:=hrel;have Mr:=cU.out.trans (hB.mono cU.out.size);by_cases hlt:i<hs.length
  ·obtain⟨g1,o1,rfl,hg1,hc1⟩:=(HA.out.keep Mr) oz
   obtain⟨d0,d1,d2⟩:=hc1 i hlt;obtain⟨hf,ht⟩:=Hh.out _ (List.getElem_mem hlt);have WY:hs.take (i+1)=hs.take i++ [hs[i]]:=List.take_succ_eq_append_getElem hlt;obtain⟨e,he⟩:=ez (hs[i]);rw[←he]at d0 d1 d2 hf ht WY;have hM4:lM (wr.alloc (.cells #[.int .i64 e.f,.int .i64 e.t,.int .i64 e.l] 53)) W1.heap.size n f:=hM.below (bN);have Mj:Below W1.heap.size W1 (wr.alloc (.cells #[.int .i64 e.f,.int .i64 e.t,.int .i64 e.l] 53)):=hB.alloc hB.size _;have DL:=hM4.look e.f hf;have Cb:=hM4.look e.t ht;have FC:=hK.met e.f;have h1:=hK.lo e.t;have h2:=hK.hi e.t;by_cases K9:0<f e.f
   ·have og:decide (f e.f>0)=true:=dT K9
    have sy:=FC.1 K9;have hK':sx (Ou f e.t (f e.t+1)) (bU [src] (hs.take (i+1))) (i+1+1):=by
     rw[WY,BK,if_pos sy];exact hK.more e.t
    obtain⟨W5,Cr,zO,zo⟩:=hM4.put (by unfold maxLen;omega) e.t ht (f e.t+1);have HN:=lz (ai zO (ai zo (ai hK' Mj)));clear zO zo hK' hK hB Mr hM hM4 Mj hc1 FC sy WY he;go_wp2;go_roundw
    case rel=>
     obtain⟨q1,q2,q3,q4⟩:=HN.out;exact⟨i+1,n+1,_,oz,by go_num,oz,q1,q3,q4.grown q2 qo (fun j e=>by cases e;exact Nat.le_refl _),by have:=q2.size;simp at this;omega⟩
    case measure=>simp[intOf];omega
   ·have og:decide (f e.f>0)=false:=dF K9
    have hK':sx f (bU [src] (hs.take (i+1))) (i+1+1):=by
     rw[WY,BK,if_neg (fun h=>K9 (FC.2 h))];exact hK.le oz
    have HN:=lz (ai hM4 (ai hK' Mj));clear hK' hK hB Mr hM hM4 Mj hc1 FC WY he;go_wp2;go_roundw
    case rel=>
     obtain⟨q1,q2,q3⟩:=HN.out;exact⟨i+1,n,_,oz,by go_num,oz,q1,q2,q3,qo⟩
    case measure=>simp[intOf];omega
  ·have hie:i=hs.length:=by omega
   rw[hie,List.take_length]at hK;have YO:((i:Int)<(hs.length:Int))=False:=eq_false oz;have k0:wr.cell? ⟨gc,0,none⟩=some (.slice x.mods.a x.mods.l.length x.mods.c):=(Hg1.out.below hB (Hg1.out.lt)).cell 0;have HK:=lz hK;have HM2:=lz (ai hM (ai hB hz));clear hK hM hB Mr hie;go_wp2_with fail;clear k0;go_loopw [48,12] (fun t u wq=>∃(j:Nat) (V:Value),j≤x.mods.l.length∧t= .int .i64 j∧u=V∧wq.ownsRow W1.heap.size 3 1 V (jW j src (bU [src] hs)).length ((jW j src (bU [src] hs)).map fun k:Nat=>Value.int .i64 (k:Int))∧lM wq W1.heap.size n f∧Below W1.heap.size W1 wq∧W1.heap.size<wq.heap.size) (fun t u wq=>x.mods.l.length-(intOf t).toNat)
   case atStart=>exact⟨0,_,nZ,rfl,rfl,World.ownsRow_nil _ _ _ _,HM2.out.1,HM2.out.2.1,HM2.out.2.2⟩
   case round=>
    clear HM2;obtain⟨j,V,hj,rfl,rfl,hown,hM,hB,hz⟩:=hrel;obtain⟨Av,cv,rfl,Me,hv2⟩:=bp hown;have hrl:=E7 j src (bU [src] hs);by_cases hjl:j<x.mods.l.length
    ·have k2:wr.cell? ⟨b,2,none⟩=some (.int .i64 src):=((gh.out.below hB Ef).cell 2).trans Hk2.out
     have DL:=hM.look j oz;have FC:=HK.out.met j;have yp:=OA j src (bU [src] hs);by_cases hjs:j=src
     ·have hne:((j:Int) !=(src:Int))=false:=by simp[hjs]
      rw[show(decide (j≠src)&&decide (j∈bU [src] hs))=false by simp[hjs],if_neg qz,List.append_nil]at yp;have HN:=lz (ai hown (ai hM (ai hB hz)));have NM:=lz yp;clear hown hM hB yp FC hjs;go_wp2;go_roundw
      case rel=>exact⟨j+1,_,oz,by go_num,rfl,by rw[NM.out];exact HN.out.1,HN.out.2⟩
      case measure=>simp[intOf];omega
     ·have hne:((j:Int) !=(src:Int))=true:=by simp;omega
      by_cases hp:0<f j
      ·have og:decide (f j>0)=true:=dT hp
       have sy:=FC.1 hp;rw[show(decide (j≠src)&&decide (j∈bU [src] hs))=true by simp[hjs,sy],if_pos rfl]at yp;obtain⟨i0,lX,hz0,hz1,hz2⟩:=info_parts Nw;have HN:=lz (ai hown (ai hM (ai hB hz)));have NM:=lz yp;clear hown hM hB yp FC hjs sy;generalize hR:jW j src (bU [src] hs)=R at *;obtain⟨ys,hys⟩:=ez (R.map fun k:Nat=>Value.int .i64 (k:Int))
       have hown:=HN.out.1;rw[←hys]at hown;have Hys:=lz hys;clear hys hR;go_wp2_with (at_builtin;refine wpList_append_own _ rfl _ _ 36 rfl W1.heap.size 3 i0 (.int .i64 0) 1 8 Tryz.underlying36 lX hz0 hz1 hz2 rfl dz _ _ _ rfl (hown.alloc _) ⟨wr.heap.size,0,none⟩ 1 1 [.int .i64 j] rfl rfl ?c1 ?c2 ?c3 ?c4 ?c5 ?_)
       case c1=>
        intro j' u hj';rcases j' with _ | j'
        ·simp at hj'
         subst hj';exact(ah.new wr 3 #[.int .i64 j]).cell 0
        ·simp at hj'
       case c2=>simp[Value.oneCell']
       case c3=>unfold maxLen;omega
       case c4=>omega
       case c5=>simp;omega
       intro v5 wo dQ mE _;obtain⟨g5,cp5,rfl,_⟩:=dQ.form oz;have hM4:=HN.out.2.1.below ((Below.refl _ wr).alloc nL (.cells #[.int .i64 j] 3));have Zi:=hown.alloc (.cells #[.int .i64 j] 3);have hM5:=hM4.grown mE (hM4.own_ne Zi);have Cp:=(HN.out.2.2.1.alloc HN.out.2.2.1.size (.cells #[.int .i64 j] 3)).grown mE qo (fun k e=>(Zi.lt k e).1);have hz5:W1.heap.size<wo.heap.size:=by have:=mE.size;simp at this;omega
       have HE:=lz (ai dQ (ai hM5 (ai Cp hz5)));clear dQ mE hM4 Zi hM5 Cp hown;go_wp2;go_roundw
       case rel=>
        refine⟨j+1,_,oz,by go_num,rfl,?_,HE.out.2⟩;rw[NM.out,List.length_append,List.map_append,←Hys.out];exact HE.out.1
       case measure=>simp[intOf];omega
      ·have og:decide (f j>0)=false:=dF hp
       have sy:¬j∈bU [src] hs:=fun h=>hp (FC.2 h)
       rw[show(decide (j≠src)&&decide (j∈bU [src] hs))=false by simp[sy],if_neg qz,List.append_nil]at yp;have HN:=lz (ai hown (ai hM (ai hB hz)));have NM:=lz yp;clear hown hM hB yp FC hjs sy;go_wp2;go_roundw
       case rel=>exact⟨j+1,_,oz,by go_num,rfl,by rw[NM.out];exact HN.out.1,HN.out.2⟩
       case measure=>simp[intOf];omega
    ·have hje:j=x.mods.l.length:=by omega
     have aYB:((j:Int)<(x.mods.l.length:Int))=False:=eq_false oz;rw[hje]at hown;rw[hje];have HN:=lz (ai hown (ai hB hz));clear hown hM hB hje;go_wp2;go_ret;exact⟨Av,cv,rfl,nV HN.out.1 cU.out.size,cU.out.trans (HN.out.2.1.mono cU.out.size)⟩
end
end Go.Proofs.YtmdgooofdmpcjaaGreatDoor
