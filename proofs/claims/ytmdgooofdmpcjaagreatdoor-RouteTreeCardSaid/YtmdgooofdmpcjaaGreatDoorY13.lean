import Derived.ArgAppend
import Derived.Test.YtmdgooofdmpcjaaGreatDoorY12
import Derived.Test.YtmdgooofdmpcjaaGreatDoorY8
import Derived.Test.YtmdgooofdmpcjaaGreatDoorY10
import Derived.Test.YtmdgooofdmpcjaaGreatDoorY0
set_option maxRecDepth 100000
set_option maxHeartbeats 8000000
set_option linter.unusedSimpArgs false
set_option linter.unusedVariables false
set_option linter.unusedSectionVars false
open Go.Proofs.Tryz renaming prog → pG
namespace Go.Proofs.YtmdgooofdmpcjaaGreatDoor
section
open Go.ChangeShapes Go.WideShapes Go.ChangeAt Go.RowKit
attribute [local go_sem] Oper.semAt_some
structure dZ where
 src:bw
 dst:Sl bw
 vl:Bool
abbrev dZ.val(x:dZ):Value:= .agg #[.string x.src.m,.string x.src.p,.string x.src.o,.slice x.dst.a x.dst.l.length x.dst.c,.bool x.vl]
def dZ.Mf(x:gq):dZ:=⟨x.src,x.dst,false⟩
def dZ.Pg(x:fU):dZ:=⟨x.src,x.dst,true⟩
def gi(x:ay):List dZ:=x.aj.l.map dZ.Mf++x.aF.l.map dZ.Pg
abbrev dZ.enc(x:dZ):Array Value:= #[x.val]
theorem tV{α β:Type}(f:α→β){l:List α}{k:Nat}(h:k<l.length):(l.take (k+1)).map f=(l.take k).map f++ [f l[k]]:=by
 rw[List.take_succ_eq_append_getElem h,List.map_append];rfl
theorem Ub{x:ay}{k:Nat}(h:k≤x.aj.l.length):(x.aj.l.take k).map dZ.Mf <+: gi x:=by
 unfold gi;exact((List.take_prefix k x.aj.l).map dZ.Mf).trans (List.prefix_append _ _)
theorem Uc{x:ay}{k:Nat}(h:k≤x.aF.l.length):x.aj.l.map dZ.Mf++(x.aF.l.take k).map dZ.Pg <+: gi x:=by
 unfold gi;exact(List.prefix_append_right_inj _).2 ((List.take_prefix k x.aF.l).map dZ.Pg)
structure D6(w:World)(g Bl B:Nat)(x:ay):Prop where
 l:ah w Bl 92 #[.pointer (some ⟨g,0,none⟩)]
 g:tU w g x
 r:x.rd w B
 B:B≤w.heap.size
theorem D6.gr{X:Nat→Prop}{w w':World}{g Bl B:Nat}{x:ay}(h:D6 w g Bl B x)(hX:∀k,X k→k≠Bl∧k≠g∧B≤k)(hg:Gr X w w'):D6 w' g Bl B x:=
 ⟨hg.blk h.l fun hx=>(hX _ hx).1 rfl,h.g.gr hg fun hx=>(hX _ hx).2.1 rfl,h.r.dn nL (kN hg h.B fun k hk=>(hX k hk).2.2),nT h.B hg.size⟩
theorem WI(x:ay)(g Bl B:Nat)(X:Nat→Prop)(w:World)(hX:∀k,X k→k≠Bl∧k≠g∧B≤k)(h:D6 w g Bl B x)(hc1:x.aj.l.length≤9223372036854775807)(qc:x.aF.l.length≤9223372036854775807):
 aAz X 143 #[.pointer (some ⟨Bl,0,none⟩)] dZ.enc (gi x) w:=by
 intro l W J Jx hW hJ hJx h0 hY;have HF:=lz (fun W (hG:Gr X w W)=>h.gr hX hG);have hGW:Gr X w W:=Gr.ak hW;have c0:W.cell? ⟨Bl,0,none⟩=some (.pointer (some ⟨g,0,none⟩)):=(HF.out _ hGW).l.cell 0;have k1:W.cell? ⟨g,1,none⟩=some (.slice x.aj.a x.aj.l.length x.aj.c):=(HF.out _ hGW).g.cell 1;have HY:=lz hY;have HJ:=lz hJ;clear hY hJ hJx h hW;refine callsIn_of_wp Tryz.func143 rfl trivial ?_ rfl;simp only[Tryz.ntmps143,List.size_toArray,List.length_cons,List.length_nil,Nat.reduceAdd,Nat.reduceSub,Array.replicate_succ,Array.replicate_zero,List.push_toArray,List.append_toArray,List.nil_append,List.cons_append];gi_wp2;gi_loopw [13] (fun t wr=>∃k:Nat,k≤x.aj.l.length∧t= .int .i64 k∧J ((x.aj.l.take k).map dZ.Mf) wr∧Gr X w wr) (fun t wr=>x.aj.l.length-(intOf t).toNat)
 case atStart=>exact⟨0,nZ,rfl,by simpa using h0,hGW⟩
 case round=>
  clear h0 hGW c0 k1;obtain⟨k,hk,rfl,M0,hG⟩:=hrel;by_cases hlt:k<x.aj.l.length
  ·have hf:=HF.out _ hG
   obtain⟨b,o,hA,hb,hc⟩:=hf.r.aj oz;obtain⟨d0,d1,d2,d3,_⟩:=hc k hlt;have CP:=hf.B;have hlc:=hf.l.lt;have pE:=tV dZ.Mf hlt;have Ge:(x.aj.l.take k).map dZ.Mf++ [dZ.Mf x.aj.l[k]] <+: gi x:=by
    have:=Ub (x:=x) (k:=k+1) oz;rw[pE]at this;simpa [List.append_assoc]using this
   have hGb:∀v,Gr X w (wr.alloc (.cells v 78)):=fun v=>hG.trans (Gr.alloc _ _ _)
   have hJb:∀v,J ((x.aj.l.take k).map dZ.Mf) (wr.alloc (.cells v 78)):=fun v=>HJ.out _ _ _ M0 (bN)
   obtain⟨fn,tmps,assign,body,hy,hR⟩:=HY.out _ _ (wr.alloc (.cells #[.string x.aj.l[k].src.m,.string x.aj.l[k].src.p,.string x.aj.l[k].src.o,.slice x.aj.l[k].dst.a x.aj.l[k].dst.l.length x.aj.l[k].dst.c] 78)) Ge (hGb _) (hJb _);have lg:=lz (show(x.aj.l.take (k+1)).map dZ.Mf=(x.aj.l.take k).map dZ.Mf++ [dZ.Mf x.aj.l[k]]by rw[pE]);have WJ:=lz Ge;have HG:=lz hG;clear Ge pE M0 hG hGb hJb hf hc;dsimp only[dZ.enc,dZ.val,dZ.Mf]at hy;rw[hA]at *;generalize hyk:x.aj.l[k]=y at *;gi_wp2;refine hR.mono ?_;rintro e' W3 (⟨rfl,WK,wk⟩ | ⟨rfl,Gf⟩)
   ·have HJ3:=lz WK
    have Qd:=lz wk;clear WK wk;gi_wp2;go_roundw
    case rel=>exact⟨k+1,oz,by go_num,by rw[lg.out];exact HJ3.out,(HG.out.trans (Gr.alloc _ _ _)).trans Qd.out⟩
    case measure=>simp[intOf];omega
   ·have WL:=lz Gf
    clear Gf;gi_wp2;refine bodyPost_ret (results_none rfl _ _ _) rfl ?_;exact⟨⟨_,rfl⟩,.inr ⟨_,WJ.out,WL.out⟩⟩
  ·obtain rfl:k=x.aj.l.length:=by omega
   rw[List.take_length]at M0;have hf:=HF.out _ hG;have c0:=hf.l.cell 0;have k4:=hf.g.cell 4;have hJE:=lz M0;have HGE:=lz hG;clear M0 hG hf;gi_wp2;gi_loopw [32] (fun t wr=>∃k:Nat,k≤x.aF.l.length∧t= .int .i64 k∧J (x.aj.l.map dZ.Mf++(x.aF.l.take k).map dZ.Pg) wr∧Gr X w wr) (fun t wr=>x.aF.l.length-(intOf t).toNat)
   case atStart=>exact⟨0,nZ,rfl,by simpa using hJE.out,HGE.out⟩
   case round=>
    clear hJE HGE c0 k4;obtain⟨k,hk,rfl,M0,hG⟩:=hrel;by_cases hlt:k<x.aF.l.length
    ·have hf:=HF.out _ hG
     obtain⟨b,o,hA,hb,hc⟩:=hf.r.aF oz;obtain⟨d0,d1,d2,d3,d4,d5,d6,_⟩:=hc k hlt;have CP:=hf.B;have hlc:=hf.l.lt;have pE:=tV dZ.Pg hlt;have Ge:x.aj.l.map dZ.Mf++(x.aF.l.take k).map dZ.Pg++ [dZ.Pg x.aF.l[k]] <+: gi x:=by
      have:=Uc (x:=x) (k:=k+1) oz;rw[pE]at this;simpa [List.append_assoc]using this
     have hGb:∀v,Gr X w (wr.alloc (.cells v 44)):=fun v=>hG.trans (Gr.alloc _ _ _)
     have hJb:∀v,J (x.aj.l.map dZ.Mf++(x.aF.l.take k).map dZ.Pg) (wr.alloc (.cells v 44)):=fun v=>HJ.out _ _ _ M0 (bN)
     obtain⟨fn,tmps,assign,body,hy,hR⟩:=HY.out _ _ (wr.alloc (.cells #[.string x.aF.l[k].nm,.string x.aF.l[k].src.m,.string x.aF.l[k].src.p,.string x.aF.l[k].src.o,.int .i64 x.aF.l[k].lQ,.int .i64 x.aF.l[k].mx,.slice x.aF.l[k].dst.a x.aF.l[k].dst.l.length x.aF.l[k].dst.c] 44)) Ge (hGb _) (hJb _);have lg:=lz (show x.aj.l.map dZ.Mf++(x.aF.l.take (k+1)).map dZ.Pg=x.aj.l.map dZ.Mf++(x.aF.l.take k).map dZ.Pg++ [dZ.Pg x.aF.l[k]]by rw[pE];rw[List.append_assoc]);have WJ:=lz Ge;have HG:=lz hG;clear Ge pE M0 hG hGb hJb hf hc;dsimp only[dZ.enc,dZ.val,dZ.Pg]at hy;rw[hA]at *;generalize hyk:x.aF.l[k]=y at *;gi_wp2;refine hR.mono ?_;rintro e' W3 (⟨rfl,WK,wk⟩ | ⟨rfl,Gf⟩)
     ·have HJ3:=lz WK
      have Qd:=lz wk;clear WK wk;gi_wp2;go_roundw
      case rel=>exact⟨k+1,oz,by go_num,by rw[lg.out];exact HJ3.out,(HG.out.trans (Gr.alloc _ _ _)).trans Qd.out⟩
      case measure=>simp[intOf];omega
     ·have WL:=lz Gf
      clear Gf;gi_wp2;refine bodyPost_ret (results_none rfl _ _ _) rfl ?_;exact⟨⟨_,rfl⟩,.inr ⟨_,WJ.out,WL.out⟩⟩
    ·obtain rfl:k=x.aF.l.length:=by omega
     rw[List.take_length]at M0;have HJk:=lz (show J (gi x) wr from M0);clear M0;gi_wp2;go_end0;exact⟨⟨_,rfl⟩,.inl HJk.out⟩
abbrev WM:=bT×aC
abbrev II(y:WM):Array Value:= #[y.1.val,y.2.val]
def D7(m:bT):List WM:=m.parts.l.map fun p=>(m,p)
def fE(x:ay):List WM:=x.mods.l.flatMap D7
theorem IJ{α β:Type}(f:α→List β){l:List α}{k:Nat}(h:k<l.length):(l.take (k+1)).flatMap f=(l.take k).flatMap f++f l[k]:=by
 rw[List.take_succ_eq_append_getElem h,List.flatMap_append];simp
theorem WO{α β:Type}(f:α→List β)(l:List α)(k:Nat):(l.take k).flatMap f <+: l.flatMap f:=by
 have:l.flatMap f=(l.take k).flatMap f++(l.drop k).flatMap f:=by rw[←List.flatMap_append,List.take_append_drop]
 rw[this];exact List.prefix_append _ _
theorem Ud{x:ay}{i j:Nat}(hi:i<x.mods.l.length)(hj:j<x.mods.l[i].parts.l.length):(x.mods.l.take i).flatMap D7++(x.mods.l[i].parts.l.take j).map (fun p=>(x.mods.l[i],p))++ [(x.mods.l[i],x.mods.l[i].parts.l[j])] <+: fE x:=by
 have h1:=WO D7 x.mods.l (i+1);rw[IJ D7 hi]at h1;refine List.IsPrefix.trans ?_ h1;rw[List.append_assoc];refine(List.prefix_append_right_inj _).2 ?_;rw[←tV (fun p=>(x.mods.l[i],p)) hj];exact(List.take_prefix _ _).map _
theorem CQ(x:ay)(g Bl B:Nat)(X:Nat→Prop)(w:World)(hX:∀k,X k→k≠Bl∧k≠g∧B≤k)(hX2:∀k,X k→k<w.heap.size)(h:D6 w g Bl B x)(hc1:x.mods.l.length≤9223372036854775807):
 aAz X 151 #[.pointer (some ⟨Bl,0,none⟩)] II (fE x) w:=by
 intro l W J Jx hW hJ hJx h0 hY;have HF:=lz (fun W (hG:Gr X w W)=>h.gr hX hG);have hGW:Gr X w W:=Gr.ak hW;have c0:W.cell? ⟨Bl,0,none⟩=some (.pointer (some ⟨g,0,none⟩)):=(HF.out _ hGW).l.cell 0;have k0:W.cell? ⟨g,0,none⟩=some (.slice x.mods.a x.mods.l.length x.mods.c):=(HF.out _ hGW).g.cell 0;have HY:=lz hY;have HJ:=lz hJ;have qB:=lz hX2;clear hY hJ hJx h hW hX2;refine callsIn_of_wp Tryz.func151 rfl trivial ?_ rfl;simp only[Tryz.ntmps151,List.size_toArray,List.length_cons,List.length_nil,Nat.reduceAdd,Nat.reduceSub,Array.replicate_succ,Array.replicate_zero,List.push_toArray,List.append_toArray,List.nil_append,List.cons_append];gi_wp2;gi_loopw [13] (fun t wr=>∃i:Nat,i≤x.mods.l.length∧t= .int .i64 i∧J ((x.mods.l.take i).flatMap D7) wr∧Gr X w wr) (fun t wr=>x.mods.l.length-(intOf t).toNat)
 case atStart=>exact⟨0,nZ,rfl,by simpa using h0,hGW⟩
 case round=>
  clear h0 hGW c0 k0;obtain⟨i,hi,rfl,hJi,hG⟩:=hrel;by_cases hlt:i<x.mods.l.length
  ·have hf:=HF.out _ hG
   obtain⟨b,o,hA,hb,hc⟩:=hf.r.mods oz;obtain⟨d0,d1,d2,d3,Gg⟩:=hc i hlt;have CP:=hf.B;have Ge:=fun j hj=>Ud (x:=x) (i:=i) (j:=j) hlt hj
   have aNs:=lz (IJ D7 hlt);have WJ:=lz Ge;clear Ge hf hc;rw[hA]at *;generalize x.mods.l[i]=m at *;obtain⟨w1,cN⟩:=ez (wr.alloc (.cells #[.string m.nm,.int .i64 m.mem,.int .i64 m.fr,.slice m.parts.a m.parts.l.length m.parts.c] 67));have aU:ah w1 wr.heap.size 67 #[.string m.nm,.int .i64 m.mem,.int .i64 m.fr,.slice m.parts.a m.parts.l.length m.parts.c]:=by rw[cN];exact ah.new _ _ _
   have bY:Below wr.heap.size wr w1:=by rw[cN];exact bN
   have k3:=cN▸aU.cell 3;have hGw:=hG.trans (Gr.ak bY);have hJw:=HJ.out _ _ _ hJi bY;have hsz:=hG.size;have Hmr:=lz (show m.rd w1 B from Gg.dn nL (fun b o hb=>bY.cell (p:=⟨b,o,none⟩) (Nat.lt_of_lt_of_le hb CP)));have aNt:B≤w1.heap.size:=nT CP bY.size;obtain⟨nb,uH⟩:=ez wr.heap.size;have aNu:∀k,X k→¬k=nb:=fun k hx e=>by have:=qB.out k hx;have:=hsz;omega
   rw[←uH]at aU;have gh:=lz aU;have lH:=lz cN;have hG':=lz hG;have IK:m.parts.l.length≤9223372036854775807:=nT Gg.zI (nT Gg.zJ dz);clear Gg aU cN bY hJi hG;gi_wp2;rw[←lH.out,←uH];clear uH;gi_loopw [20] (fun t wr'=>∃j:Nat,j≤m.parts.l.length∧t= .int .i64 j∧J ((x.mods.l.take i).flatMap D7++(m.parts.l.take j).map fun p=>(m,p)) wr'∧Gr X w1 wr'∧Gr X w wr') (fun t wr'=>m.parts.l.length-(intOf t).toNat)
   case atStart=>exact⟨0,nZ,rfl,by simpa using hJw,Gr.refl _ _,hGw⟩
   case round=>
    clear hJw hGw k3 d0 d1 d2 d3;obtain⟨j,hj,rfl,hJj,sK,AX⟩:=hrel;have HW:=lz AX;by_cases aEp:j<m.parts.l.length
    ·have hf:=HF.out _ AX
     have D8:=sK.blk gh.out (fun hx=>aNu _ hx rfl);have aIb:=Hmr.out.dn nL (kN sK aNt (fun k hk=>(hX k hk).2.2));obtain⟨b2,o2,hA2,dI,qc⟩:=aIb.parts oz;have Gh:=qc j aEp;have pE:=tV (fun p=>(m,p)) aEp;have Mg:=WJ.out j aEp;have aUN:=hf.B;have aNv:=D8.lt;have e0:=D8.cell 0;have e1:=D8.cell 1;have e2:=D8.cell 2;have e3:=D8.cell 3;have hGb:∀v,Gr X w (wr.alloc (.cells v 71)):=fun v=>AX.trans (Gr.alloc _ _ _)
     have hJb:∀v,J ((x.mods.l.take i).flatMap D7++(m.parts.l.take j).map fun p=>(m,p)) (wr.alloc (.cells v 71)):=fun v=>HJ.out _ _ _ hJj (bN)
     obtain⟨fn,tmps,assign,body,hy,hR⟩:=HY.out _ _ (wr.alloc (.cells #[.string m.parts.l[j].nm,.int .i64 m.parts.l[j].pe,.int .i64 m.parts.l[j].le,.int .i64 m.parts.l[j].mem,.slice m.parts.l[j].aG.a m.parts.l[j].aG.l.length m.parts.l[j].aG.c,.int .i64 m.parts.l[j].ev,.int .i64 m.parts.l[j].bo,.slice m.parts.l[j].aX.a m.parts.l[j].aX.l.length m.parts.l[j].aX.c,.slice m.parts.l[j].aq.a m.parts.l[j].aq.l.length m.parts.l[j].aq.c,.slice m.parts.l[j].procs.a m.parts.l[j].procs.l.length m.parts.l[j].procs.c] 71)) Mg (hGb _) (hJb _);have lg:=lz (show(x.mods.l.take i).flatMap D7++(m.parts.l.take (j+1)).map (fun p=>(m,p))=(x.mods.l.take i).flatMap D7++(m.parts.l.take j).map (fun p=>(m,p))++ [(m,m.parts.l[j])]by rw[pE,List.append_assoc]);have Hpr:=lz Mg;have Qe:=lz sK;clear Mg pE hJj sK AX hGb hJb hf qc aIb D8;dsimp only[II,bT.val,aC.val,Sl.val]at hy;rw[hA2]at *;generalize m.parts.l[j]=p at *;obtain⟨q0,q1,q2,q3,q4,q5,q6,q7,q8,q9,_⟩:=Gh;gi_wp2;refine hR.mono ?_;rintro e' W3 (⟨rfl,WK,wk⟩ | ⟨rfl,Gf⟩)
     ·have HJ3:=lz WK
      have Qd:=lz wk;clear WK wk;gi_wp2;go_roundw
      case rel=>exact⟨j+1,oz,by go_num,by rw[lg.out];exact HJ3.out,(Qe.out.trans (Gr.alloc _ _ _)).trans Qd.out,(HW.out.trans (Gr.alloc _ _ _)).trans Qd.out⟩
      case measure=>simp[intOf];omega
     ·have WL:=lz Gf
      clear Gf;gi_wp2;refine bodyPost_ret (results_none rfl _ _ _) rfl ?_;exact⟨⟨_,rfl⟩,.inr ⟨_,Hpr.out,WL.out⟩⟩
    ·obtain rfl:j=m.parts.l.length:=by omega
     rw[List.take_length]at hJj;have HJj:=lz (show J ((x.mods.l.take (i+1)).flatMap D7) wr by rw[aNs.out];exact hJj);clear hJj;gi_wp2;go_roundw
     case rel=>exact⟨i+1,oz,by go_num,HJj.out,HW.out⟩
     case measure=>simp[intOf];omega
  ·obtain rfl:i=x.mods.l.length:=by omega
   rw[List.take_length]at hJi;have HJi:=lz (show J (fE x) wr from hJi);clear hJi;gi_wp2;go_end0;exact⟨⟨_,rfl⟩,.inl HJi.out⟩
theorem dG(lo hi m1:Int)(W:World):Calls pG 53 #[.int .i64 lo,.int .i64 hi,.slice (some ⟨W.heap.size,0,none⟩) 1 1] (W.alloc (.cells #[.int .i64 m1] 3)) fun e w'=>e= .returned (.bool ([m1].all (dJ lo hi)))∧Below W.heap.size W w':=by
 refine(lY lo hi [m1] _ 1 (W.alloc (.cells #[.int .i64 m1] 3)) (iZ qz (fun i hi=>by
  have uz:i=0:=by simp at hi;omega
  rw[Nat.zero_add];rcases uz with rfl<;>exact(ah.new W _ _).cell _)) qz).mono ?_
 rintro e w' ⟨rfl,hb⟩;exact⟨rfl,(bN).trans (hb.mono qz)⟩
theorem AY(lo hi m1 m2:Int)(W:World):Calls pG 53 #[.int .i64 lo,.int .i64 hi,.slice (some ⟨W.heap.size,0,none⟩) 2 2] (W.alloc (.cells #[.int .i64 m1,.int .i64 m2] 3)) fun e w'=>e= .returned (.bool ([m1,m2].all (dJ lo hi)))∧Below W.heap.size W w':=by
 refine(lY lo hi [m1,m2] _ 2 (W.alloc (.cells #[.int .i64 m1,.int .i64 m2] 3)) (iZ qz (fun i hi=>by
  have uz:i=0∨i=1:=by simp at hi;omega
  rw[Nat.zero_add];rcases uz with rfl | rfl<;>exact(ah.new W _ _).cell _)) qz).mono ?_
 rintro e w' ⟨rfl,hb⟩;exact⟨rfl,(bN).trans (hb.mono qz)⟩
theorem Ns(lo hi m1 m2 m3:Int)(W:World):Calls pG 53 #[.int .i64 lo,.int .i64 hi,.slice (some ⟨W.heap.size,0,none⟩) 3 3] (W.alloc (.cells #[.int .i64 m1,.int .i64 m2,.int .i64 m3] 3)) fun e w'=>e= .returned (.bool ([m1,m2,m3].all (dJ lo hi)))∧Below W.heap.size W w':=by
 refine(lY lo hi [m1,m2,m3] _ 3 (W.alloc (.cells #[.int .i64 m1,.int .i64 m2,.int .i64 m3] 3)) (iZ qz (fun i hi=>by
  have uz:i=0∨i=1∨i=2:=by simp at hi;omega
  rw[Nat.zero_add];rcases uz with rfl | rfl | rfl<;>exact(ah.new W _ _).cell _)) qz).mono ?_
 rintro e w' ⟨rfl,hb⟩;exact⟨rfl,(bN).trans (hb.mono qz)⟩
theorem Nt(lo hi m1 m2 m3 m4:Int)(W:World):Calls pG 53 #[.int .i64 lo,.int .i64 hi,.slice (some ⟨W.heap.size,0,none⟩) 4 4] (W.alloc (.cells #[.int .i64 m1,.int .i64 m2,.int .i64 m3,.int .i64 m4] 3)) fun e w'=>e= .returned (.bool ([m1,m2,m3,m4].all (dJ lo hi)))∧Below W.heap.size W w':=by
 refine(lY lo hi [m1,m2,m3,m4] _ 4 (W.alloc (.cells #[.int .i64 m1,.int .i64 m2,.int .i64 m3,.int .i64 m4] 3)) (iZ qz (fun i hi=>by
  have uz:i=0∨i=1∨i=2∨i=3:=by simp at hi;omega
  rw[Nat.zero_add];rcases uz with rfl | rfl | rfl | rfl<;>exact(ah.new W _ _).cell _)) qz).mono ?_
 rintro e w' ⟨rfl,hb⟩;exact⟨rfl,(bN).trans (hb.mono qz)⟩
def IL(x:cT):Bool:=(decide (x.pr≤255))&&(decide ((x.code.l.length:Int)≤24))
theorem Ue(x:cT)(w:World)(hr:x.rd w w.heap.size):CU 54 #[x.val] w (.bool (IL x)):=by
 obtain⟨y0,dV,aV,Hf,jH,qU,kk⟩:=gJ w 76 #[.string x.nm,.int .i64 x.pr,.int .i64 x.pe,.int .i64 x.li,.slice x.code.a x.code.l.length x.code.c];obtain⟨k0,k1,k2,k3,k4⟩:=cT.kl kk;have HF:=lz (show IL x=((decide (x.pr≤255))&&(decide ((x.code.l.length:Int)≤24)))from rfl);have HR:=lz hr;clear kk hr;go_enter Tryz.func54,Tryz.ntmps54
 cases a1:decide (x.pr≤255)with
 | false=>
  rw[a1]at HF;exact e0
 | true=>
  rw[a1]at HF
  cases a2:decide ((x.code.l.length:Int)≤24)with
  | false=>
   rw[a2]at HF;have a22:decide (x.code.l.length≤24)=false:=by have:=of_decide_eq_false a2;exact dF oz
   exact e0
  | true=>
   rw[a2]at HF;have a22:decide (x.code.l.length≤24)=true:=by have:=of_decide_eq_true a2;exact dT oz
   exact e0
def vJ(x:iI):Bool:=(decide (x.dl≤1000))&&([x.st].all (dJ 1 65536))
theorem aBP(x:iI)(w:World):CU 60 #[x.val] w (.bool (vJ x)):=by
 obtain⟨y0,dV,aV,Hf,jH,qU,kk⟩:=gJ w 87 #[.string x.nm,.int .i64 x.net,.int .i64 x.dl,.int .i64 x.st];obtain⟨k0,k1,k2,k3⟩:=iI.kl kk;have HF:=lz (show vJ x=((decide (x.dl≤1000))&&([x.st].all (dJ 1 65536)))from rfl);clear kk;go_enter Tryz.func60,Tryz.ntmps60
 cases a1:decide (x.dl≤1000)with
 | false=>
  rw[a1]at HF;exact e0
 | true=>
  rw[a1]at HF;go_wp2_with fail;rw[←dV.out];have hc:=lz (dG 1 65536 (x.st) y0);generalize ([x.st].all (dJ 1 65536))=q2 at hc HF;rw[←qU.out];refine bZ hc jH fun y1 fI=> ?_
  clear hc;clear k0 k1 k2 k3;obtain⟨k0,k1,k2,k3⟩:=iI.kl (Hf.out _ fI.out);exact e1
def ou(x:aO):Bool:=([x.slow].all (dJ 1 16))
theorem Uf(x:aO)(w:World):CU 61 #[x.val] w (.bool (ou x)):=by
 obtain⟨y0,dV,aV,Hf,jH,qU,kk⟩:=gJ w 46 #[.string x.a,.string x.b,.int .i64 x.net,.int .i64 x.slow];obtain⟨k0,k1,k2,k3⟩:=aO.kl kk;have HF:=lz (show ou x=(([x.slow].all (dJ 1 16)))from rfl);clear kk;go_enter Tryz.func61,Tryz.ntmps61;go_wp2_with fail;rw[←dV.out];have hc:=lz (dG 1 16 (x.slow) y0);generalize ([x.slow].all (dJ 1 16))=q1 at hc HF;rw[←qU.out];refine bZ hc jH fun y1 fI=> ?_
 clear hc;clear k0 k1 k2 k3;obtain⟨k0,k1,k2,k3⟩:=aO.kl (Hf.out _ fI.out);exact e1
def rC(x:jI):Bool:=(decide (x.code≤255))
theorem WQ(x:jI)(w:World):CU 62 #[x.val] w (.bool (rC x)):=by
 obtain⟨y0,dV,aV,Hf,jH,qU,kk⟩:=gJ w 85 #[.string x.unit,.int .i64 x.code];obtain⟨k0,k1⟩:=jI.kl kk;have HF:=lz (show rC x=((decide (x.code≤255)))from rfl);clear kk;go_enter Tryz.func62,Tryz.ntmps62
 cases a1:decide (x.code≤255)with
 | false=>
  rw[a1]at HF;exact e0
 | true=>
  rw[a1]at HF;exact e0
def D9(x:aM):Bool:=(x.kd==2||(x.out==(x.rf==0)))&&((x.kd==1|| [x.dp].all (dJ 1 16))&& [x.sz].all (dJ 1 64))
theorem Ug(x:aM)(w:World)(hr:x.rd w w.heap.size):CU 52 #[x.val] w (.bool (D9 x)):=by
 obtain⟨y0,dV,aV,Hf,jH,qU,kk⟩:=gJ w 73 #[.string x.nm,.int .u8 x.kd,.bool x.out,.int .i64 x.sz,.int .i64 x.dp,.int .i64 x.rf];obtain⟨k0,k1,k2,k3,k4,k5⟩:=aM.kl kk;have HF:=lz (show D9 x=((x.kd==2||(x.out==(x.rf==0)))&&((x.kd==1|| [x.dp].all (dJ 1 16))&& [x.sz].all (dJ 1 64)))from rfl);have HR:=lz hr;clear kk hr;go_enter Tryz.func52,Tryz.ntmps52
 cases a1:(x.kd==2)with
 | false=>
  rw[a1]at HF
  cases a2:(x.rf==0)with
  | false=>
   rw[a2]at HF
   cases a3:x.out with
   | false=>
    rw[a3]at HF;rw[a3]at dV k0 k1 k2 k3 k4 k5
    cases a4:(x.kd==1)with
    | false=>
     rw[a4]at HF;go_wp2_with fail;rw[←dV.out];have hc:=lz (dG 1 16 (x.dp) y0);generalize ([x.dp].all (dJ 1 16))=q5 at hc HF;rw[←qU.out];refine bZ hc jH fun y1 fI=> ?_
     clear hc;clear k0 k1 k2 k3 k4 k5;obtain⟨k0,k1,k2,k3,k4,k5⟩:=aM.kl (Hf.out _ fI.out)
     cases q5 with
     | false=>exact e1
     | true=>
      go_wp2_with fail;have hc:=lz (dG 1 64 (x.sz) y1);generalize ([x.sz].all (dJ 1 64))=q6 at hc HF;refine bZ hc fI fun y2 iF=> ?_
      clear hc;clear k0 k1 k2 k3 k4 k5;obtain⟨k0,k1,k2,k3,k4,k5⟩:=aM.kl (Hf.out _ iF.out);exact e2
    | true=>
     rw[a4]at HF;go_wp2_with fail;rw[←dV.out];have hc:=lz (dG 1 64 (x.sz) y0);generalize ([x.sz].all (dJ 1 64))=q7 at hc HF;rw[←qU.out];refine bZ hc jH fun y1 fI=> ?_
     clear hc;clear k0 k1 k2 k3 k4 k5;obtain⟨k0,k1,k2,k3,k4,k5⟩:=aM.kl (Hf.out _ fI.out);exact e1
   | true=>
    rw[a3]at HF;rw[a3]at dV k0 k1 k2 k3 k4 k5
    cases a8:(x.kd==1)with
    | false=>
     rw[a8]at HF;go_wp2_with fail;rw[←dV.out];have hc:=lz (dG 1 16 (x.dp) y0);generalize ([x.dp].all (dJ 1 16))=q9 at hc HF;rw[←qU.out];refine bZ hc jH fun y1 fI=> ?_
     clear hc;clear k0 k1 k2 k3 k4 k5;obtain⟨k0,k1,k2,k3,k4,k5⟩:=aM.kl (Hf.out _ fI.out)
     cases q9 with
     | false=>exact e1
     | true=>exact e1
    | true=>
     rw[a8]at HF;exact e0
  | true=>
   rw[a2]at HF
   cases Qf:x.out with
   | false=>
    rw[Qf]at HF;rw[Qf]at dV k0 k1 k2 k3 k4 k5
    cases a11:(x.kd==1)with
    | false=>
     rw[a11]at HF;go_wp2_with fail;rw[←dV.out];have hc:=lz (dG 1 16 (x.dp) y0);generalize ([x.dp].all (dJ 1 16))=q12 at hc HF;rw[←qU.out];refine bZ hc jH fun y1 fI=> ?_
     clear hc;clear k0 k1 k2 k3 k4 k5;obtain⟨k0,k1,k2,k3,k4,k5⟩:=aM.kl (Hf.out _ fI.out)
     cases q12 with
     | false=>exact e1
     | true=>exact e1
    | true=>
     rw[a11]at HF;exact e0
   | true=>
    rw[Qf]at HF;rw[Qf]at dV k0 k1 k2 k3 k4 k5
    cases a13:(x.kd==1)with
    | false=>
     rw[a13]at HF;go_wp2_with fail;rw[←dV.out];have hc:=lz (dG 1 16 (x.dp) y0);generalize ([x.dp].all (dJ 1 16))=q14 at hc HF;rw[←qU.out];refine bZ hc jH fun y1 fI=> ?_
     clear hc;clear k0 k1 k2 k3 k4 k5;obtain⟨k0,k1,k2,k3,k4,k5⟩:=aM.kl (Hf.out _ fI.out)
     cases q14 with
     | false=>exact e1
     | true=>
      go_wp2_with fail;have hc:=lz (dG 1 64 (x.sz) y1);generalize ([x.sz].all (dJ 1 64))=q15 at hc HF;refine bZ hc fI fun y2 iF=> ?_
      clear hc;clear k0 k1 k2 k3 k4 k5;obtain⟨k0,k1,k2,k3,k4,k5⟩:=aM.kl (Hf.out _ iF.out);exact e2
    | true=>
     rw[a13]at HF;go_wp2_with fail;rw[←dV.out];have hc:=lz (dG 1 64 (x.sz) y0);generalize ([x.sz].all (dJ 1 64))=q16 at hc HF;rw[←qU.out];refine bZ hc jH fun y1 fI=> ?_
     clear hc;clear k0 k1 k2 k3 k4 k5;obtain⟨k0,k1,k2,k3,k4,k5⟩:=aM.kl (Hf.out _ fI.out);exact e1
 | true=>
  rw[a1]at HF;have HK2:=a1;have Cq:(x.kd==1)=false:=by have:=eq_of_beq HK2;rw[this];rfl
  rw[Cq]at HF;go_wp2_with fail;rw[←dV.out];have hc:=lz (dG 1 16 (x.dp) y0);generalize ([x.dp].all (dJ 1 16))=q17 at hc HF;rw[←qU.out];refine bZ hc jH fun y1 fI=> ?_
  clear hc;clear k0 k1 k2 k3 k4 k5;obtain⟨k0,k1,k2,k3,k4,k5⟩:=aM.kl (Hf.out _ fI.out)
  cases q17 with
  | false=>exact e1
  | true=>
   go_wp2_with fail;have hc:=lz (dG 1 64 (x.sz) y1);generalize ([x.sz].all (dJ 1 64))=q18 at hc HF;refine bZ hc fI fun y2 iF=> ?_
   clear hc;clear k0 k1 k2 k3 k4 k5;obtain⟨k0,k1,k2,k3,k4,k5⟩:=aM.kl (Hf.out _ iF.out);exact e2
def kP(x:aC):Bool:=([(x.aG.l.length:Int),(x.aX.l.length:Int),x.ev,x.bo].all (dJ 0 8))&&((x.aG.l.all (dJ 0 255))&&(x.aX.l.all (dJ 1 16))&&(decide ((x.procs.l.length:Int)≤6))&&(decide ((x.aq.l.length:Int)≤8)))&&(decide (x.mem≤4096))&&([x.pe,x.le].all (dJ 1 2000))&&(x.aq.l.all D9)&&(x.procs.l.all IL)
theorem Uh(x:aC)(Bp Bq:Nat)(w:World)(hr:x.rd w w.heap.size)(Ea:ah w Bp 133 #[.func (.func 52) #[] #[]])(hBq:ah w Bq 134 #[.func (.func 54) #[] #[]]):CU 55 #[x.val,.pointer (some ⟨Bp,0,none⟩),.pointer (some ⟨Bq,0,none⟩)] w (.bool (kP x)):=by
 obtain⟨y0,dV,aV,Hf,jH,qU,kk⟩:=gJ w 71 #[.string x.nm,.int .i64 x.pe,.int .i64 x.le,.int .i64 x.mem,.slice x.aG.a x.aG.l.length x.aG.c,.int .i64 x.ev,.int .i64 x.bo,.slice x.aX.a x.aX.l.length x.aX.c,.slice x.aq.a x.aq.l.length x.aq.c,.slice x.procs.a x.procs.l.length x.procs.c];obtain⟨k0,k1,k2,k3,k4,k5,k6,k7,k8,k9⟩:=aC.kl kk;have Kx:=xX dV aV Ea;have lZ:=(Ea.alloc (.cells #[.string x.nm,.int .i64 x.pe,.int .i64 x.le,.int .i64 x.mem,.slice x.aG.a x.aG.l.length x.aG.c,.int .i64 x.ev,.int .i64 x.bo,.slice x.aX.a x.aX.l.length x.aX.c,.slice x.aq.a x.aq.l.length x.aq.c,.slice x.procs.a x.procs.l.length x.procs.c] 71)).cell 0;have aNx:=Ea.lt;have Nu:=xX dV aV hBq;have mO:=(hBq.alloc (.cells #[.string x.nm,.int .i64 x.pe,.int .i64 x.le,.int .i64 x.mem,.slice x.aG.a x.aG.l.length x.aG.c,.int .i64 x.ev,.int .i64 x.bo,.slice x.aX.a x.aX.l.length x.aX.c,.slice x.aq.a x.aq.l.length x.aq.c,.slice x.procs.a x.procs.l.length x.procs.c] 71)).cell 0;have aUT:=hBq.lt;have HF:=lz (show kP x=(([(x.aG.l.length:Int),(x.aX.l.length:Int),x.ev,x.bo].all (dJ 0 8))&&((x.aG.l.all (dJ 0 255))&&(x.aX.l.all (dJ 1 16))&&(decide ((x.procs.l.length:Int)≤6))&&(decide ((x.aq.l.length:Int)≤8)))&&(decide (x.mem≤4096))&&([x.pe,x.le].all (dJ 1 2000))&&(x.aq.l.all D9)&&(x.procs.l.all IL))from rfl);have HR:=lz hr;clear kk hr Ea hBq;go_enter Tryz.func55,Tryz.ntmps55;go_wp2_with fail;rw[←dV.out];have hc:=lz (Nt 0 8 ((x.aG.l.length:Int)) ((x.aX.l.length:Int)) (x.ev) (x.bo) y0);generalize ([(x.aG.l.length:Int),(x.aX.l.length:Int),x.ev,x.bo].all (dJ 0 8))=q1 at hc HF;rw[←qU.out];refine bZ hc jH fun y1 fI=> ?_
 clear hc;clear k0 k1 k2 k3 k4 k5 k6 k7 k8 k9 lZ mO;obtain⟨k0,k1,k2,k3,k4,k5,k6,k7,k8,k9⟩:=aC.kl (Hf.out _ fI.out);have lZ:=(Kx.out _ fI.out).cell 0;have mO:=(Nu.out _ fI.out).cell 0
 cases q1 with
 | false=>
  go_wp2_with fail;have hc:=lz (lY 0 255 x.aG.l x.aG.a x.aG.c y1 ((HR.out.below (bt aV fI)).aG) (nT HR.out.Ks (nT HR.out.Kt dz)));generalize (x.aG.l.all (dJ 0 255))=q2 at hc HF;refine bZ hc fI fun y2 iF=> ?_
  clear hc;clear k0 k1 k2 k3 k4 k5 k6 k7 k8 k9 lZ mO;obtain⟨k0,k1,k2,k3,k4,k5,k6,k7,k8,k9⟩:=aC.kl (Hf.out _ iF.out);have lZ:=(Kx.out _ iF.out).cell 0;have mO:=(Nu.out _ iF.out).cell 0
  cases q2 with
  | false=>exact e2
  | true=>
   go_wp2_with fail;have hc:=lz (lY 1 16 x.aX.l x.aX.a x.aX.c y2 ((HR.out.below (bt aV iF)).aX) (nT HR.out.R7 (nT HR.out.R8 dz)));generalize (x.aX.l.all (dJ 1 16))=q3 at hc HF;refine bZ hc iF fun y3 pz=> ?_
   clear hc;clear k0 k1 k2 k3 k4 k5 k6 k7 k8 k9 lZ mO;obtain⟨k0,k1,k2,k3,k4,k5,k6,k7,k8,k9⟩:=aC.kl (Hf.out _ pz.out);have lZ:=(Kx.out _ pz.out).cell 0;have mO:=(Nu.out _ pz.out).cell 0
   cases q3 with
   | false=>exact e3
   | true=>
    cases a4:decide ((x.procs.l.length:Int)≤6)with
    | false=>
     rw[a4]at HF;have a42:decide (x.procs.l.length≤6)=false:=by have:=of_decide_eq_false a4;exact dF oz
     exact e3
    | true=>
     rw[a4]at HF;have a42:decide (x.procs.l.length≤6)=true:=by have:=of_decide_eq_true a4;exact dT oz
     cases a5:decide ((x.aq.l.length:Int)≤8)with
     | false=>
      rw[a5]at HF;have a52:decide (x.aq.l.length≤8)=false:=by have:=of_decide_eq_false a5;exact dF oz
      exact e3
     | true=>
      rw[a5]at HF;have a52:decide (x.aq.l.length≤8)=true:=by have:=of_decide_eq_true a5;exact dT oz
      exact e3
 | true=>
  go_wp2_with fail;have hc:=lz (lY 0 255 x.aG.l x.aG.a x.aG.c y1 ((HR.out.below (bt aV fI)).aG) (nT HR.out.Ks (nT HR.out.Kt dz)));generalize (x.aG.l.all (dJ 0 255))=q6 at hc HF;refine bZ hc fI fun y2 iF=> ?_
  clear hc;clear k0 k1 k2 k3 k4 k5 k6 k7 k8 k9 lZ mO;obtain⟨k0,k1,k2,k3,k4,k5,k6,k7,k8,k9⟩:=aC.kl (Hf.out _ iF.out);have lZ:=(Kx.out _ iF.out).cell 0;have mO:=(Nu.out _ iF.out).cell 0
  cases q6 with
  | false=>exact e2
  | true=>
   go_wp2_with fail;have hc:=lz (lY 1 16 x.aX.l x.aX.a x.aX.c y2 ((HR.out.below (bt aV iF)).aX) (nT HR.out.R7 (nT HR.out.R8 dz)));generalize (x.aX.l.all (dJ 1 16))=q7 at hc HF;refine bZ hc iF fun y3 pz=> ?_
   clear hc;clear k0 k1 k2 k3 k4 k5 k6 k7 k8 k9 lZ mO;obtain⟨k0,k1,k2,k3,k4,k5,k6,k7,k8,k9⟩:=aC.kl (Hf.out _ pz.out);have lZ:=(Kx.out _ pz.out).cell 0;have mO:=(Nu.out _ pz.out).cell 0
   cases q7 with
   | false=>exact e3
   | true=>
    cases a8:decide ((x.procs.l.length:Int)≤6)with
    | false=>
     rw[a8]at HF;have a82:decide (x.procs.l.length≤6)=false:=by have:=of_decide_eq_false a8;exact dF oz
     exact e3
    | true=>
     rw[a8]at HF;have a82:decide (x.procs.l.length≤6)=true:=by have:=of_decide_eq_true a8;exact dT oz
     cases a9:decide ((x.aq.l.length:Int)≤8)with
     | false=>
      rw[a9]at HF;have a92:decide (x.aq.l.length≤8)=false:=by have:=of_decide_eq_false a9;exact dF oz
      exact e3
     | true=>
      rw[a9]at HF;have a92:decide (x.aq.l.length≤8)=true:=by have:=of_decide_eq_true a9;exact dT oz
      cases Qf:decide (x.mem≤4096)with
      | false=>
       rw[Qf]at HF;exact e3
      | true=>
       rw[Qf]at HF;go_wp2_with fail;have hc:=lz (AY 1 2000 (x.pe) (x.le) y3);generalize ([x.pe,x.le].all (dJ 1 2000))=q11 at hc HF;refine bZ hc pz fun y4 Fy=> ?_
       clear hc;clear k0 k1 k2 k3 k4 k5 k6 k7 k8 k9 lZ mO;obtain⟨k0,k1,k2,k3,k4,k5,k6,k7,k8,k9⟩:=aC.kl (Hf.out _ Fy.out);have lZ:=(Kx.out _ Fy.out).cell 0;have mO:=(Nu.out _ Fy.out).cell 0
       cases q11 with
       | false=>exact e4
       | true=>
        go_wp2_with fail;have hc:=lz (Tx 52 #[] D9 (enters_of Tryz.func52 kz rfl) x.aq.l x.aq.a x.aq.c y4 (fun W r hx hW fK=>by simpa using Ug r W fK) ((HR.out.below (bt aV Fy)).aq) (nT HR.out.DX (nT HR.out.DY dz)));generalize (x.aq.l.all D9)=q12 at hc HF;refine bZ hc Fy fun y5 Md=> ?_
        clear hc;clear k0 k1 k2 k3 k4 k5 k6 k7 k8 k9 lZ mO;obtain⟨k0,k1,k2,k3,k4,k5,k6,k7,k8,k9⟩:=aC.kl (Hf.out _ Md.out);have lZ:=(Kx.out _ Md.out).cell 0;have mO:=(Nu.out _ Md.out).cell 0
        cases q12 with
        | false=>exact e5
        | true=>
         go_wp2_with fail;have hc:=lz (Iy 54 #[] IL (enters_of Tryz.func54 kz rfl) x.procs.l x.procs.a x.procs.c y5 (fun W r hx hW fK=>by simpa using Ue r W fK) ((HR.out.below (bt aV Md)).procs) (nT HR.out.zG (nT HR.out.zH dz)));generalize (x.procs.l.all IL)=q13 at hc HF;refine bZ hc Md fun y6 WD=> ?_
         clear hc;clear k0 k1 k2 k3 k4 k5 k6 k7 k8 k9 lZ mO;obtain⟨k0,k1,k2,k3,k4,k5,k6,k7,k8,k9⟩:=aC.kl (Hf.out _ WD.out);have lZ:=(Kx.out _ WD.out).cell 0;have mO:=(Nu.out _ WD.out).cell 0;exact e6
def mZ(x:bT):Bool:=(decide (x.mem≤4096))&&([x.fr].all (dJ 1 2000))&&(decide ((x.parts.l.length:Int)≤6))&&(x.parts.l.all kP)
theorem WR(x:bT)(Bp Bq Ba:Nat)(w:World)(hr:x.rd w w.heap.size)(hBa:ah w Ba 137 #[.func (.func 55) #[] #[.pointer (some ⟨Bp,0,none⟩),.pointer (some ⟨Bq,0,none⟩)]])(hp:∀W,Below w.heap.size w W→ah W Bp 133 #[.func (.func 52) #[] #[]])(hq:∀W,Below w.heap.size w W→ah W Bq 134 #[.func (.func 54) #[] #[]]):CU 58 #[x.val,.pointer (some ⟨Ba,0,none⟩)] w (.bool (mZ x)):=by
 obtain⟨y0,dV,aV,Hf,jH,qU,kk⟩:=gJ w 67 #[.string x.nm,.int .i64 x.mem,.int .i64 x.fr,.slice x.parts.a x.parts.l.length x.parts.c];obtain⟨k0,k1,k2,k3⟩:=bT.kl kk;have aIc:=xX dV aV hBa;have Sc:=(hBa.alloc (.cells #[.string x.nm,.int .i64 x.mem,.int .i64 x.fr,.slice x.parts.a x.parts.l.length x.parts.c] 67)).cell 0;have aUY:=hBa.lt;have HF:=lz (show mZ x=((decide (x.mem≤4096))&&([x.fr].all (dJ 1 2000))&&(decide ((x.parts.l.length:Int)≤6))&&(x.parts.l.all kP))from rfl);have HR:=lz hr;have HP:=lz hp;have HQ:=lz hq;clear kk hr hp hq hBa;go_enter Tryz.func58,Tryz.ntmps58
 cases a1:decide (x.mem≤4096)with
 | false=>
  rw[a1]at HF;exact e0
 | true=>
  rw[a1]at HF;go_wp2_with fail;rw[←dV.out];have hc:=lz (dG 1 2000 (x.fr) y0);generalize ([x.fr].all (dJ 1 2000))=q2 at hc HF;rw[←qU.out];refine bZ hc jH fun y1 fI=> ?_
  clear hc;clear k0 k1 k2 k3 Sc;obtain⟨k0,k1,k2,k3⟩:=bT.kl (Hf.out _ fI.out);have Sc:=(aIc.out _ fI.out).cell 0
  cases q2 with
  | false=>exact e1
  | true=>
   cases a3:decide ((x.parts.l.length:Int)≤6)with
   | false=>
    rw[a3]at HF;have a32:decide (x.parts.l.length≤6)=false:=by have:=of_decide_eq_false a3;exact dF oz
    exact e1
   | true=>
    rw[a3]at HF;have a32:decide (x.parts.l.length≤6)=true:=by have:=of_decide_eq_true a3;exact dT oz
    go_wp2_with fail;have hc:=lz (Tz 55 #[.pointer (some ⟨Bp,0,none⟩),.pointer (some ⟨Bq,0,none⟩)] kP (enters_of Tryz.func55 kz rfl) x.parts.l x.parts.a x.parts.c y1 (fun W r hx hW fK=>by simpa using Uh r Bp Bq W fK (HP.out W ((bt aV fI).trans (hW.mono (bt aV fI).size))) (HQ.out W ((bt aV fI).trans (hW.mono (bt aV fI).size)))) ((HR.out.below (bt aV fI)).parts) (nT HR.out.zI (nT HR.out.zJ dz)));generalize (x.parts.l.all kP)=q4 at hc HF;refine bZ hc fI fun y2 iF=> ?_
    clear hc;clear k0 k1 k2 k3 Sc;obtain⟨k0,k1,k2,k3⟩:=bT.kl (Hf.out _ iF.out);have Sc:=(aIc.out _ iF.out).cell 0;exact e2
abbrev aC.cl(p:aC):Array Value:= #[.string p.nm,.int .i64 p.pe,.int .i64 p.le,.int .i64 p.mem,.slice p.aG.a p.aG.l.length p.aG.c,.int .i64 p.ev,.int .i64 p.bo,.slice p.aX.a p.aX.l.length p.aX.c,.slice p.aq.a p.aq.l.length p.aq.c,.slice p.procs.a p.procs.l.length p.procs.c]
abbrev aC.bk(p:aC)(W:World)(g:Nat):Prop:=ah W g 71 p.cl
abbrev gu.bk(x:gu)(W:World)(g:Nat):Prop:=ah W g 169 #[.int .u8 x.op,.int .i64 x.a,.int .i64 x.b,.int .i64 x.d]
theorem WS(n v:Int)(g:Nat)(w:World)(h:w.cell? ⟨g,0,none⟩=some (.int .i64 n)):
 CU 164 #[.int .i64 v,.pointer (some ⟨g,0,none⟩)] w (.bool (decide (v<n))):=by
 go_enter Tryz.func164,Tryz.ntmps164;go_wp2;go_ret;exact⟨rfl,Below.refl _ _⟩
theorem ng(n:Int)(w:World):
 Calls pG 163 #[.int .i64 n] w fun e w'=>e= .returned (.func (.func 164) #[] #[.pointer (some ⟨w.heap.size,0,none⟩)])∧w'=w.alloc (.cells #[.int .i64 n] 3):=by
 go_enter Tryz.func163,Tryz.ntmps163;go_wp2;go_ret;exact⟨rfl,rfl⟩
theorem Sd(o:Bool)(g:Nat)(w:World):
 Calls pG 161 #[.bool o,.pointer (some ⟨g,0,none⟩)] w fun e w'=>e= .returned (.func (.func 162) #[] #[.pointer (some ⟨g,0,none⟩),.pointer (some ⟨w.heap.size,0,none⟩)])∧w'=w.alloc (.cells #[.bool o] 4):=by
 go_enter Tryz.func161,Tryz.ntmps161;go_wp2;go_ret;exact⟨rfl,rfl⟩
theorem aEq(v:Int)(w:World):
 CU 165 #[.int .i64 v] w (.bool (dJ 1 2000 v)):=by
 have hc:=dG 1 2000 v w;rw[show([v].all (dJ 1 2000))=dJ 1 2000 v by simp]at hc;generalize dJ 1 2000 v=q at *;have Hc:=lz hc;clear hc;go_enter Tryz.func165,Tryz.ntmps165;go_wp2_with fail;refine Hc.out.mono ?_;rintro e w1 ⟨rfl,hb⟩;have HB:=lz hb;clear hb Hc;go_wp2;go_ret;exact⟨rfl,HB.out⟩
def tj(p:aC)(o:Bool)(v:Int):Bool:=match p.aq.l[v.toNat]? with | some q=>q.out==o | none=>false
theorem aBR(p:aC)(o:Bool)(k:Nat)(g gb:Nat)(w:World)(hb:p.bk w g)(ho:w.cell? ⟨gb,0,none⟩=some (.bool o))(hr:fu w w.heap.size p.aq.a p.aq.l):
 CU 162 #[.int .i64 (k:Int),.pointer (some ⟨g,0,none⟩),.pointer (some ⟨gb,0,none⟩)] w (.bool (tj p o k)):=by
 have wu:=hb.lt;have aUZ:gb<w.heap.size:=World.block_lt_of_cell? w _ ho;have k8:w.cell? ⟨g,8,none⟩=some (.slice p.aq.a p.aq.l.length p.aq.c):=hb.cell 8;obtain⟨ps,BX⟩:=ez p.aq;have HF:=lz (show tj p o k=match ps.l[k]? with | some q=>q.out==o | none=>false by rw[BX];rfl);rw[←BX]at k8 hr;by_cases hlt:k<ps.l.length
 ·obtain⟨b,oo,ha,hb',hc⟩:=hr oz
  have gH:=hc k hlt;have HF2:=lz (show tj p o k=(ps.l[k].out==o)by rw[HF.out,List.getElem?_eq_getElem hlt]);generalize ps.l[k]=r at *;obtain⟨c0,c1,c2,c3,c4,c5,_⟩:=gH;have e1:decide (k<ps.l.length)=true:=dT hlt;have e2:decide ((k:Int)<(ps.l.length:Int))=true:=dT oz;rw[ha]at k8;clear hb hc hr ha BX HF;go_enter Tryz.func162,Tryz.ntmps162;go_wp2_with fail;have iR:=bn w;refine aB kz kz ?_;repeat (go_big_quiet_step (fail))
  refine wpQuiet_nil ?_;intro _ hw';obtain⟨xx,hw''⟩:=hw';subst hw'';have qB:=lz xx.h;generalize xx.w=W2 at *;go_wp2;go_ret;exact⟨by rw[HF2.out];rfl,qB.out⟩
 ·have e1:decide (k<ps.l.length)=false:=dF hlt
  have e2:decide ((k:Int)<(ps.l.length:Int))=false:=dF oz;have HF2:=lz (show tj p o k=false by rw[HF.out,List.getElem?_eq_none oz]);clear hb hr BX HF;go_enter Tryz.func162,Tryz.ntmps162;go_wp2_with fail;have iR:=bn w;refine aB kz kz ?_;repeat (go_big_quiet_step (fail))
  refine wpQuiet_nil ?_;intro _ hw';obtain⟨xx,hw''⟩:=hw';subst hw'';have qB:=lz xx.h;generalize xx.w=W2 at *;go_wp2;go_ret;exact⟨by rw[HF2.out];rfl,qB.out⟩
def lOk(p:aC)(a v:Int):Bool:=match p.aq.l[a.toNat]? with | some q=>dJ 1 q.sz v | none=>false
theorem aEr(p:aC)(x:gu)(k:Nat)(hx:x.a=k)(v:Int)(g gp:Nat)(w:World)(gP:x.bk w g)(hb:p.bk w gp)(hr:fu w w.heap.size p.aq.a p.aq.l):
 CU 166 #[.int .i64 v,.pointer (some ⟨g,0,none⟩),.pointer (some ⟨gp,0,none⟩)] w (.bool (lOk p k v)):=by
 have k8:w.cell? ⟨gp,8,none⟩=some (.slice p.aq.a p.aq.l.length p.aq.c):=hb.cell 8;have k1:w.cell? ⟨g,1,none⟩=some (.int .i64 (k:Int)):=hx▸gP.cell 1;obtain⟨ps,BX⟩:=ez p.aq;have HF:=lz (show lOk p k v=match ps.l[k]? with | some q=>dJ 1 q.sz v | none=>false by rw[BX];rfl);rw[←BX]at k8 hr;by_cases hlt:k<ps.l.length
 ·obtain⟨b,oo,ha,hb',hc⟩:=hr oz
  have gH:=hc k hlt;have HF2:=lz (show lOk p k v=dJ 1 ps.l[k].sz v by rw[HF.out,List.getElem?_eq_getElem hlt]);generalize ps.l[k]=r at *;obtain⟨c0,c1,c2,c3,c4,c5,_⟩:=gH;have e1:decide (k<ps.l.length)=true:=dT hlt;have e2:decide ((k:Int)<(ps.l.length:Int))=true:=dT oz;rw[ha]at k8;have au:=dG 1 r.sz v w;rw[show([v].all (dJ 1 r.sz))=dJ 1 r.sz v by simp,←HF2.out]at au;have Hc:=lz au;clear hb gP hx hc hr ha BX HF au HF2;go_enter Tryz.func166,Tryz.ntmps166;go_wp2_with fail;refine Hc.out.mono ?_;rintro e w1 ⟨rfl,hb⟩;have HB:=lz hb;clear hb Hc;go_wp2;go_ret;exact⟨rfl,HB.out⟩
 ·have e1:decide (k<ps.l.length)=false:=dF hlt
  have e2:decide ((k:Int)<(ps.l.length:Int))=false:=dF oz;have HF2:=lz (show lOk p k v=false by rw[HF.out,List.getElem?_eq_none oz]);clear hb gP hx hr BX HF;go_enter Tryz.func166,Tryz.ntmps166;go_wp2;go_ret;exact⟨by rw[HF2.out];rfl,Below.refl _ _⟩
def AZ(v:Value):Option (DataW Value×List MemPlace):=some (.held v,[])
theorem aEs:Maps.Keyed pG 21:=Maps.int_keyed (q:= .i32) kz
theorem aDX:pG.underlying 214=some (.map 21 206):=by kernel_rfl
abbrev kI(n:Int):Lit:= .int .i32 n
theorem WT(n:Int)(h:(kI n).wf=true):keyOf pG 21 (.int .i32 n)=some (kI n):=Maps.keyOf_int_mk kz h
def j4(w:World)(b n:Nat)(D:DataW Value):Prop:=w.ownsMap pG 21 AZ b n D∧Maps.IsMap D
theorem j4.made(w:World):j4 (w.alloc (.map #[] 0)) w.heap.size 0 (.map []):=⟨World.ownsMap_made _ _ _ _,Maps.isMap_empty⟩
theorem j4.lt{w:World}{b n:Nat}{D:DataW Value}(h:j4 w b n D):b<w.heap.size:=h.1.lt
theorem j4.kept{w w':World}{b n:Nat}{D:DataW Value}{row:Option Nat}(h:j4 w b n D)(hg:w.grownBy w' row)(hne:some b≠row):j4 w' b n D:=⟨h.1.kept hg hne,h.2⟩
theorem j4.put{w:World}{b n:Nat}{D:DataW Value}(h:j4 w b n D)(hn:n<maxLen)(k:Int)(hk:(kI k).wf=true)(v:Value):
 ∃w',(Instr.mapUpdate 214 (.map (some b)) (.int .i32 k) v).run pG w= .ok () w'∧j4 w' b (n+1) (D.put (kI k) (.held v))∧w.grownBy w' (some b):=by
 obtain⟨w',h1,h2,h3⟩:=h.1.update aEs aDX hn (WT k hk) (show AZ v=some (.held v,[])from rfl);exact⟨w',h1,⟨h2,h.2.put _ _⟩,h3⟩
abbrev ni:DataW Value:= .held Value.nilFunc
theorem j4.look{w:World}{b n:Nat}{D:DataW Value}(h:j4 w b n D)(k:Int)(hk:(kI k).wf=true){v:Value}(hv:D.atKey (kI k) ni= .held v):
 (Instr.lookup 214 (.map (some b)) (.int .i32 k) false).run pG w= .ok v w:=by
 obtain⟨v',ps,h1,h2⟩:=h.1.lookup aEs aDX (z:=Value.nilFunc) kz (show AZ Value.nilFunc=some (ni,[])from rfl) (WT k hk);rw[hv]at h2
 cases h2
 exact h1
theorem aBS{D:DataW Value}(h:Maps.IsMap D)(k:Int)(hk:(kI k).wf=true)(v:Value):(D.put (kI k) (.held v)).atKey (kI k) ni= .held v:=
 Maps.atKey_put_same h (aEs.key (WT k hk)) _ _
theorem WU{D:DataW Value}{k j:Int}(hn:j≠k)(v:Value):(D.put (kI k) (.held v)).atKey (kI j) ni=D.atKey (kI j) ni:=
 Maps.atKey_put_other (fun e=>hn (by injection e)) _ _
structure aI where
 f:Nat
 t:Nat
 l:Nat
deriving DecidableEq
structure aQ where
 d:List Int
 p:List aI
 q:List Nat
def aI.less(e o:aI):Bool:=decide (e.f<o.f)||(e.f==o.f&&decide (e.l<o.l))
def aQ.at(s:aQ)(n:Nat):Int:=s.d.getD n (-1)
def aI.zero:aI:=⟨0,0,0⟩
def aQ.relax(k:Int)(s:aQ)(e:aI):aQ:=
 if s.at e.t<0 then⟨s.d.set e.t (k+1),s.p.set e.t e,s.q++ [e.t]⟩
 else if s.at e.t≠k+1∨e.less (s.p.getD e.t aI.zero)=false then s
 else⟨s.d,s.p.set e.t e,s.q⟩
def Ph(E:List aI)(n:Nat):List aI:=E.filter fun e=>e.f==n
def aQ.step(E:List aI)(n:Nat)(s:aQ):aQ:=(Ph E n).foldl (aQ.relax (s.at n)) s
def aQ.run(E:List aI):Nat→aQ→aQ
 | 0,s=>s
 | k+1,s=>match s.q with
  | []=>s
  | n :: q=>aQ.run E k (aQ.step E n ⟨s.d,s.p,q⟩)
def aQ.init(N src:Nat):aQ:=⟨(List.replicate N (-1:Int)).set src 0,List.replicate N aI.zero,[src]⟩
def bfs(E:List aI)(N src:Nat):aQ:=aQ.run E (N+1) (aQ.init N src)
structure aQ.Ui(E:List aI)(N src n:Nat)(k:Int)(D:List aI)(s:aQ):Prop where
 len:s.d.length=N
 Gi:s.p.length=N
 k0:0≤k
 kn:s.at n=k
 low:∀x,-1≤s.at x
 q0:∀x∈s.q,0≤s.at x
 qk:∀x∈s.q,k≤s.at x
 qs:s.q.Pairwise fun x y=>s.at x≤s.at y
 top:∀y,s.at y≤k+1
 old:∀a,0≤s.at a→a∉s.q→a≠n→∀e∈E,e.f=a→0≤s.at e.t∧s.at e.t≤s.at a+1
 now:∀e∈D,0≤s.at e.t∧s.at e.t≤k+1
 pos:∀b,0<s.at b→∃e∈E,e.t=b∧0≤s.at e.f∧s.at b=s.at e.f+1∧s.p[b]?=some e
 zero:∀b,s.at b=0↔b=src
theorem gQ{α:Type}(l:List α)(i j:Nat)(x z:α)(h:i<l.length):(l.set i x).getD j z=if j=i then x else l.getD j z:=by
 simp only[List.getD_eq_getElem?_getD,List.getElem?_set];by_cases e:i=j
 ·subst e;simp[h]
 ·simp[e,Ne.symm e]
theorem aQ.zK{E:List aI}{N src n:Nat}{k:Int}{D:List aI}{s:aQ}{e:aI}(h:aQ.Ui E N src n k D s)(he:e∈E)(hf:e.f=n)(ht:e.t<N):
 aQ.Ui E N src n k (D++ [e]) (s.relax k e):=by
 have hl:=h.len;unfold aQ.relax;by_cases h1:s.at e.t<0
 ·rw[if_pos h1]
  have at':∀j,aQ.at ⟨s.d.set e.t (k+1),s.p.set e.t e,s.q++ [e.t]⟩ j=if j=e.t then k+1 else s.at j:=fun j=>gQ _ _ _ _ _ oz
  have Vt:=h.k0;have hnt:n≠e.t:=fun c=>by have:=h.kn;rw[c]at this;omega
  refine⟨by simpa using hl,by simpa using h.Gi,Vt,by rw[at',if_neg hnt];exact h.kn,fun x=> ?_,fun x hx=> ?_,fun x hx=> ?_,?_,fun y=> ?_,fun a ha hq hn e' jm PS=> ?_,fun e' jm=> ?_,fun b hb=> ?_,fun b=> ?_⟩
  ·rw[at'];split
   ·omega
   ·exact h.low x
  ·rw[at'];split
   ·omega
   ·rcases List.mem_append.1 hx with hx | hx
    ·exact h.q0 x hx
    ·simp at hx;contradiction
  ·rw[at'];split
   ·omega
   ·rcases List.mem_append.1 hx with hx | hx
    ·exact h.qk x hx
    ·simp at hx;contradiction
  ·rw[List.pairwise_append]
   refine⟨?_,qz,fun a ha b hb=> ?_⟩
   ·refine h.qs.imp_of_mem fun{a b} ha hb hab=> ?_
    rw[at',at'];have Pj:a≠e.t:=fun c=>by have:=h.q0 a ha;rw[c]at this;omega
    have uH:b≠e.t:=fun c=>by have:=h.q0 b hb;rw[c]at this;omega
    rw[if_neg Pj,if_neg uH];exact hab
   ·simp at hb;subst hb
    have Pj:a≠e.t:=fun c=>by have:=h.q0 a ha;rw[c]at this;omega
    rw[at',at',if_neg Pj,if_pos rfl];exact h.top a
  ·rw[at'];split
   ·omega
   ·exact h.top y
  ·have Pj:a≠e.t:=fun c=>hq (by simp[c])
   rw[at',if_neg Pj]at ha;have:=h.old a ha (fun c=>hq (List.mem_append_left _ c)) hn e' jm PS;rw[at',at',if_neg Pj];split
   ·rename_i c;rw[c]at this;omega
   ·exact this
  ·rw[at']
   split
   ·omega
   ·rename_i c
    rcases List.mem_append.1 jm with jm | jm
    ·exact h.now e' jm
    ·simp at jm;rw[jm]at c;exact absurd rfl c
  ·rw[at']at hb⊢
   by_cases c:b=e.t
   ·refine⟨e,he,c.symm,?_,?_,?_⟩
    ·rw[at',hf,if_neg hnt,h.kn];exact Vt
    ·rw[if_pos c,at',hf,if_neg hnt,h.kn]
    ·rw[c];simp[h.Gi,ht]
   ·rw[if_neg c]at hb⊢
    obtain⟨e',jm,Sg,PS,hd,hp⟩:=h.pos b hb;have hne:e'.f≠e.t:=fun x=>by rw[x]at PS;omega
    exact⟨e',jm,Sg,by rw[at',if_neg hne];exact PS,by rw[at',if_neg hne];exact hd,by
     show(s.p.set e.t e)[b]?=_;rw[List.getElem?_set_ne (Ne.symm c)];exact hp⟩
  ·rw[at']
   split
   ·rename_i c;subst c
    constructor
    ·intro;omega
    ·intro c;have:=(h.zero e.t).2 c;omega
   ·exact h.zero b
 ·rw[if_neg h1]
  have hD:∀e'∈D++ [e],0≤s.at e'.t∧s.at e'.t≤k+1:=fun e' jm=>by
   rcases List.mem_append.1 jm with jm | jm
   ·exact h.now e' jm
   ·simp at jm;subst jm;exact⟨oz,h.top _⟩
  split
  ·exact{h with now:=hD}
  ·rename_i h2
   have h3:s.at e.t=k+1:=Classical.byContradiction fun c=>h2 (.inl c)
   refine⟨hl,by simpa using h.Gi,h.k0,h.kn,h.low,h.q0,h.qk,h.qs,h.top,h.old,hD,fun b hb=> ?_,h.zero⟩;by_cases c:b=e.t
   ·refine⟨e,he,c.symm,?_,?_,?_⟩
    ·show 0≤s.at e.f;rw[hf,h.kn];exact h.k0
    ·show s.at b=s.at e.f+1;rw[hf,h.kn,c,h3]
    ·rw[c];simp[h.Gi,ht]
   ·obtain⟨e',jm,Sg,PS,hd,hp⟩:=h.pos b hb
    exact⟨e',jm,Sg,PS,hd,by show(s.p.set e.t e)[b]?=_;rw[List.getElem?_set_ne (Ne.symm c)];exact hp⟩
theorem aQ.xY{E:List aI}{N src n:Nat}{k:Int}:∀(L D:List aI) (s:aQ),aQ.Ui E N src n k D s→(∀e∈L,e∈E∧e.f=n∧e.t<N)→aQ.Ui E N src n k (D++L) (L.foldl (aQ.relax k) s)
 | [],D,s,h,_=>by simpa using h
 | e :: L,D,s,h,hL=>by
  have:=aQ.xY L (D++ [e]) (s.relax k e) (aQ.zK h (hL e qz).1 (hL e qz).2.1 (hL e qz).2.2) (fun e' jm=>hL e' (by simp[jm]));simpa using this
structure aQ.Inv(E:List aI)(N src:Nat)(s:aQ):Prop where
 len:s.d.length=N
 Gi:s.p.length=N
 low:∀x,-1≤s.at x
 q0:∀x∈s.q,0≤s.at x
 qs:s.q.Pairwise fun x y=>s.at x≤s.at y
 top:∀x∈s.q,∀y,s.at y≤s.at x+1
 old:∀a,0≤s.at a→a∉s.q→∀e∈E,e.f=a→0≤s.at e.t∧s.at e.t≤s.at a+1
 pos:∀b,0<s.at b→∃e∈E,e.t=b∧0≤s.at e.f∧s.at b=s.at e.f+1∧s.p[b]?=some e
 zero:∀b,s.at b=0↔b=src
theorem aQ.Eb{E:List aI}{N src n:Nat}{d:List Int}{p:List aI}{q:List Nat}(hE:∀e∈E,e.t<N)(h:aQ.Inv E N src ⟨d,p,n :: q⟩):aQ.Inv E N src (aQ.step E n ⟨d,p,q⟩):=by
 have hk:=h.q0 n qz;have hat:∀x,aQ.at ⟨d,p,n :: q⟩ x=aQ.at ⟨d,p,q⟩ x:=fun _=>rfl
 have Vu:=List.pairwise_cons.1 h.qs;have m0:aQ.Ui E N src n (aQ.at ⟨d,p,q⟩ n) [] ⟨d,p,q⟩:=
  ⟨h.len,h.Gi,hk,rfl,h.low,fun x hx=>h.q0 x (by simp[hx]),fun x hx=>Vu.1 x hx,Vu.2,fun y=>h.top n qz y,
   fun a ha hq hn e he hf=>h.old a ha (fun c=>by rcases List.mem_cons.1 c with c | c;exact hn c;exact hq c) e he hf,(fun e he=>by cases he),h.pos,h.zero⟩
 have m1:=aQ.xY (Ph E n) [] _ m0 (fun e he=>by
  have:=List.mem_filter.1 he;exact⟨this.1,by simpa using this.2,hE e this.1⟩)
 simp only[List.nil_append]at m1;refine⟨m1.len,m1.Gi,m1.low,m1.q0,m1.qs,fun x hx y=> ?_,fun a ha hq e he hf=> ?_,m1.pos,m1.zero⟩
 ·have:=m1.qk x hx;have:=m1.top y
  show aQ.at (List.foldl _ _ _) y≤aQ.at (List.foldl _ _ _) x+1;omega
 ·by_cases c:a=n
  ·have:=m1.now e (List.mem_filter.2 ⟨he,by simp[hf,c]⟩)
   have hkn:=m1.kn;show 0≤aQ.at (List.foldl _ _ _) _∧aQ.at (List.foldl _ _ _) _≤aQ.at (List.foldl _ _ _) _+1;rw[c,hkn];exact this
  ·exact m1.old a ha hq c e he hf
def aQ.left(s:aQ):Nat:=s.q.length+s.d.countP fun x=>decide (x<0)
theorem ow:∀(d:List Int) (i:Nat) (k:Int),i<d.length→d.getD i (-1)<0→0≤k→(d.set i k).countP (fun x=>decide (x<0))+1=d.countP fun x=>decide (x<0)
 | [],i,k,h,_,_=>by simp at h
 | x :: d,0,k,h,hx,hk=>by
  simp at hx;simp[List.countP_cons,hx,Int.not_lt.2 hk]
 | x :: d,i+1,k,h,hx,hk=>by
  have:=ow d i k (by simpa using h) (by simpa using hx) hk;simp only[List.set_cons_succ,List.countP_cons];omega
theorem aQ.Qg{E:List aI}{N src n:Nat}{k:Int}{D:List aI}{s:aQ}{e:aI}(h:aQ.Ui E N src n k D s)(ht:e.t<N):(s.relax k e).left=s.left:=by
 unfold aQ.relax;split
 ·rename_i h1
  have:=ow s.d e.t (k+1) (by rw[h.len];exact ht) h1 (by have:=h.k0;omega);simp[aQ.left];omega
 ·split<;>rfl
theorem aQ.qd{E:List aI}{N src n:Nat}{k:Int}:∀(L D:List aI) (s:aQ),aQ.Ui E N src n k D s→(∀e∈L,e∈E∧e.f=n∧e.t<N)→(L.foldl (aQ.relax k) s).left=s.left
 | [],D,s,h,_=>rfl
 | e :: L,D,s,h,hL=>by
  have h1:=hL e qz;have:=aQ.qd L (D++ [e]) (s.relax k e) (aQ.zK h h1.1 h1.2.1 h1.2.2) (fun e' jm=>hL e' (by simp[jm]));rw[List.foldl_cons,this];exact aQ.Qg h h1.2.2
theorem aQ.IQ{E:List aI}{N src n:Nat}{d:List Int}{p:List aI}{q:List Nat}(hE:∀e∈E,e.t<N)(h:aQ.Inv E N src ⟨d,p,n :: q⟩):(aQ.step E n ⟨d,p,q⟩).left+1=aQ.left ⟨d,p,n :: q⟩:=by
 have Vu:=List.pairwise_cons.1 h.qs;have m0:aQ.Ui E N src n (aQ.at ⟨d,p,q⟩ n) [] ⟨d,p,q⟩:=
  ⟨h.len,h.Gi,h.q0 n qz,rfl,h.low,fun x hx=>h.q0 x (by simp[hx]),fun x hx=>Vu.1 x hx,Vu.2,fun y=>h.top n qz y,
   fun a ha hq hn e he hf=>h.old a ha (fun c=>by rcases List.mem_cons.1 c with c | c;exact hn c;exact hq c) e he hf,(fun e he=>by cases he),h.pos,h.zero⟩
 have:=aQ.qd (Ph E n) [] _ m0 (fun e he=>by
  have:=List.mem_filter.1 he;exact⟨this.1,by simpa using this.2,hE e this.1⟩)
 unfold aQ.step;rw[this];simp[aQ.left];omega
theorem aQ.Sh{E:List aI}{N src:Nat}(hE:∀e∈E,e.t<N):∀(k:Nat) (s:aQ),aQ.Inv E N src s→s.left≤k→aQ.Inv E N src (aQ.run E k s)∧(aQ.run E k s).q= []
 | 0,s,h,hk=>by
  have:s.q.length=0:=by unfold aQ.left at hk;omega
  exact⟨h,List.length_eq_zero_iff.1 this⟩
 | k+1,⟨d,p,[]⟩,h,hk=>⟨h,rfl⟩
 | k+1,⟨d,p,n :: q⟩,h,hk=>by
  have h1:=aQ.IQ hE h;have h2:(aQ.step E n ⟨d,p,q⟩).left+1≤k+1:=by rw[h1];exact hk
  exact aQ.Sh hE k _ (aQ.Eb hE h) (Nat.le_of_succ_le_succ h2)
theorem Qh(N:Nat):(List.replicate N (-1:Int)).countP (fun x=>decide (x<0))=N:=by
 rw[List.countP_replicate];simp
theorem aQ.qF{E:List aI}{N src:Nat}(hs:src<N):aQ.Inv E N src (aQ.init N src)∧(aQ.init N src).left≤N+1:=by
 have hat:∀j,(aQ.init N src).at j=if j=src then 0 else(List.replicate N (-1:Int)).getD j (-1):=fun j=>gQ _ _ _ _ _ (by simpa using hs)
 have hr:∀j,(List.replicate N (-1:Int)).getD j (-1)= -1:=fun j=>by
  rw[List.getD_eq_getElem?_getD,List.getElem?_replicate];split<;>rfl
 have hat':∀j,(aQ.init N src).at j=if j=src then 0 else-1:=fun j=>by rw[hat,hr]
 refine⟨⟨by simp[aQ.init],by simp[aQ.init],fun x=>by rw[hat'];split<;>omega,fun x hx=> ?_,by simp[aQ.init],fun x hx y=> ?_,fun a ha hq=> ?_,fun b hb=> ?_,fun b=> ?_⟩,?_⟩
 ·simp[aQ.init]at hx;rw[hat',if_pos hx];omega
 ·simp[aQ.init]at hx;rw[hat',hat',if_pos hx];split<;>omega
 ·rw[hat']at ha
  split at ha
  ·rename_i c;exact absurd (by simp[aQ.init,c]) hq
  ·omega
 ·rw[hat']at hb;split at hb<;>omega
 ·rw[hat'];split
  ·simp[*]
  ·simp[*]
 ·have:=ow (List.replicate N (-1:Int)) src 0 (by simpa using hs) (by rw[hr];omega) oz
  rw[Qh]at this;simp[aQ.left,aQ.init];omega
theorem Si{E:List aI}{N src:Nat}(hE:∀e∈E,e.t<N)(hs:src<N):aQ.Inv E N src (bfs E N src)∧(bfs E N src).q= []:=
 aQ.Sh hE _ _ (aQ.qF hs).1 (aQ.qF (E:=E) hs).2
def aI.ren(f:Nat→Nat)(e:aI):aI:=⟨e.f,e.t,f e.l⟩
structure aQ.Ren(f:Nat→Nat)(s s':aQ):Prop where
 d:s'.d=s.d
 q:s'.q=s.q
 pl:s'.p.length=s.p.length
 p:∀b,0<s.at b→s'.p.getD b aI.zero=(s.p.getD b aI.zero).ren f
theorem WV{f:Nat→Nat}(hf:∀i j,i<j→f i<f j)(e o:aI):(e.ren f).less (o.ren f)=e.less o:=by
 have h:(f e.l<f o.l)↔e.l<o.l:=⟨fun h=>Classical.byContradiction fun c=>by
  rcases Nat.lt_or_eq_of_le (Nat.not_lt.1 c)with c | c
  ·exact absurd (hf _ _ c) oz
  ·rw[c]at h;omega,hf _ _⟩
 show(decide (e.f<o.f)||(e.f==o.f&&decide (f e.l<f o.l)))=_;rw[decide_eq_decide.2 h];rfl
theorem aQ.Uj{f:Nat→Nat}(hf:∀i j,i<j→f i<f j){k:Int}(hk:0≤k){s s':aQ}(h:aQ.Ren f s s')(e:aI)(hd:s.p.length=s.d.length):aQ.Ren f (s.relax k e) (s'.relax k (e.ren f)):=by
 have hat:∀x,s'.at x=s.at x:=fun x=>by unfold aQ.at;rw[h.d]
 have Bh:(e.ren f).t=e.t:=rfl;unfold aQ.relax;rw[Bh,hat];by_cases h1:s.at e.t<0
 ·rw[if_pos h1,if_pos h1]
  refine⟨by rw[h.d],by rw[h.q],by simp[h.pl],fun b hb=> ?_⟩;show(s'.p.set e.t (e.ren f)).getD b _=aI.ren f ((s.p.set e.t e).getD b _);by_cases hl:e.t<s.d.length
  ·rw[gQ _ _ _ _ _ (by rw[h.pl,hd];exact hl),gQ _ _ _ _ _ (by rw[hd];exact hl)]
   split
   ·rfl
   ·rename_i c
    refine h.p b ?_;have:aQ.at ⟨s.d.set e.t (k+1),s.p.set e.t e,s.q++ [e.t]⟩ b=s.at b:=by
     show(s.d.set e.t (k+1)).getD b (-1)=_;rw[gQ _ _ _ _ _ hl,if_neg c];rfl
    rw[this]at hb;exact hb
  ·rw[List.set_eq_of_length_le (by rw[h.pl,hd];omega),List.set_eq_of_length_le (by rw[hd];omega)]
   refine h.p b ?_;have:aQ.at ⟨s.d.set e.t (k+1),s.p.set e.t e,s.q++ [e.t]⟩ b=s.at b:=by
    show(s.d.set e.t (k+1)).getD b (-1)=_;rw[List.set_eq_of_length_le oz];rfl
   rw[this]at hb;exact hb
 ·rw[if_neg h1,if_neg h1]
  by_cases h2:s.at e.t=k+1
  ·rw[h.p e.t oz,WV hf]
   split
   ·exact h
   ·refine⟨h.d,h.q,by simp[h.pl],fun b hb=> ?_⟩
    show(s'.p.set e.t (e.ren f)).getD b _=aI.ren f ((s.p.set e.t e).getD b _);have hl:e.t<s.d.length:=Classical.byContradiction fun c=>by
     have:s.at e.t= -1:=by unfold aQ.at;rw[List.getD_eq_getElem?_getD,List.getElem?_eq_none oz];rfl
     omega
    rw[gQ _ _ _ _ _ (by rw[h.pl,hd];exact hl),gQ _ _ _ _ _ (by rw[hd];exact hl)];split
    ·rfl
    ·exact h.p b hb
  ·rw[if_pos (.inl h2),if_pos (.inl h2)];exact h
theorem aQ.Qi{k:Int}{s:aQ}(e:aI)(h:s.p.length=s.d.length):(s.relax k e).p.length=(s.relax k e).d.length:=by
 unfold aQ.relax;split
 ·simpa using h
 ·split
  ·exact h
  ·simpa using h
theorem aQ.xZ{f:Nat→Nat}(hf:∀i j,i<j→f i<f j){k:Int}(hk:0≤k):∀(L:List aI) (s s':aQ),aQ.Ren f s s'→s.p.length=s.d.length→aQ.Ren f (L.foldl (aQ.relax k) s) ((L.map (aI.ren f)).foldl (aQ.relax k) s')∧(L.foldl (aQ.relax k) s).p.length=(L.foldl (aQ.relax k) s).d.length
 | [],s,s',h,hl=>⟨h,hl⟩
 | e :: L,s,s',h,hl=>aQ.xZ hf hk L _ _ (aQ.Uj hf hk h e hl) (aQ.Qi e hl)
theorem aBT(f:Nat→Nat)(E:List aI)(n:Nat):Ph (E.map (aI.ren f)) n=(Ph E n).map (aI.ren f):=by
 unfold Ph;rw[List.filter_map];rfl
theorem aQ.Sj{f:Nat→Nat}(hf:∀i j,i<j→f i<f j){E:List aI}{N src:Nat}(hE:∀e∈E,e.t<N):∀(k:Nat) (s s':aQ),aQ.Ren f s s'→aQ.Inv E N src s→aQ.Ren f (aQ.run E k s) (aQ.run (E.map (aI.ren f)) k s')
 | 0,s,s',h,_=>h
 | k+1,⟨d,p,q⟩,⟨d',p',q'⟩,h,hi=>by
  have hq:q'=q:=h.q;subst hq
  match q' with
  | []=>exact h
  | n :: q=>
   have h0:aQ.Ren f ⟨d,p,q⟩ ⟨d',p',q⟩:=⟨h.d,rfl,h.pl,h.p⟩;have hat:aQ.at ⟨d',p',q⟩ n=aQ.at ⟨d,p,q⟩ n:=by show d'.getD n (-1)=d.getD n (-1);rw[show d'=d from h.d]
   have h1:=(aQ.xZ hf (k:=aQ.at ⟨d,p,q⟩ n) (hi.q0 n qz) (Ph E n) _ _ h0 (hi.Gi.trans hi.len.symm)).1;refine aQ.Sj hf hE k _ _ ?_ (aQ.Eb hE hi);unfold aQ.step;rw[aBT,hat];exact h1
theorem aBU{f:Nat→Nat}(hf:∀i j,i<j→f i<f j){E:List aI}{N src:Nat}(hE:∀e∈E,e.t<N)(hs:src<N):aQ.Ren f (bfs E N src) (bfs (E.map (aI.ren f)) N src):=
 aQ.Sj hf hE _ _ _ ⟨rfl,rfl,rfl,fun b hb=>by
  have:=((aQ.qF (E:=E) hs).1.pos b hb);obtain⟨e,he,ht,hd,hk,hp⟩:=this;exfalso;have hat:(aQ.init N src).at b=if b=src then 0 else(List.replicate N (-1:Int)).getD b (-1):=gQ _ _ _ _ _ (by simpa using hs);rw[hat]at hb;split at hb
  ·omega
  ·rw[List.getD_eq_getElem?_getD,List.getElem?_replicate]at hb;split at hb<;>simp at hb⟩ (aQ.qF hs).1
def uQ(p:List aI)(src:Nat):Nat→Nat→List aI
 | 0,_=> []
 | k+1,n=>if n=src then[]else(p.getD n aI.zero) :: uQ p src k (p.getD n aI.zero).f
def dM(met:List Nat):List aI→List aI
 | []=> []
 | e :: L=>if e.t∈met then[]else e :: dM (e.t :: met) L
def jj(s:aQ)(src:Nat):List Nat→List aI→List aI
 | [],out=>out
 | m :: ms,out=>jj s src ms (out++dM (out.map (·.t)) (uQ s.p src (s.at m).toNat m))
theorem IU{f:Nat→Nat}{E:List aI}{N src:Nat}{s s':aQ}(h:aQ.Ren f s s')(hi:aQ.Inv E N src s):∀(k n:Nat),0≤s.at n→uQ s'.p src k n=(uQ s.p src k n).map (aI.ren f)
 | 0,n,_=>rfl
 | k+1,n,hn=>by
  unfold uQ;by_cases c:n=src
  ·rw[if_pos c,if_pos c];rfl
  ·rw[if_neg c,if_neg c]
   have h0:0<s.at n:=by
    have:s.at n≠0:=fun x=>c ((hi.zero n).1 x)
    omega
   obtain⟨e,he,ht,hd,hk,hp⟩:=hi.pos n h0;have hg:s.p.getD n aI.zero=e:=by rw[List.getD_eq_getElem?_getD,hp];rfl
   rw[h.p n h0,hg,List.map_cons,IU h hi k (e.ren f).f hd];rfl
theorem Bj(f:Nat→Nat):∀(L:List aI) (met:List Nat),dM met (L.map (aI.ren f))=(dM met L).map (aI.ren f)
 | [],_=>rfl
 | e :: L,met=>by
  simp only[List.map_cons,dM];show(if e.t∈met then _ else _)=_;split
  ·rfl
  ·rw[List.map_cons];congr 1;exact Bj f L _
theorem IV{f:Nat→Nat}{E:List aI}{N src:Nat}{s s':aQ}(h:aQ.Ren f s s')(hi:aQ.Inv E N src s):∀(ms:List Nat) (out:List aI),(∀m∈ms,0≤s.at m)→jj s' src ms (out.map (aI.ren f))=(jj s src ms out).map (aI.ren f)
 | [],out,_=>rfl
 | m :: ms,out,hm=>by
  unfold jj;have hat:s'.at m=s.at m:=by unfold aQ.at;rw[h.d]
  have h1:(out.map (aI.ren f)).map (·.t)=out.map (·.t):=by rw[List.map_map];rfl
  rw[hat,IU h hi _ _ (hm m qz),h1,Bj,←List.map_append];exact IV h hi ms _ (fun x hx=>hm x (by simp[hx]))
theorem uR:∀(L:List aI) (met:List Nat),((dM met L).map (·.t)).Nodup∧∀x∈(dM met L).map (·.t),x∉met
 | [],_=>⟨by simp[dM],by simp[dM]⟩
 | e :: L,met=>by
  unfold dM;split
  ·exact⟨qz,qz⟩
  ·rename_i c
   obtain⟨h1,h2⟩:=uR L (e.t :: met);refine⟨?_,?_⟩
   ·rw[List.map_cons,List.nodup_cons]
    exact⟨fun x=>h2 _ x qz,h1⟩
   ·intro x hx
    rw[List.map_cons]at hx;rcases List.mem_cons.1 hx with rfl | hx
    ·exact c
    ·exact fun y=>h2 x hx (by simp[y])
def aI.before(s:aQ)(a b:aI):Prop:=s.at a.t<s.at b.t∨s.at a.t=s.at b.t∧a.t<b.t
theorem pU{α:Type}{r:α→α→Prop}(hr:∀a b,r a b→¬r b a):∀(l m:List α),l.Perm m→l.Pairwise r→m.Pairwise r→l=m
 | [],m,h,_,_=>(List.nil_perm.1 h).symm
 | a :: l,[],h,_,_=>absurd (List.perm_nil.1 h) qz
 | a :: l,b :: m,h,hl,hm=>by
  obtain⟨ha,hl'⟩:=List.pairwise_cons.1 hl;obtain⟨hb,Kw⟩:=List.pairwise_cons.1 hm;have hab:a=b:=by
   have h1:a∈b :: m:=h.subset qz;have h2:b∈a :: l:=h.symm.subset qz;rcases List.mem_cons.1 h1 with c | c
   ·exact c
   ·rcases List.mem_cons.1 h2 with d | d
    ·exact d.symm
    ·exact absurd (hb a c) (hr _ _ (ha b d))
  subst hab;rw[pU hr l m (List.perm_cons a |>.1 h) hl' Kw]
def aI.cells(e:aI):List Value:= [.int .i64 e.f,.int .i64 e.t,.int .i64 e.l]
abbrev aI.val(e:aI):Value:= .agg #[.int .i64 e.f,.int .i64 e.t,.int .i64 e.l]
theorem aBV:(pG.info? 107).map (fun i=>(i.zero,i.size,i.bytes))=some (some (.agg #[.int .i64 0,.int .i64 0,.int .i64 0]),3,24):=by kernel_rfl
def iq(w:World)(B:Nat)(A:Option Addr)(l:List aI):Prop:=
 0<l.length→∃b o,A=some ⟨b,o,none⟩∧b<B∧∀i (h:i<l.length),w.cell? ⟨b,o+i*3,none⟩=some (.int .i64 l[i].f)∧w.cell? ⟨b,o+i*3+1,none⟩=some (.int .i64 l[i].t)∧w.cell? ⟨b,o+i*3+2,none⟩=some (.int .i64 l[i].l)
theorem Gj{W:World}{base cp:Nat}{A:Option Addr}{l:List aI}(h:W.ownsRow base 107 3 (.slice A l.length cp) l.length (l.flatMap aI.cells)):iq W W.heap.size A l:=fun hn=>by
 obtain⟨b,cap,hv,_,hlt⟩:=h.form hn;have hA:A=some ⟨b,0,none⟩:=by injection hv
 subst hA;refine⟨b,0,rfl,hlt,fun i hi=> ?_⟩;have c0:=h.cells (g:=b) rfl _ _ (aS aI.cells 3 (fun _=>rfl) l i 0 hi oz);have c1:=h.cells (g:=b) rfl _ _ (aS aI.cells 3 (fun _=>rfl) l i 1 hi oz);have c2:=h.cells (g:=b) rfl _ _ (aS aI.cells 3 (fun _=>rfl) l i 2 hi oz);rw[eY]at c0 c1 c2;simpa using ai c0 (ai c1 c2)
theorem Uk:Maps.Keyed pG 3:=Maps.int_keyed (q:= .i64) kz
theorem aIe:pG.underlying 104=some (.map 3 187):=by kernel_rfl
abbrev kE(n:Int):Lit:= .int .i64 n
theorem zL(n:Int)(h:(kE n).wf=true):keyOf pG 3 (.int .i64 n)=some (kE n):=Maps.keyOf_int_mk kz h
theorem x9(n:Nat)(h:n<1000):(kE (n:Int)).wf=true:=WalkArith.wf_i64 oz
def gT(w:World)(b n:Nat)(D:DataW Value):Prop:=w.ownsMap pG 3 AZ b n D∧Maps.IsMap D
theorem gT.made(w:World):gT (w.alloc (.map #[] 0)) w.heap.size 0 (.map []):=⟨World.ownsMap_made _ _ _ _,Maps.isMap_empty⟩
theorem gT.lt{w:World}{b n:Nat}{D:DataW Value}(h:gT w b n D):b<w.heap.size:=h.1.lt
theorem gT.kept{w w':World}{b n:Nat}{D:DataW Value}{row:Option Nat}(h:gT w b n D)(hg:w.grownBy w' row)(hne:some b≠row):gT w' b n D:=⟨h.1.kept hg hne,h.2⟩
theorem gT.gr{X:Nat→Prop}{w w':World}{b n:Nat}{D:DataW Value}(h:gT w b n D)(hg:Gr X w w')(hb:¬X b):gT w' b n D:=by
 have hlt:=h.1.lt;obtain⟨⟨es,clock,h1,h2⟩,h3⟩:=h;exact⟨⟨es,clock,(hg.block b hlt hb).trans h1,h2⟩,h3⟩
theorem gT.put{w:World}{b n:Nat}{D:DataW Value}(h:gT w b n D)(hn:n<maxLen)(k:Int)(hk:(kE k).wf=true)(v:Value):
 ∃w',(Instr.mapUpdate 104 (.map (some b)) (.int .i64 k) v).run pG w= .ok () w'∧gT w' b (n+1) (D.put (kE k) (.held v))∧w.grownBy w' (some b):=by
 obtain⟨w',h1,h2,h3⟩:=h.1.update Uk aIe hn (zL k hk) (show AZ v=some (.held v,[])from rfl);exact⟨w',h1,⟨h2,h.2.put _ _⟩,h3⟩
abbrev Ul:DataW Value:= .held (.slice none 0 0)
theorem gT.look{w:World}{b n:Nat}{D:DataW Value}(h:gT w b n D)(k:Int)(hk:(kE k).wf=true){v:Value}(hv:D.atKey (kE k) Ul= .held v):
 (Instr.lookup 104 (.map (some b)) (.int .i64 k) false).run pG w= .ok v w:=by
 obtain⟨v',ps,h1,h2⟩:=h.1.lookup Uk aIe (z:= .slice none 0 0) kz (show AZ (.slice none 0 0)=some (Ul,[])from rfl) (zL k hk);rw[hv]at h2
 cases h2
 exact h1
theorem WW{D:DataW Value}(h:Maps.IsMap D)(k:Int)(hk:(kE k).wf=true)(v:Value):(D.put (kE k) (.held v)).atKey (kE k) Ul= .held v:=
 Maps.atKey_put_same h (Uk.key (zL k hk)) _ _
theorem Um{D:DataW Value}{k j:Int}(hn:j≠k)(v:Value):(D.put (kE k) (.held v)).atKey (kE j) Ul=D.atKey (kE j) Ul:=
 Maps.atKey_put_other (fun e=>hn (by injection e)) _ _
structure uj(W:World)(base mb:Nat)(n:Nat)(D:DataW Value)(vf:Nat→Value)(F:Nat→List aI):Prop where
 map:gT W mb n D
 hb:base≤mb
 at_:∀k:Nat,k<12→D.atKey (kE (k:Int)) Ul= .held (vf k)
 own:∀k:Nat,k<12→W.ownsRow base 107 3 (vf k) (F k).length ((F k).flatMap aI.cells)
 far:∀k j:Nat,k<12→j<12→k≠j→∀g,(vf k).ownBlock=some g→(vf j).ownBlock≠some g
theorem uj.made(w:World):uj (w.alloc (.map #[] 0)) w.heap.size w.heap.size 0 (.map []) (fun _=> .slice none 0 0) (fun _=> []):=
 ⟨gT.made w,nL,fun _ _=>rfl,fun _ _=>World.ownsRow_nil _ _ _ _,fun _ _ _ _ _ g h=>by cases h⟩
theorem uj.gr{X:Nat→Prop}{W W':World}{base mb n:Nat}{D:DataW Value}{vf:Nat→Value}{F:Nat→List aI}(h:uj W base mb n D vf F)(hg:Gr X W W')(hm:¬X mb)(hX:∀k,k<12→∀g,(vf k).ownBlock=some g→¬X g):uj W' base mb n D vf F:=
 ⟨h.map.gr hg hm,h.hb,h.at_,fun k hk=>cO (h.own k hk) hg (hX k hk),h.far⟩
theorem uj.below{W W':World}{base mb n:Nat}{D:DataW Value}{vf:Nat→Value}{F:Nat→List aI}(h:uj W base mb n D vf F)(hb:Below W.heap.size W W'):uj W' base mb n D vf F:=
 h.gr (X:=fun k=>W.heap.size≤k) (Gr.ak hb) (by have:=h.map.lt;omega) (fun k hk g hg=>by have:=((h.own k hk).lt g hg).2;omega)
theorem uj.blk{W W':World}{base mb n b:Nat}{D:DataW Value}{vf:Nat→Value}{F:Nat→List aI}{t:TypeId}{cs:Array Value}(h:uj W base mb n D vf F)(hg:Gr (· =b) W W')(hb:ah W b t cs)(ht:107≠t):uj W' base mb n D vf F:=by
 refine h.gr hg (fun e=> ?_) (fun k hk g Nv e=>aW (h.own k hk) hb ht (e▸Nv));obtain⟨⟨es,clock,h1,_⟩,_⟩:=h.map;subst e;unfold ah at hb;rw[h1]at hb;cases hb
def aBW(F:Nat→List aI)(e:aI):Nat→List aI:=fun k=>if k=e.f then F k++ [e]else F k
theorem uj.add{W W1 W2:World}{base mb n:Nat}{D:DataW Value}{vf:Nat→Value}{F:Nat→List aI}{e:aI}{v:Value}{o:Obj}(h:uj W base mb n D vf F)(he:e.f<12)
 (hown:W1.ownsRow base 107 3 v ((F e.f).length+1) ((F e.f).flatMap aI.cells++e.cells)) (hG:(W.alloc o).grownBy W1 (vf e.f).ownBlock) (Gl:∀g,v.ownBlock=some g→(vf e.f).ownBlock=some g∨W.heap.size≤g)
 (hm:gT W2 mb (n+1) (D.put (kE (e.f:Int)) (.held v))) (AX:W1.grownBy W2 (some mb)):uj W2 base mb (n+1) (D.put (kE (e.f:Int)) (.held v)) (fun k=>if k=e.f then v else vf k) (aBW F e):=by
 have h0:=h.below (W':=W.alloc o) (bN);have hg1:Gr (fun k=>(vf e.f).ownBlock=some k) (W.alloc o) W1:=Gr.eO hG (fun k e=>e);have eG:Gr (· =mb) W1 W2:=Gr.eO AX (fun k e=>by cases e;rfl);have D8:∀{X:World} {x:Value} {m:Nat} {xs:List Value},X.ownsRow base 107 3 x m xs→(∃es clock,X.heap[mb]?=some (.map es clock))→x.ownBlock≠some mb:=by
  intro X x m xs hx ⟨es,clock,hc⟩ hb;rcases hx.2 with⟨rfl,_⟩ | ⟨g',cap',cur,rfl,_,hh,_⟩
  ·cases hb
  ·cases hb
   rw[hc]at hh;cases hh
 have aNz:∃es clock,(W.alloc o).heap[mb]?=some (.map es clock):=let ⟨⟨es,clock,h1,_⟩,_⟩:=h0.map;⟨es,clock,h1⟩;have aDY:∃es clock,W1.heap[mb]?=some (.map es clock):=by
  obtain⟨es,clock,hh⟩:=aNz;exact⟨es,clock,(hg1.block mb h0.map.lt (D8 (h0.own e.f he) ⟨es,clock,hh⟩)).trans hh⟩
 have aIf:∀k,k<12→k≠e.f→W1.ownsRow base 107 3 (vf k) (F k).length ((F k).flatMap aI.cells):=fun k hk hne=>
  cO (h0.own k hk) hg1 (fun g hg=>fun e'=>h.far k e.f hk he hne g hg e')
 refine⟨hm,h.hb,fun k hk=> ?_,fun k hk=> ?_,fun k j hk hj hkj g hg=> ?_⟩
 ·by_cases c:k=e.f
  ·subst c
   rw[if_pos rfl];exact WW h.map.2 _ (x9 _ oz) v
  ·rw[if_neg c,Um (fun x=>c oz)]
   exact h.at_ k hk
 ·unfold aBW
  by_cases c:k=e.f
  ·subst c
   rw[if_pos rfl,if_pos rfl];have:=cO hown eG (fun g hg e'=>D8 hown aDY (e'▸hg));simpa using this
  ·rw[if_neg c,if_neg c]
   exact cO (aIf k hk c) eG (fun g hg e'=>D8 (aIf k hk c) aDY (e'▸hg))
 ·by_cases c:k=e.f
  ·subst c
   rw[if_pos rfl]at hg;rw[if_neg (fun x=>hkj x.symm)];intro hj';rcases Gl g hg with hg | hg
   ·exact h.far _ j hk hj hkj g hg hj'
   ·have:=((h.own j hj).lt g hj').2;omega
  ·rw[if_neg c]at hg
   by_cases d:j=e.f
   ·subst d
    rw[if_pos rfl];intro hj';rcases Gl g hj' with Nv | Nv
    ·exact h.far k _ hk hj hkj g hg Nv
    ·have:=((h.own k hk).lt g hg).2;omega
   ·rw[if_neg d]
    exact h.far k j hk hj hkj g hg
structure sB(W:World)(b mb:Nat)(qv:Value)(src n:Nat)(d:List Int)(p:List aI)(cs:Array Value):Prop where
 blk:ah W b 110 cs
 size:cs.size=52
 c0:cs[0]?=some qv
 c1:cs[1]?=some (.map (some mb))
 c2:cs[2]?=some (.int .i64 src)
 c51:cs[51]?=some (.int .i64 n)
 dl:d.length=12
 pl:p.length=12
 dc:∀i,i<12→cs[3+i]?=some (.int .i64 (d.getD i (-1)))
 pc:∀i,i<12→∀j,j<3→cs[15+i*3+j]?=(p.getD i aI.zero).cells[j]?
section
variable {W W':World} {b mb:Nat} {qv:Value} {src n:Nat} {d:List Int} {p:List aI} {cs:Array Value}
theorem sB.move(h:sB W b mb qv src n d p cs)(hb:ah W' b 110 cs):sB W' b mb qv src n d p cs:={h with blk:=hb}
theorem sB.aEt(h:sB W b mb qv src n d p cs)(v:Value):sB (W.setCell ⟨b,0,none⟩ v) b mb v src n d p (cs.setIfInBounds 0 v):=by
 have hs:=h.size;refine⟨h.blk.bX 0 v,by simpa using hs,?_,?_,?_,?_,h.dl,h.pl,fun i hi=> ?_,fun i hi j hj=> ?_⟩
 ·rw[Array.getElem?_setIfInBounds_self_of_lt oz]
 ·rw[Array.getElem?_setIfInBounds_ne oz];exact h.c1
 ·rw[Array.getElem?_setIfInBounds_ne oz];exact h.c2
 ·rw[Array.getElem?_setIfInBounds_ne oz];exact h.c51
 ·rw[Array.getElem?_setIfInBounds_ne oz];exact h.dc i hi
 ·rw[Array.getElem?_setIfInBounds_ne oz];exact h.pc i hi j hj
theorem sB.WX(h:sB W b mb qv src n d p cs)(k:Nat)(hk:k<12)(v:Int):sB (W.setCell ⟨b,3+k,none⟩ (.int .i64 v)) b mb qv src n (d.set k v) p (cs.setIfInBounds (3+k) (.int .i64 v)):=by
 have hs:=h.size;refine⟨h.blk.bX (3+k) _,by simpa using hs,?_,?_,?_,?_,by simpa using h.dl,h.pl,fun i hi=> ?_,fun i hi j hj=> ?_⟩
 ·rw[Array.getElem?_setIfInBounds_ne oz];exact h.c0
 ·rw[Array.getElem?_setIfInBounds_ne oz];exact h.c1
 ·rw[Array.getElem?_setIfInBounds_ne oz];exact h.c2
 ·rw[Array.getElem?_setIfInBounds_ne oz];exact h.c51
 ·rw[gQ _ _ _ _ _ (by rw[h.dl];exact hk)]
  by_cases c:i=k
  ·subst c
   rw[Array.getElem?_setIfInBounds_self_of_lt oz,if_pos rfl]
  ·rw[Array.getElem?_setIfInBounds_ne oz,if_neg c];exact h.dc i hi
 ·rw[Array.getElem?_setIfInBounds_ne oz];exact h.pc i hi j hj
theorem sB.aBX(h:sB W b mb qv src n d p cs)(k:Nat)(hk:k<12)(e:aI):sB (((W.setCell ⟨b,15+k*3,none⟩ (.int .i64 e.f)).setCell ⟨b,15+k*3+1,none⟩ (.int .i64 e.t)).setCell ⟨b,15+k*3+2,none⟩ (.int .i64 e.l)) b mb qv src n d (p.set k e)
 (((cs.setIfInBounds (15+k*3) (.int .i64 e.f)).setIfInBounds (15+k*3+1) (.int .i64 e.t)).setIfInBounds (15+k*3+2) (.int .i64 e.l)):=by
 have hs:=h.size;have far:∀i,(i<15+k*3∨15+k*3+2<i)→(((cs.setIfInBounds (15+k*3) (.int .i64 e.f)).setIfInBounds (15+k*3+1) (.int .i64 e.t)).setIfInBounds (15+k*3+2) (.int .i64 e.l))[i]?=cs[i]?:=fun i hi=>by
  rw[Array.getElem?_setIfInBounds_ne oz,Array.getElem?_setIfInBounds_ne oz,Array.getElem?_setIfInBounds_ne oz]
 refine⟨((h.blk.bX _ _).bX _ _).bX _ _,by simpa using hs,?_,?_,?_,?_,h.dl,by simpa using h.pl,fun i hi=> ?_,fun i hi j hj=> ?_⟩
 ·rw[far _ oz];exact h.c0
 ·rw[far _ oz];exact h.c1
 ·rw[far _ oz];exact h.c2
 ·rw[far _ oz];exact h.c51
 ·rw[far _ oz];exact h.dc i hi
 ·rw[gQ _ _ _ _ _ (by rw[h.pl];exact hk)]
  by_cases c:i=k
  ·subst c
   rw[if_pos rfl]
   match j,hj with
   | 0,_=>
    rw[Array.getElem?_setIfInBounds_ne oz,Array.getElem?_setIfInBounds_ne oz];show(cs.setIfInBounds (15+i*3) (.int .i64 e.f))[15+i*3]?=_;rw[Array.getElem?_setIfInBounds_self_of_lt oz];rfl
   | 1,_=>
    rw[Array.getElem?_setIfInBounds_ne oz,Array.getElem?_setIfInBounds_self_of_lt qo];rfl
   | 2,_=>
    rw[Array.getElem?_setIfInBounds_self_of_lt qo];rfl
  ·rw[if_neg c,far _ oz];exact h.pc i hi j hj
theorem sB.k0(h:sB W b mb qv src n d p cs):W.cell? ⟨b,0,none⟩=some qv:=(h.blk.cell 0).trans h.c0
theorem sB.k1(h:sB W b mb qv src n d p cs):W.cell? ⟨b,1,none⟩=some (.map (some mb)):=(h.blk.cell 1).trans h.c1
theorem sB.k2(h:sB W b mb qv src n d p cs):W.cell? ⟨b,2,none⟩=some (.int .i64 src):=(h.blk.cell 2).trans h.c2
theorem sB.k51(h:sB W b mb qv src n d p cs):W.cell? ⟨b,51,none⟩=some (.int .i64 n):=(h.blk.cell 51).trans h.c51
theorem sB.kd(h:sB W b mb qv src n d p cs)(i:Nat)(hi:i<12):W.cell? ⟨b,3+i,none⟩=some (.int .i64 (d.getD i (-1))):=(h.blk.cell _).trans (h.dc i hi)
theorem sB.kf(h:sB W b mb qv src n d p cs)(i:Nat):W.frozen? ⟨b,i,none⟩=false:=h.blk.frozen i
def pO(W:World)(base:Nat)(v:Value)(L:List Nat):Prop:=
 (v= .slice none 0 0∧L= [])∨∃g off cap ds,v= .slice (some ⟨g,off,none⟩) L.length cap∧base≤g∧ah W g 3 ds∧L.length≤cap∧cap≤maxLen∧off+cap≤ds.size∧∀j (h:j<L.length),ds[off+j]?=some (.int .i64 (L[j]:Nat))
theorem pO.gr{X:Nat→Prop}{base:Nat}{v:Value}{L:List Nat}(h:pO W base v L)(hg:Gr X W W')(hX:∀g ds,base≤g→ah W g 3 ds→¬X g):pO W' base v L:=by
 rcases h with h | ⟨g,off,cap,ds,h1,h2,h3,h4⟩
 ·exact .inl h
 ·exact .inr ⟨g,off,cap,ds,h1,h2,hg.blk h3 (hX g ds h2 h3),h4⟩
theorem pO.below{base:Nat}{v:Value}{L:List Nat}(h:pO W base v L)(hb:Below W.heap.size W W'):pO W' base v L:=
 h.gr (X:=fun k=>W.heap.size≤k) (Gr.ak hb) (fun g ds _ hd e=>by have:=hd.lt;omega)
theorem pO.far{base B:Nat}{v:Value}{L:List Nat}{t:TypeId}{cs:Array Value}(h:pO W base v L)(hg:Gr (· =B) W W')(hb:ah W B t cs)(ht:t≠3):pO W' base v L:=
 h.gr hg fun g ds _ hd e=>by subst e;exact hb.Fu hd ht rfl
theorem pO.Pw{base:Nat}{v:Value}{L:List Nat}{xs:List Value}(h:W.ownsRow base 3 1 v L.length xs)(hx:xs=L.map fun k:Nat=>Value.int .i64 (k:Int)):pO W base v L:=by
 rcases h.2 with⟨h1,h2⟩ | ⟨g,cap,cur,rfl,hb,hh,hlc,Pk,hsz,WY⟩
 ·exact .inl ⟨h1,List.eq_nil_of_length_eq_zero h2⟩
 ·refine .inr ⟨g,0,cap,cur,rfl,hb,hh,hlc,Pk,oz,fun j hj=> ?_⟩
  rw[Nat.zero_add];have h1:(cur.toList.take (L.length*1))[j]?=xs[j]?:=by rw[WY]
  rw[List.getElem?_take_of_lt oz,Array.getElem?_toList]at h1;rw[h1,hx];simp[hj]
theorem pO.pop{base m:Nat}{v:Value}{L:List Nat}(h:pO W base v (m :: L)):∃g off cap,v= .slice (some ⟨g,off,none⟩) (L.length+1) cap∧L.length+1≤cap∧cap≤maxLen∧W.cell? ⟨g,off,none⟩=some (.int .i64 m)∧
 pO W base (.slice (some (if cap=1 then⟨g,off,none⟩else⟨g,off+1,none⟩)) L.length (cap-1)) L:=by
 rcases h with⟨_,h⟩ | ⟨g,off,cap,ds,rfl,h2,h3,h4,h5,h6,h7⟩
 ·cases h
 ·refine⟨g,off,cap,rfl,h4,h5,?_,.inr ?_⟩
  ·rw[h3.cell off]
   have:=h7 0 qz;simpa using this
  ·simp only[List.length_cons]at h4 h7
   by_cases c:cap=1
   ·rw[if_pos c]
    have hL:L.length=0:=by omega
    exact⟨g,off,cap-1,ds,rfl,h2,h3,oz,oz,oz,fun j hj=>by omega⟩
   ·rw[if_neg c]
    refine⟨g,off+1,cap-1,ds,rfl,h2,h3,oz,oz,oz,fun j hj=> ?_⟩;have:=h7 (j+1) oz;rw[show off+1+j=off+(j+1)from by omega];simpa using this
end
end
end Go.Proofs.YtmdgooofdmpcjaaGreatDoor
