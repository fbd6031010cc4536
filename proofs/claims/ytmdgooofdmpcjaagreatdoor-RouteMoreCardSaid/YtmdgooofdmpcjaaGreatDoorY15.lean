import Derived.Test.YtmdgooofdmpcjaaGreatDoorY14
set_option maxRecDepth 100000
set_option maxHeartbeats 8000000
set_option linter.unusedSimpArgs false
set_option linter.unusedVariables false
set_option linter.unusedSectionVars false
open Go.Proofs.Tryz renaming prog → pG
open Bool renaming false->Bj,true->BR
open List renaming getElem_mem->CS,replicate->Fe,take_succ_eq_append_getElem->Dl
open Option renaming none->Ag,some->Ai,some->ES
open Go.Proofs.Tryz
namespace Go.Proofs.YtmdgooofdmpcjaaGreatDoor
open Go renaming Value->Bn,World->Al,bodyPost_ret->GJ,maxLen->EW
open RowKit renaming Below->BD,intOf->E8
open RowKit.Below renaming refl->BK
open Value renaming int->GL
section
open Go.ChangeShapes Go.WideShapes Go.ChangeAt Go.RowKit
attribute [local go_sem] Oper.semAt_some
open Go.Act renaming put → zP
open List renaming setIfInBounds_toArray → zA, set_cons_zero → zB, set_cons_succ → zC
theorem sB.new{W:Al}{b mb src n:Nat}(h:ah W b 110 #[.slice Ag 0 0,.map (Ai mb),.int .i64 src,.int .i64 0,.int .i64 0,.int .i64 0,.int .i64 0,.int .i64 0,.int .i64 0,.int .i64 0,.int .i64 0,.int .i64 0,.int .i64 0,.int .i64 0,.int .i64 0,.int .i64 0,.int .i64 0,.int .i64 0,.int .i64 0,.int .i64 0,.int .i64 0,.int .i64 0,.int .i64 0,.int .i64 0,.int .i64 0,.int .i64 0,.int .i64 0,.int .i64 0,.int .i64 0,.int .i64 0,.int .i64 0,.int .i64 0,.int .i64 0,.int .i64 0,.int .i64 0,.int .i64 0,.int .i64 0,.int .i64 0,.int .i64 0,.int .i64 0,.int .i64 0,.int .i64 0,.int .i64 0,.int .i64 0,.int .i64 0,.int .i64 0,.int .i64 0,.int .i64 0,.int .i64 0,.int .i64 0,.int .i64 0,.int .i64 n]):sB W b mb (.slice Ag 0 0) src n (Fe 12 0) (Fe 12 aI.zero) #[.slice Ag 0 0,.map (Ai mb),.int .i64 src,.int .i64 0,.int .i64 0,.int .i64 0,.int .i64 0,.int .i64 0,.int .i64 0,.int .i64 0,.int .i64 0,.int .i64 0,.int .i64 0,.int .i64 0,.int .i64 0,.int .i64 0,.int .i64 0,.int .i64 0,.int .i64 0,.int .i64 0,.int .i64 0,.int .i64 0,.int .i64 0,.int .i64 0,.int .i64 0,.int .i64 0,.int .i64 0,.int .i64 0,.int .i64 0,.int .i64 0,.int .i64 0,.int .i64 0,.int .i64 0,.int .i64 0,.int .i64 0,.int .i64 0,.int .i64 0,.int .i64 0,.int .i64 0,.int .i64 0,.int .i64 0,.int .i64 0,.int .i64 0,.int .i64 0,.int .i64 0,.int .i64 0,.int .i64 0,.int .i64 0,.int .i64 0,.int .i64 0,.int .i64 0,.int .i64 n]:=by
 refine⟨h,rfl,rfl,rfl,rfl,rfl,rfl,rfl,λi hi=> ?_,λi hi j hj=> ?_⟩
 .obtain rfl | rfl | rfl | rfl | rfl | rfl | rfl | rfl | rfl | rfl | rfl | rfl:=(show i=0\/i=1\/i=2\/i=3\/i=4\/i=5\/i=6\/i=7\/i=8\/i=9\/i=10\/i=11 by omega)
  all_goals rfl
 .obtain rfl | rfl | rfl | rfl | rfl | rfl | rfl | rfl | rfl | rfl | rfl | rfl:=(show i=0\/i=1\/i=2\/i=3\/i=4\/i=5\/i=6\/i=7\/i=8\/i=9\/i=10\/i=11 by omega)
  all_goals
   obtain rfl | rfl | rfl:=(show j=0\/j=1\/j=2 by omega);all_goals rfl
theorem qJ{α:Type}(p:α->Bool)(l:List α)(j:Nat)(h:j<l.length):(l.take (j+1)).filter p=(l.take j).filter p++(if p l[j]=BR then[l[j]]else[]):=by
 rw[Dl h,List.filter_append];by_cases c:p l[j]=BR
 .rw[if_pos c,List.filter_cons_of_pos c];rfl
 .rw[if_neg c,List.filter_cons_of_neg c];rfl
theorem Er(x:ay)(net:Int)(src:Nat):∀(l:List aO) (i:Nat),(dD x net src i l).length<=2*l.length
 | [],_=>by simp[dD]
 | y :: r,i=>by
  have h:=Er x net src r (i+1);have h2:(lC x net src i y).length<=2:=by
   unfold lC;split
   .exact nT (List.length_filter_le _ _) qz
   .simp
  rw[dD,List.length_append,List.length_cons];omega
theorem UO(x:ay)(net:Int)(src i:Nat):(dD x net src 0 (x.links.l.take i)).length<=2*i:=nT (Er _ _ _ _ _) (by have:=List.length_take_le i x.links.l;omega)
theorem UQ{x:ay}{net:Int}{src i j:Nat}{p:aI->Bool}{L:List aI}(hi:i<=32)(hj:j<=2)(hL:(dD x net src 0 (x.links.l.take i)).length<=2*i:=by exact UO _ _ _ _):(dD x net src 0 (x.links.l.take i)++(L.take j).filter p).length<=66:=by
 have h1:((L.take j).filter p).length<=j:=nT (List.length_filter_le _ _) qo;rw[List.length_append];omega
theorem share{Q T:Al->Nat->Prop}{G:Prop}(h:(∀W m,Q W m->T W m)->G)(k:∀W m,Q W m->T W m):G:=h k
theorem Aa(x:ay)(v:Nat)(net:Int)(w:Al)(hr:x.rd w w.heap.size)(hL:ct w)(hx:∀r∈x.causes.l,r.x.n<=8796093021952)(hc:cW x=0)(hv:v<x.aF.l.length)(qw:0<=net)(NI:net<=1):
 Calls pG 32 #[x.val,.int .i64 (v:Int),.int .i64 net] w λe w'=>∃(b mb nm:Nat) (D:DataW Bn) (vf:Nat->Bn) (F:Nat->List aI),e= .returned (.tuple #[.pointer (Ai ⟨b,0,Ag⟩),.bool BR])/\
  yX w w' w.heap.size b mb nm D vf F (dX x x.aF.l[v]) (x.mods.l.length+x.aP.l.length) (dW x net x.aF.l[v]):=by
 obtain⟨y0,bR⟩:=ez (w.alloc (.cells #[.slice x.mods.a x.mods.l.length x.mods.c,.slice x.aj.a x.aj.l.length x.aj.c,.slice x.aP.a x.aP.l.length x.aP.c,.slice x.links.a x.links.l.length x.links.c,.slice x.aF.a x.aF.l.length x.aF.c,.slice x.bQ.a x.bQ.l.length x.bQ.c,.slice x.causes.a x.causes.l.length x.causes.c,.slice x.aA.a x.aA.l.length x.aA.c] 31));obtain⟨gc,uW⟩:=ez w.heap.size;have bW:BD w.heap.size w y0:=by rw[bR];exact bN
 have bS:ah y0 gc 31 x.arr:=by rw[bR,uW];exact ah.new w _ _
 have UR:=yx x y0 (hr.below bW) (hL.below bW) hx;rw[hc]at UR;have yu:=CS hv;obtain⟨s1,s2,_⟩:=El hc yu;have QM:=En hc yu;have C5:=jv hc;have KA:bg x x.aF.l[v].src.m=(dX x x.aF.l[v]:Int):=by unfold dX;omega
 have Qc:dX x x.aF.l[v]<12:=by have:=QM.2;unfold ay.N at this;omega
 have hN1:x.mods.l.length<=4:=C5.1;have hN2:x.aP.l.length<=8:=C5.2.1;have hN3:x.links.l.length<=32:=C5.2.2.1;obtain⟨bv,ov,hva,hbv,hvc⟩:=hr.aF (show 0<x.aF.l.length by omega);have je:∀W,BD y0.heap.size y0 W->W.cell? ⟨gc,0,Ag⟩=Ai (.slice x.mods.a x.mods.l.length x.mods.c)/\W.cell? ⟨gc,1,Ag⟩=Ai (.slice x.aj.a x.aj.l.length x.aj.c)/\W.cell? ⟨gc,2,Ag⟩=Ai (.slice x.aP.a x.aP.l.length x.aP.c)/\W.cell? ⟨gc,3,Ag⟩=Ai (.slice x.links.a x.links.l.length x.links.c)/\W.cell? ⟨gc,4,Ag⟩=Ai (.slice (Ai ⟨bv,ov,Ag⟩) x.aF.l.length x.aF.c)/\W.cell? ⟨gc,5,Ag⟩=Ai (.slice x.bQ.a x.bQ.l.length x.bQ.c)/\W.cell? ⟨gc,6,Ag⟩=Ai (.slice x.causes.a x.causes.l.length x.causes.c)/\W.cell? ⟨gc,7,Ag⟩=Ai (.slice x.aA.a x.aA.l.length x.aA.c)/\W.cell? ⟨bv,ov+v*7+1,Ag⟩=Ai (.string x.aF.l[v].src.m):=λW hW=>by
  have h1:=bS.below hW bS.lt;have h2:=bW.trans (hW.mono bW.size);refine⟨h1.cell 0,h1.cell 1,h1.cell 2,h1.cell 3,by rw[<-hva];exact h1.cell 4,h1.cell 5,h1.cell 6,h1.cell 7,?_⟩;rw[h2.cell (p:=⟨bv,ov+v*7+1,Ag⟩) hbv];exact(hvc v hv).2.1
 have aD1:=λW (hW:BD y0.heap.size y0 W) (s:ByteArray)=>vI x s W ((hr.below bW).below hW) oz oz
 obtain⟨y,hy⟩:=ez (x.aF.l[v]);rw[<-hy]at KA Qc je ⊢;obtain⟨src,K2⟩:=ez (dX x y);rw[<-K2]at KA Qc ⊢;have hvi:(v:Int)<(x.aF.l.length:Int):=by omega
 have hv0:(0:Int)<=(v:Int):=by omega
 have HEd:=lz (show∀e∈gj x net src,e.t<12/\e.f<12/\e.l<1000 from λe he=>by
  have h1:=qI hc net src e he;obtain⟨h2,_⟩:=oT.1 he;have h3:=Eo hc;unfold ay.N at h3;omega)
 have aCJ:=lz UR;have hmk:= @run_makeMap pG;have aKZ:=lz KA;have Hsr:=lz K2;have ji:=lz je;have aD2:=lz aD1;have aV:=lz bW;have sA:=lz bS;have dV:=lz bR;have Oc:=lz uW;have Hr:=lz hr;have Hva:=lz hva;have aF4:=lz (λy (hy:y∈x.links.l)=>zX hc y hy);have hgy:gc<y0.heap.size:=bS.lt;clear bR bW bS UR hr hL hx hc s1 s2 QM C5 KA hvc je aD1 K2 hbv yu uW hva hy;go_enter func32,ntmps32;obtain⟨c0,c1,c2,c3,c4,c5,c6,c7,-⟩:=ji.out y0 (BK _ _);rw[dV.out]at c0 c1 c2 c3 c4 c5 c6 c7;rw[Oc.out]at c0 c1 c2 c3 c4 c5 c6 c7;go_wp2_with fail;rw[<-dV.out,<-Oc.out];clear c0 c1 c2 c3 c4 c5 c6 c7;rw[<-Hva.out];refine aCJ.out.mono ?_;rintro e W1 ⟨rfl,aU⟩;obtain⟨c0,c1,c2,c3,c4,c5,c6,c7,-⟩:=ji.out W1 aU;have cU:=lz aU;clear aU;go_wp2_with fail;have hHeld:=ji.out W1.drew (cU.out.trans (BK _ _).drew);clear c0 c1 c2 c3 c4 c5 c6 c7;refine share (Q:=λW m=>BD y0.heap.size y0 W/\gT W m 0 (.map [])/\w.heap.size<=m) (T:= ?T) ?main ?key
 case main=>
  intro hkey;have UU:=lz hkey;clear hkey;refine aT (λW=>W.cell? ⟨gc,0,Ag⟩=Ai (.slice x.mods.a x.mods.l.length x.mods.c)/\W.cell? ⟨gc,1,Ag⟩=Ai (.slice x.aj.a x.aj.l.length x.aj.c)/\W.cell? ⟨gc,2,Ag⟩=Ai (.slice x.aP.a x.aP.l.length x.aP.c)/\W.cell? ⟨gc,3,Ag⟩=Ai (.slice x.links.a x.links.l.length x.links.c)/\W.cell? ⟨gc,4,Ag⟩=Ai (.slice (Ai ⟨bv,ov,Ag⟩) x.aF.l.length x.aF.c)/\W.cell? ⟨gc,5,Ag⟩=Ai (.slice x.bQ.a x.bQ.l.length x.bQ.c)/\W.cell? ⟨gc,6,Ag⟩=Ai (.slice x.causes.a x.causes.l.length x.causes.c)/\W.cell? ⟨gc,7,Ag⟩=Ai (.slice x.aA.a x.aA.l.length x.aA.c)/\W.cell? ⟨bv,ov+v*7+1,Ag⟩=Ai (.string y.src.m)) 18 kz hHeld (λhHeld=> ?_);refine TS 1 rfl hHeld ?_;simp only[zP,zA,zB,zC];refine TS 2 rfl hHeld ?_;simp only[zP,zA,zB,zC];refine TS 3 rfl hHeld ?_;simp only[zP,zA,zB,zC];refine TS 4 rfl hHeld ?_;simp only[zP,zA,zB,zC];refine TS 5 rfl hHeld ?_;simp only[zP,zA,zB,zC];refine TS 6 rfl hHeld ?_;simp only[zP,zA,zB,zC];refine TS 7 rfl hHeld ?_;simp only[zP,zA,zB,zC];refine TS 8 rfl hHeld ?_;simp only[zP,zA,zB,zC];refine TS 10 rfl hHeld ?_;simp only[zP,zA,zB,zC];refine TS 11 rfl hHeld ?_;simp only[zP,zA,zB,zC];refine TS 12 rfl hHeld ?_;simp only[zP,zA,zB,zC];refine TS 13 rfl hHeld ?_;simp only[zP,zA,zB,zC];refine TS 14 rfl hHeld ?_;simp only[zP,zA,zB,zC];refine TS 15 rfl hHeld ?_;simp only[zP,zA,zB,zC];refine TS 16 rfl hHeld ?_;simp only[zP,zA,zB,zC];refine jB (rs:= [0,9]) kz qz ?_;refine dx.cons rfl (λK hK=> ?_) (dx.cons rfl (λK hK=> ?_) dx.nil)
  .go_simp
   have dI:BD y0.heap.size y0 (W1.alloc (.map #[] 0)).drew:=(cU.out.alloc cU.out.size _).drew;have hM:gT (W1.alloc (.map #[] 0)).drew W1.heap.size 0 (.map []):=(gT.made W1).gr (Gr.ak (X:=λk=>W1.heap.size+1<=k) (by simpa using(BK _ (W1.alloc (.map #[] 0))).drew)) oz;have D8:w.heap.size<=W1.heap.size:=nT aV.out.size cU.out.size;obtain⟨mb,Yu⟩:=ez W1.heap.size;rw[<-Yu]at hM D8 ⊢;obtain⟨W2,Sn⟩:=ez ((W1.alloc (.map #[] 0)).drew);rw[<-Sn]at dI hM;refine hK.out _ _ (λ_=>by first | exact ji.out _ dI | (show _/\_;rw[<-Sn];exact ji.out _ dI)) ?_;rw[<-Sn];have hHeld:=ji.out _ dI;clear hK Yu Sn;refine RQ 9 rfl λK hK=> ?_
   go_simp;rw[<-Hva.out];refine(aD2.out _ dI _).mono ?_;rintro e W3 ⟨rfl,kq⟩;have mF:=dI.trans (kq.mono dI.size);have hM3:gT W3 mb 0 (.map []):=hM.gr (X:=λk=>W2.heap.size<=k) (Gr.ak kq) (by have:=hM.lt;omega);rw[aKZ.out];have hHeld:=ji.out _ mF;refine hK.out _ _ (λ_=>hHeld) ?_;clear hK;refine RQ 17 rfl λK hK=> ?_
   go_simp;refine hK.out _ _ (λ_=>hHeld) ?_;clear hK;refine RQ 18 rfl λK hK=> ?_
   go_simp;refine hK.out _ _ (λh=>absurd h dz) ?_;clear hK;refine RQ 19 rfl λK hK=> ?_
   go_simp;refine hK.out _ _ (λh=>absurd h dz) ?_;clear hK hHeld hM;refine aL kz ?_ _;have HT:=(ai mF (ai hM3 D8));clear dI kq mF hM3 D8;exact UU.out _ _ HT
  .go_simp
   rw[<-Hva.out];have aU:=cU.out.trans (BK _ W1).drew;refine(aD2.out _ aU _).mono ?_;rintro e W2 ⟨rfl,kq⟩;have dI:=aU.trans (kq.mono aU.size);rw[aKZ.out];have hHeld:=ji.out _ dI;refine hK.out _ _ (λ_=>hHeld) ?_;clear hK;refine RQ 0 rfl λK hK=> ?_
   go_simp;have mF:BD y0.heap.size y0 (W2.alloc (.map #[] 0)):=(dI.alloc dI.size _);have hM3:gT (W2.alloc (.map #[] 0)) W2.heap.size 0 (.map []):=gT.made W2;have D8:w.heap.size<=W2.heap.size:=nT aV.out.size dI.size;obtain⟨mb,Yu⟩:=ez W2.heap.size;rw[<-Yu]at hM3 D8 ⊢;obtain⟨W3,Bv⟩:=ez (W2.alloc (.map #[] 0));rw[<-Bv]at mF hM3;have hHeld:=ji.out _ mF;refine hK.out _ _ (λ_=>by first | exact hHeld | (show _/\_;rw[<-Bv];exact hHeld)) ?_;rw[<-Bv];clear hK Bv Yu;refine RQ 17 rfl λK hK=> ?_
   go_simp;refine hK.out _ _ (λ_=>hHeld) ?_;clear hK;refine RQ 18 rfl λK hK=> ?_
   go_simp;refine hK.out _ _ (λh=>absurd h dz) ?_;clear hK;refine RQ 19 rfl λK hK=> ?_
   go_simp;refine hK.out _ _ (λh=>absurd h dz) ?_;clear hK hHeld;refine aL kz ?_ _;have HT:=(ai mF (ai hM3 D8));clear dI kq mF hM3 D8;exact UU.out _ _ HT
 case key=>
  rintro W2 mb ⟨dI,hM2,D8⟩;clear hHeld hmk aCJ cU;have pq:=aV.out.trans (dI.mono aV.out.size);obtain⟨n,hn⟩:=ez (x.mods.l.length+x.aP.l.length);have hni:(x.mods.l.length:Int)+(x.aP.l.length:Int)=(n:Int):=by omega
  have Hn:=lz hn;have hwn:IntKind.i64.wrap (n:Int)=(n:Int):=IntWalk.i64_in _ ⟨oz,oz⟩;rw[hni,hwn];obtain⟨b,NC⟩:=ez W2.heap.size;obtain⟨W3,Bv⟩:=ez (W2.alloc (.cells #[.slice Ag 0 0,.map (Ai mb),.int .i64 src,.int .i64 0,.int .i64 0,.int .i64 0,.int .i64 0,.int .i64 0,.int .i64 0,.int .i64 0,.int .i64 0,.int .i64 0,.int .i64 0,.int .i64 0,.int .i64 0,.int .i64 0,.int .i64 0,.int .i64 0,.int .i64 0,.int .i64 0,.int .i64 0,.int .i64 0,.int .i64 0,.int .i64 0,.int .i64 0,.int .i64 0,.int .i64 0,.int .i64 0,.int .i64 0,.int .i64 0,.int .i64 0,.int .i64 0,.int .i64 0,.int .i64 0,.int .i64 0,.int .i64 0,.int .i64 0,.int .i64 0,.int .i64 0,.int .i64 0,.int .i64 0,.int .i64 0,.int .i64 0,.int .i64 0,.int .i64 0,.int .i64 0,.int .i64 0,.int .i64 0,.int .i64 0,.int .i64 0,.int .i64 0,.int .i64 n] 110));rw[<-NC,<-Bv];have gP:ah W3 b 110 #[.slice Ag 0 0,.map (Ai mb),.int .i64 src,.int .i64 0,.int .i64 0,.int .i64 0,.int .i64 0,.int .i64 0,.int .i64 0,.int .i64 0,.int .i64 0,.int .i64 0,.int .i64 0,.int .i64 0,.int .i64 0,.int .i64 0,.int .i64 0,.int .i64 0,.int .i64 0,.int .i64 0,.int .i64 0,.int .i64 0,.int .i64 0,.int .i64 0,.int .i64 0,.int .i64 0,.int .i64 0,.int .i64 0,.int .i64 0,.int .i64 0,.int .i64 0,.int .i64 0,.int .i64 0,.int .i64 0,.int .i64 0,.int .i64 0,.int .i64 0,.int .i64 0,.int .i64 0,.int .i64 0,.int .i64 0,.int .i64 0,.int .i64 0,.int .i64 0,.int .i64 0,.int .i64 0,.int .i64 0,.int .i64 0,.int .i64 0,.int .i64 0,.int .i64 0,.int .i64 n]:=by rw[Bv,NC];exact ah.new W2 _ _
  have qR:BD W2.heap.size W2 W3:=by rw[Bv];exact bN
  have oU:Bg w W3 x w.heap.size gc b mb 0 (.map []) (λ_=> .slice Ag 0 0) (λ_=> []) src n []:=by
   refine⟨⟨_,sB.new gP⟩,(sA.out.below dI sA.out.lt).below qR (Nat.lt_of_lt_of_le sA.out.lt dI.size),⟨hM2.gr (X:=λk=>W2.heap.size<=k) (Gr.ak qR) (by have:=hM2.lt;omega),D8,λ_ _=>rfl,λ_ _=>World.ownsRow_nil _ _ _ _,λ_ _ _ _ _ g h=>by cases h⟩,λ_ _=>rfl,pq.trans (qR.mono pq.size),nT pq.size qR.size,?_⟩;rw[NC];exact pq.size
  have SK:=lz oU;have d3:W3.cell? ⟨gc,3,Ag⟩=Ai (.slice x.links.a x.links.l.length x.links.c):=oU.cfg.cell 3;clear oU gP hM2 qR pq D8 dI hni hn NC Bv hwn;go_wp2_with fail;clear d3 ji sA;go_loopw [59] (λt wr=>∃(i nm:Nat) (D:DataW Bn) (vf:Nat->Bn) (F:Nat->List aI),i<=x.links.l.length/\t= .int .i64 i/\nm<=2*i/\Bg w wr x w.heap.size gc b mb nm D vf F src n (dD x net src 0 (x.links.l.take i))) (λt _=>x.links.l.length-(E8 t).toNat)
  case atStart=>exact⟨0,0,_,_,_,oz,rfl,oz,SK.out⟩
  case round=>
   clear SK;obtain⟨i,nm,D,vf,F,hi,rfl,uU,hG⟩:=hrel;by_cases hlt:i<x.links.l.length
   .obtain⟨bl,ol,FZ,Ef,hlc⟩:=fZ.keep Hr.out.links hG.lE (show 0<x.links.l.length by omega)
    obtain⟨d0,d1,d2,d3⟩:=hlc i hlt;have yp:dD x net src 0 (x.links.l.take (i+1))=dD x net src 0 (x.links.l.take i)++lC x net src i x.links.l[i]:=by
     rw[Dl hlt,tG];simp[Nat.min_eq_left hi]
    have hk:=aF4.out _ (CS hlt);obtain⟨l,hl⟩:=ez (x.links.l[i]);rw[<-hl]at d0 d1 d2 d3 yp hk;have hii:(i:Int)<(x.links.l.length:Int):=by omega
    have HG:=lz hG;have NM:=lz yp;have Hk:=lz hk;clear hG hlc hl yp hk;by_cases pQ:l.net=net
    .have hne:(l.net !=net)=false:=by simpa using pQ
     go_wp2_with fail;clear d0 d1 d2 d3 FZ Ef;obtain⟨Wl,hWl⟩:=ez (wr.alloc (.cells #[.string l.a,.string l.b,.int .i64 net,.int .i64 l.slow] 46));obtain⟨lb,hlb⟩:=ez wr.heap.size;rw[<-hlb,<-hWl];have Ef:ah Wl lb 46 #[.string l.a,.string l.b,.int .i64 net,.int .i64 l.slow]:=by rw[hWl,hlb];exact ah.new wr _ _
     have qR:BD wr.heap.size wr Wl:=by rw[hWl];exact bN
     have sK:=HG.out.below qR;obtain⟨c0,c1,c2,c3,c4,c5,c6,c7⟩:=sK.conf;have e0:Wl.cell? ⟨lb,0,Ag⟩=Ai (.string l.a):=Ef.cell 0;have e1:Wl.cell? ⟨lb,1,Ag⟩=Ai (.string l.b):=Ef.cell 1;have iR:=bn Wl;have hl0:=sK.cfg.lt;have DL:=Ef.lt;obtain⟨ea,bQ⟩:∃ea:Nat,ea=(bg x l.a).toNat:=⟨_,rfl⟩;obtain⟨eb,Uo⟩:∃eb:Nat,eb=(bg x l.b).toNat:=⟨_,rfl⟩;have Pj:bg x l.a=(ea:Int):=by have:=Hk.out.1;omega
     have uH:bg x l.b=(eb:Int):=by have:=Hk.out.2.1;omega
     have FZ:ea<12:=by have:=yj x l.a;omega
     have aBt:eb<12:=by have:=yj x l.b;omega
     have au:∀(z:Ext Wl) (s:ByteArray),CU 12 #[x.val,.string s] z.w (.int .i64 (bg x s)):=λz s=>
      vI x s z.w (Hr.out.below (sK.lE.trans (z.h.mono sK.sz))) oz oz
     have Sv:=λz=>au z l.a
     have hcb:=λz=>au z l.b
     rw[Pj]at Sv;rw[uH]at hcb;have Hca:=lz Sv;have Hcb:=lz hcb;have Qe:=lz sK;have Yv:=lz (show lC x net src i l=([⟨ea,eb,i⟩,⟨eb,ea,i⟩]:List aI).filter λe=>decide (e.f=src)||decide (x.mods.l.length<=e.f)by unfold lC;rw[if_pos pQ,<-bQ,<-Uo]);clear Sv hcb au sK qR Ef hWl hlb bQ Uo Pj uH HG;refine aB kz kz ?_;repeat (go_big_quiet_step ((go_at_call 12;(first | with_reducible exact dN (Hca.out _) | with_reducible exact dN (Hcb.out _)))))
     refine wpQuiet_nil ?_;intro _ hw';obtain⟨xx,hw''⟩:=hw';subst hw'';have C6:=lz (Qe.out.below xx.h);clear iR Hca Hcb Qe c0 c1 c2 c3 c4 c5 c6 c7 e0 e1 hl0 DL;generalize xx.w=W5 at *;go_wp2_with fail;obtain⟨gp,hgp⟩:=ez W5.heap.size;obtain⟨W6,J5⟩:=ez (W5.alloc (.cells #[.int .i64 ea,.int .i64 eb,.int .i64 i,.int .i64 eb,.int .i64 ea,.int .i64 i] 107));rw[<-hgp,<-J5];have kg:ah W6 gp 107 #[.int .i64 ea,.int .i64 eb,.int .i64 i,.int .i64 eb,.int .i64 ea,.int .i64 i]:=by rw[J5,hgp];exact ah.new W5 _ _
     have hG6:=C6.out.below (W':=W6) (by rw[J5];exact bN);have Vy:∀k,k<12->∀g,(vf k).ownBlock=Ai g->g≠gp:=λk hk g hg=>by have:=((C6.out.e.own k hk).lt g hg).2;omega
     have HI:=lz (ai hG6 (ai kg Vy));clear kg hG6 Vy J5 hgp C6;go_loopw [86] (λt wr'=>∃(j nm':Nat) (D':DataW Bn) (vf':Nat->Bn) (F':Nat->List aI),j<=2/\t= .int .i64 j/\nm'<=2*i+j/\Bg w wr' x w.heap.size gc b mb nm' D' vf' F' src n (dD x net src 0 (x.links.l.take i)++(([⟨ea,eb,i⟩,⟨eb,ea,i⟩]:List aI).take j).filter λe=>decide (e.f=src)||decide (x.mods.l.length<=e.f))/\ah wr' gp 107 #[.int .i64 ea,.int .i64 eb,.int .i64 i,.int .i64 eb,.int .i64 ea,.int .i64 i]/\∀k,k<12->∀g,(vf' k).ownBlock=Ai g->g≠gp) (λt _=>2-(E8 t).toNat)
     case atStart=>exact⟨0,nm,_,_,_,oz,rfl,oz,HI.out.1.same qz,HI.out.2.1,HI.out.2.2⟩
     case round=>
      clear HI;obtain⟨j,nm',D',vf',F',hj,rfl,aWr,hG,kg,Vy⟩:=hrel;by_cases hjl:j<2
      .have Js:=qJ (λe:aI=>decide (e.f=src)||decide (x.mods.l.length<=e.f)) ([⟨ea,eb,i⟩,⟨eb,ea,i⟩]:List aI) j hjl
       have hE:∃e:aI,e=([⟨ea,eb,i⟩,⟨eb,ea,i⟩]:List aI)[j]/\e.f<12/\e.t<12/\e.l=i/\wr.cell? ⟨gp,j*3,Ag⟩=Ai (.int .i64 e.f)/\wr.cell? ⟨gp,j*3+1,Ag⟩=Ai (.int .i64 e.t)/\wr.cell? ⟨gp,j*3+2,Ag⟩=Ai (.int .i64 e.l):=by
        obtain rfl | rfl:j=0\/j=1:=by omega
        .exact⟨⟨ea,eb,i⟩,rfl,FZ,aBt,rfl,kg.cell 0,kg.cell 1,kg.cell 2⟩
        .exact⟨⟨eb,ea,i⟩,rfl,aBt,FZ,rfl,kg.cell 3,kg.cell 4,kg.cell 5⟩
       obtain⟨e,he,KC,Bh,-,g0,g1,g2⟩:=hE;rw[<-he]at Js;have Hfs:=lz Js;have HG:=lz hG;have UK:=lz kg;have Hnp:=lz Vy;clear Js hG kg Vy he;have CA:(j:Int)<2:=by omega
       go_wp2_with fail;clear g0 g1 g2;obtain⟨bx,aF6⟩:=ez wr.heap.size;obtain⟨W7,Cw⟩:=ez (wr.alloc (.cells #[.int .i64 e.f,.int .i64 e.t,.int .i64 e.l] 107));rw[<-aF6,<-Cw];have gP:ah W7 bx 107 #[.int .i64 e.f,.int .i64 e.t,.int .i64 e.l]:=by rw[Cw,aF6];exact ah.new wr _ _
       have qR:BD wr.heap.size wr W7:=by rw[Cw];exact bN
       have K3:=HG.out.below qR;have aF7:=UK.out.below qR UK.out.lt;have pE:∀k,k<12->∀g,(vf' k).ownBlock=Ai g->g≠bx:=λk hk g hg=>by have:=((HG.out.e.own k hk).lt g hg).2;omega
       have aWs:gp<W7.heap.size:=aF7.lt;obtain⟨k1,k2⟩:=K3.reads;obtain⟨c0,c1,c2,c3,c4,c5,c6,c7⟩:=K3.conf;have x0:W7.cell? ⟨bx,0,Ag⟩=Ai (.int .i64 e.f):=gP.cell 0;have Yw:=lz K3;have Yx:=lz aF7;have DU:=lz gP;have lg:=lz pE;clear HG UK qR Cw aF6 gP K3 aF7 pE;by_cases hp:e.f=src\/x.mods.l.length<=e.f
       .have VB:(decide (e.f=src)||decide (x.mods.l.length<=e.f))=true:=by simpa using hp
        have aF8:=lz (show(([⟨ea,eb,i⟩,⟨eb,ea,i⟩]:List aI).take (j+1)).filter (λe=>decide (e.f=src)||decide (x.mods.l.length<=e.f))=(([⟨ea,eb,i⟩,⟨eb,ea,i⟩]:List aI).take j).filter (λe=>decide (e.f=src)||decide (x.mods.l.length<=e.f))++ [e]from by rw[Hfs.out,if_pos VB]);clear Hfs VB;have Ss:(((e.f:Int)==(src:Int))=BR)\/(((e.f:Int)==(src:Int))=Bj/\(x.mods.l.length:Int)<=(e.f:Int)):=by
         by_cases c:e.f=src
         .exact .inl (by simp[c])
         .exact .inr ⟨qo,by have:=hp.resolve_left c;omega⟩
        rcases Ss with hq | ⟨hq,lS⟩
        all_goals
         go_quiet (fail);go_wp2_with fail;clear c0 c1 c2 c3 c4 c5 c6 c7 k1 k2 x0;obtain⟨V,hV⟩:=ez (W7.drewN nq);have hBV:BD W7.heap.size W7 V:=by rw[hV];exact aD (BK _ _)
         have Yy:V.heap.size=W7.heap.size:=by rw[hV];rfl
         rw[<-hV];have hGV:=Yw.out.below hBV;have aKa:=Yx.out.below hBV Yx.out.lt;have aKb:=DU.out.below hBV DU.out.lt;obtain⟨k1,-⟩:=hGV.reads;obtain⟨Av,cv,hvm,hc1,qc⟩:=bp (hGV.e.own e.f KC);have uT:=(hGV.e.below (W':=V.drew) (BK _ V).drew).map.look (e.f:Int) (x9 e.f oz) (hGV.e.at_ e.f KC);have hown:=hGV.e.own e.f KC;rw[hvm]at uT hown;have hFl:(F' e.f).length<=66:=by
          rw[hGV.f e.f KC];refine nT (List.length_filter_le _ _) ?_;exact UQ oz hj
         obtain⟨i0,lX,hz0,hz1,hz2⟩:=info_parts aBV;have HGV:=lz hGV;have aKc:=lz aKa;have Yz:=lz aKb;have kZ:=lz hown;have Hvm:=lz hvm;have aPC:=lz Yy;clear hGV aKa aKb hown hvm hV hBV Yw Yx DU Yy;have hHeld:(λW=>W.cell? ⟨bx,0,Ag⟩=Ai (.int .i64 e.f)/\W.cell? ⟨bx,1,Ag⟩=Ai (.int .i64 e.t)/\W.cell? ⟨bx,2,Ag⟩=Ai (.int .i64 e.l)/\W.cell? ⟨b,1,Ag⟩=Ai (.map (Ai mb))/\(Instr.lookup 104 (.map (Ai mb)) (.int .i64 e.f) Bj).run pG W= .ok (.slice Av (F' e.f).length cv) W) V.drew:=⟨Yz.out.cell 0,Yz.out.cell 1,Yz.out.cell 2,k1,uT⟩;clear uT k1;refine aT (λW=>W.cell? ⟨bx,0,Ag⟩=Ai (.int .i64 e.f)/\W.cell? ⟨bx,1,Ag⟩=Ai (.int .i64 e.t)/\W.cell? ⟨bx,2,Ag⟩=Ai (.int .i64 e.l)/\W.cell? ⟨b,1,Ag⟩=Ai (.map (Ai mb))/\(Instr.lookup 104 (.map (Ai mb)) (.int .i64 e.f) Bj).run pG W= .ok (.slice Av (F' e.f).length cv) W) 16 kz hHeld (λhHeld=> ?_);refine TS 0 rfl hHeld ?_;simp only[zP,zA,zB,zC];refine TS 1 rfl hHeld ?_;simp only[zP,zA,zB,zC];refine TS 2 rfl hHeld ?_;simp only[zP,zA,zB,zC];refine TS 3 rfl hHeld ?_;simp only[zP,zA,zB,zC];refine TS 4 rfl hHeld ?_;simp only[zP,zA,zB,zC];refine TS 5 rfl hHeld ?_;simp only[zP,zA,zB,zC];refine TS 6 rfl hHeld ?_;simp only[zP,zA,zB,zC];refine TS 7 rfl hHeld ?_;simp only[zP,zA,zB,zC];refine TS 8 rfl hHeld ?_;simp only[zP,zA,zB,zC];refine TS 9 rfl hHeld ?_;simp only[zP,zA,zB,zC];refine TS 10 rfl hHeld ?_;simp only[zP,zA,zB,zC];refine TS 11 rfl hHeld ?_;simp only[zP,zA,zB,zC];refine TS 12 rfl hHeld ?_;simp only[zP,zA,zB,zC];refine TS 13 rfl hHeld ?_;simp only[zP,zA,zB,zC];refine RQ 14 rfl λK hK=> ?_
         go_simp;have aCM:BD V.heap.size V (V.alloc (.cells #[.int .i64 e.f,.int .i64 e.t,.int .i64 e.l] 107)).drew:=(bN).drew;have qj:=HGV.out.below aCM;have Od:=Yz.out.below aCM Yz.out.lt;have aCN:=qj.looks KC;rw[Hvm.out]at aCN;refine hK.out _ _ (λ_=>⟨Od.cell 0,Od.cell 1,Od.cell 2,aCN.1,aCN.2⟩) ?_;have aPD:=lz qj;have aKe:=lz Od;have aKf:=lz (aKc.out.below aCM aKc.out.lt);clear hK hHeld aCM qj Od aCN;refine RQ 15 rfl λK hK=> ?_
         refine step_append_lies _ (by rfl) (.tmp 117) (.tmp 119) 187 (by rfl) w.heap.size 107 i0 _ 3 24 underlying187 lX hz0 hz1 hz2 (by rfl) dz (.slice Av (F' e.f).length cv) (F' e.f).length _ (by rfl) ((kZ.out.alloc _).drew) ⟨V.heap.size,0,Ag⟩ 1 1 [.int .i64 e.f,.int .i64 e.t,.int .i64 e.l] (by rfl) (by rfl) ?c1 ?c2 oz (by unfold EW;omega) oz ?c3 (V.heap.size+1) ?c4 ?_
         case c1=>
          intro j' u hj';rw[bO,Nat.zero_add,((ah.new V 107 #[.int .i64 e.f,.int .i64 e.t,.int .i64 e.l]).drew).cell j'];simpa using hj'
         case c2=>intro u' kQ;simp at kQ;rcases kQ with rfl | rfl | rfl<;>rfl
         case c3=>have:=HGV.out.sz;simp;omega
         case c4=>simp
         intro g cap W8 Es hg8 hat wu;have aCO:((V.alloc (.cells #[.int .i64 e.f,.int .i64 e.t,.int .i64 e.l] 107)).drew).grownBy W8 (vf' e.f).ownBlock:=by rw[Hvm.out];exact hg8
         have aGA:=Gr.eO (X:=λk=>(vf' e.f).ownBlock=Ai k) aCO (λk e=>e);have aCP:=aGA.blk aKe.out (λh=>lg.out _ KC _ h rfl);have YA:=aGA.blk aKf.out (λh=>Hnp.out _ KC _ h rfl);obtain⟨hl8,hm8⟩:=aPD.out.looksAt KC aCO;rw[Hvm.out]at hl8;refine hK.out _ _ (λ_=>⟨aCP.cell 0,aCP.cell 1,aCP.cell 2,hl8.1,hl8.2⟩) ?_;obtain⟨W9,hput,hm9,VD⟩:=hm8.put (by unfold EW;omega) (e.f:Int) (x9 e.f oz) (.slice (Ai ⟨g,0,Ag⟩) ((F' e.f).length+1) cap);have aKh:=(Gr.eO (X:=(· =mb)) VD (λk e=>by cases e;rfl)).blk YA (λe=>by
          subst e;obtain⟨⟨es,clock,h1,_⟩,_⟩:=hm8;unfold ah at YA;rw[h1]at YA;cases YA)
         have hG9:Bg w W9 x w.heap.size gc b mb (nm'+1) _ _ _ src n _:=(HGV.out.below (W':=V.drew) (BK _ V).drew).add (e:=e) (v:= .slice (Ai ⟨g,0,Ag⟩) ((F' e.f).length+1) cap) (o:= .cells #[.int .i64 e.f,.int .i64 e.t,.int .i64 e.l] 107) KC Es (show(V.drew.alloc _).grownBy W8 (vf' e.f).ownBlock from aCO) (λg' Nv=>by
          have:g=g':=ES.inj (show Ai g=Ai g' from Nv);subst this;rcases hat with hat | hat
          .exact .inl (by rw[Hvm.out];exact hat)
          .have h9:V.heap.size<=g:=by omega
           exact .inr h9) hm9 VD
         have aKi:∀k,k<12->∀g',(if k=e.f then Value.slice (Ai ⟨g,0,Ag⟩) ((F' e.f).length+1) cap else vf' k).ownBlock=Ai g'->g'≠gp:=λk hk g' Nv=>by
          split at Nv
          .have:g=g':=ES.inj (show Ai g=Ai g' from Nv)
           subst this;rcases hat with hat | hat
           .exact Hnp.out e.f KC _ (by rw[Hvm.out];exact hat)
           .have:=aPC.out;omega
          .exact Hnp.out k hk _ Nv
         have HR:=lz (ai hG9 (ai aKh aKi));clear hK aCP YA hl8 hm8 hm9 VD aKh hG9 aKi aCO aGA Es hg8 hat wu;refine RQ 16 rfl λK hK=> ?_
         go_simp;refine hK.out _ _ (λh=>absurd h dz) ?_;clear hK hput;refine aL kz ?_ _;go_wp2;go_roundw
         case rel=>
          refine⟨j+1,nm'+1,_,_,_,oz,by go_num,oz,HR.out.1.same ?_,HR.out.2.1,HR.out.2.2⟩;rw[aF8.out,List.append_assoc]
         case measure=>simp[E8];omega
       .obtain⟨Cr,zO⟩:=not_or.1 hp
        have VB:¬(decide (e.f=src)||decide (x.mods.l.length<=e.f))=true:=by simpa using hp
        have aF8:=lz (show(([⟨ea,eb,i⟩,⟨eb,ea,i⟩]:List aI).take (j+1)).filter (λe=>decide (e.f=src)||decide (x.mods.l.length<=e.f))=(([⟨ea,eb,i⟩,⟨eb,ea,i⟩]:List aI).take j).filter (λe=>decide (e.f=src)||decide (x.mods.l.length<=e.f))from by rw[Hfs.out,if_neg VB,List.append_nil]);have hq:((e.f:Int)==(src:Int))=false:=by simp;omega
        have lS:(e.f:Int)<(x.mods.l.length:Int):=by omega
        clear Hfs VB hp Cr zO;go_quiet (fail);go_wp2_with fail;clear c0 c1 c2 c3 c4 c5 c6 c7 k1 k2 x0;go_roundw
        case rel=>
         have hBV:BD W7.heap.size W7 (W7.drewN nq):=aD (BK _ _);exact⟨j+1,nm',_,_,_,oz,by go_num,oz,(Yw.out.below hBV).same (by rw[aF8.out]),Yx.out.below hBV Yx.out.lt,Hnp.out⟩
        case measure=>simp[E8];omega
      .obtain rfl:j=2:=by omega
       have HG:=lz hG;clear hG kg Vy;go_wp2;go_roundw
       case rel=>exact⟨i+1,nm',_,_,_,oz,by go_num,oz,HG.out.same (by rw[NM.out,Yv.out];rfl)⟩
       case measure=>simp[E8];omega
    .have hne:(l.net !=net)=true:=by simpa using pQ
     go_wp2;go_roundw
     case rel=>
      refine⟨i+1,nm,D,vf,F,oz,by go_num,oz,?_⟩;exact(HG.out.below (bN)).same (by rw[NM.out,zW x src i pQ,List.append_nil])
     case measure=>simp[E8];omega
   .obtain rfl:i=x.links.l.length:=by omega
    have hee:dD x net src 0 (x.links.l.take x.links.l.length)=gj x net src:=by rw[List.take_length];rfl
    rw[hee]at hG;have Gs:=lz (aIi (gj x net src) HEd.out hG.f w wr hG.search Qc);clear hG hee;go_wp2_with fail;refine Gs.out.mono ?_;rintro e W9 ⟨⟨vv,rfl⟩,Vp⟩;have HS9:=lz Vp;clear Vp Gs;go_wp2_with fail;refine GJ (results_tmp2 rfl _ _ _) rfl ?_;refine⟨b,mb,nm,D,vf,F,rfl,?_⟩;rw[<-Hn.out];unfold dW;rw[<-Hsr.out];exact HS9.out
def Ab(x:ay)(v net:Int):Bool:=decide (cW x=0)&&decide (0<=v)&&decide (v<x.aF.l.length)&&decide (0<=net)&&decide (net<=1)
theorem oV{x:ay}{v net:Int}:Ab x v net=BR↔cW x=0/\0<=v/\v<x.aF.l.length/\0<=net/\net<=1:=by
 unfold Ab;simp only[Bool.and_eq_true,decide_eq_true_eq];constructor
 .rintro⟨⟨⟨⟨a,b⟩,c⟩,d⟩,e⟩;exact⟨a,b,c,d,e⟩
 .rintro⟨a,b,c,d,e⟩;exact⟨⟨⟨⟨a,b⟩,c⟩,d⟩,e⟩
theorem Oe(x:ay)(v net:Int)(w:Al)(hr:x.rd w w.heap.size)(hL:ct w)(hx:∀r∈x.causes.l,r.x.n<=8796093021952)(jT:Ab x v net=Bj):
 CU 32 #[x.val,.int .i64 v,.int .i64 net] w (.tuple #[.pointer Ag,.bool Bj]):=by
 obtain⟨y0,bR⟩:=ez (w.alloc (.cells #[.slice x.mods.a x.mods.l.length x.mods.c,.slice x.aj.a x.aj.l.length x.aj.c,.slice x.aP.a x.aP.l.length x.aP.c,.slice x.links.a x.links.l.length x.links.c,.slice x.aF.a x.aF.l.length x.aF.c,.slice x.bQ.a x.bQ.l.length x.bQ.c,.slice x.causes.a x.causes.l.length x.causes.c,.slice x.aA.a x.aA.l.length x.aA.c] 31));obtain⟨gc,uW⟩:=ez w.heap.size;have bW:BD w.heap.size w y0:=by rw[bR];exact bN
 have bS:ah y0 gc 31 x.arr:=by rw[bR,uW];exact ah.new w _ _
 have UR:=yx x y0 (hr.below bW) (hL.below bW) hx;have je:∀W,BD y0.heap.size y0 W->W.cell? ⟨gc,0,Ag⟩=Ai (.slice x.mods.a x.mods.l.length x.mods.c)/\W.cell? ⟨gc,1,Ag⟩=Ai (.slice x.aj.a x.aj.l.length x.aj.c)/\W.cell? ⟨gc,2,Ag⟩=Ai (.slice x.aP.a x.aP.l.length x.aP.c)/\W.cell? ⟨gc,3,Ag⟩=Ai (.slice x.links.a x.links.l.length x.links.c)/\W.cell? ⟨gc,4,Ag⟩=Ai (.slice x.aF.a x.aF.l.length x.aF.c)/\W.cell? ⟨gc,5,Ag⟩=Ai (.slice x.bQ.a x.bQ.l.length x.bQ.c)/\W.cell? ⟨gc,6,Ag⟩=Ai (.slice x.causes.a x.causes.l.length x.causes.c)/\W.cell? ⟨gc,7,Ag⟩=Ai (.slice x.aA.a x.aA.l.length x.aA.c):=λW hW=>by
  have h1:=bS.below hW bS.lt;exact⟨h1.cell 0,h1.cell 1,h1.cell 2,h1.cell 3,h1.cell 4,h1.cell 5,h1.cell 6,h1.cell 7⟩
 have Ss:(cW x !=0)=BR\/((cW x !=0)=Bj/\v<0)\/((cW x !=0)=Bj/\0<=v/\(x.aF.l.length:Int)<=v)\/((cW x !=0)=Bj/\0<=v/\v<(x.aF.l.length:Int)/\net<0)\/((cW x !=0)=Bj/\0<=v/\v<(x.aF.l.length:Int)/\0<=net/\1<net):=by
  by_cases a:cW x=0
  .have a':(cW x !=0)=false:=by simp[a]
   by_cases b:v<0
   .exact .inr (.inl ⟨a',b⟩)
   .by_cases c:v<(x.aF.l.length:Int)
    .by_cases d:net<0
     .exact .inr (.inr (.inr (.inl ⟨a',oz,c,d⟩)))
     .by_cases f:net<=1
      .have:=oV.2 ⟨a,oz,c,oz,f⟩
       rw[this]at jT;cases jT
      .exact .inr (.inr (.inr (.inr ⟨a',oz,c,oz,oz⟩)))
    .exact .inr (.inr (.inl ⟨a',oz,oz⟩))
  .exact .inl (by simp[a])
 have aCJ:=lz UR;have ji:=lz je;have aV:=lz bW;have dV:=lz bR;have Oc:=lz uW;clear bR bW bS UR hr hL hx je uW jT;generalize cW x=q at *;go_enter func32,ntmps32;obtain⟨c0,c1,c2,c3,c4,c5,c6,c7⟩:=ji.out y0 (BK _ _);rw[dV.out]at c0 c1 c2 c3 c4 c5 c6 c7;rw[Oc.out]at c0 c1 c2 c3 c4 c5 c6 c7;go_wp2_with fail;rw[<-dV.out,<-Oc.out];clear c0 c1 c2 c3 c4 c5 c6 c7;refine aCJ.out.mono ?_;rintro e W1 ⟨rfl,aU⟩;obtain⟨c0,c1,c2,c3,c4,c5,c6,c7⟩:=ji.out W1 aU;have cU:=lz (aV.out.trans (aU.mono aV.out.size));clear aU;rcases Ss with h1 | ⟨h1,h2⟩ | ⟨h1,h2,h3⟩ | ⟨h1,h2,h3,h4⟩ | ⟨h1,h2,h3,h4,h5⟩
 all_goals
  go_wp2_with fail;refine GJ (results_tmp2 rfl _ _ _) rfl ?_;exact⟨rfl,cU.out⟩
theorem QN(l:List Int)(ad:Addr)(c:Nat)(w:Al)(je:∀j u,(l.map (GL .i64))[j]?=Ai u->w.cell? (ad.add j)=Ai u)(hl:l.length<=100000):
 Calls pG 33 #[.slice (Ai ad) l.length c] w λe w'=>∃A' c',e= .returned (.slice A' l.length c')/\l.length<=c'/\c'<=EW/\w'.ownsRow w.heap.size 3 1 (.slice A' l.length c') l.length (l.map (GL .i64))/\BD w.heap.size w w':=by
 obtain⟨i0,lX,hz0,hz1,hz2⟩:=info_parts Nw;have hnil:=fun(n c:Nat) W=>Lib.run_eql_slice_nil (P:=pG) W 36 3 (Ai ad) n c 0 0 underlying36
 have hlt:∀j u,(l.map (GL .i64))[j]?=Ai u->(w.alloc (.cells #[] 3)).cell? (ad.add j)=Ai u:=λj u hu=>by
  have:=je j u hu;rw[World.cell?_alloc_lt _ _ _ (World.block_lt_of_cell? w _ this)];exact this
 have ji:=lz hlt;have Hfl:=lz (show(l.map (GL .i64)).length=l.length*1 by simp);clear hlt je;go_enter func33,ntmps33;go_wp2_with (at_builtin;refine wpList_append_own _ rfl _ _ 36 rfl w.heap.size 3 i0 (.int .i64 0) 1 8 underlying36 lX hz0 hz1 hz2 rfl dz _ 0 [] rfl (World.ownsRow_made _ #[] 0 nL (by simp[EW]) qz) ad l.length c (l.map (GL .i64)) rfl Hfl.out ji.out ?c2 ?c3 ?c4 ?c5 ?_)
 case c2=>intro u hu;obtain⟨r,_,rfl⟩:=List.mem_map.1 hu;rfl
 case c3=>unfold EW;omega
 case c4=>omega
 case c5=>simp
 intro v' w2 hown2 hgrow hnl;have hB:BD w.heap.size w w2:=(bN).grown hgrow qz (λk hk=>by simp[Value.ownBlock]at hk;omega);obtain⟨A',c',rfl,h1,h2⟩:=bp hown2;have kX:=lz hown2;clear hown2 hgrow hnl;go_wp2;go_ret;exact⟨A',c',rfl,h1,h2,by simpa using kX.out,hB⟩
def mh(x:ay)(net:Int)(y:fU):List Int:=(dW x net y).d.take (x.mods.l.length+x.aP.l.length)
theorem K4(x:ay)(v net:Int)(w:Al)(hr:x.rd w w.heap.size)(hL:ct w)(hx:∀r∈x.causes.l,r.x.n<=8796093021952)(jT:Ab x v net=Bj):
 CU 11 #[x.val,.int .i64 v,.int .i64 net] w (.tuple #[.slice Ag 0 0,.int .i64 2]):=by
 obtain⟨y0,bR⟩:=ez (w.alloc (.cells #[.slice x.mods.a x.mods.l.length x.mods.c,.slice x.aj.a x.aj.l.length x.aj.c,.slice x.aP.a x.aP.l.length x.aP.c,.slice x.links.a x.links.l.length x.links.c,.slice x.aF.a x.aF.l.length x.aF.c,.slice x.bQ.a x.bQ.l.length x.bQ.c,.slice x.causes.a x.causes.l.length x.causes.c,.slice x.aA.a x.aA.l.length x.aA.c] 31));have bW:BD w.heap.size w y0:=by rw[bR];exact bN
 have bS:ah y0 w.heap.size 31 x.arr:=by rw[bR];exact ah.new w _ _
 have oU:=Oe x v net y0 (hr.below bW) (hL.below bW) hx jT;have c0:=bS.cell 0;have c1:=bS.cell 1;have c2:=bS.cell 2;have c3:=bS.cell 3;have c4:=bS.cell 4;have c5:=bS.cell 5;have c6:=bS.cell 6;have c7:=bS.cell 7;rw[bR]at c0 c1 c2 c3 c4 c5 c6 c7;simp only[ay.arr,List.getElem?_toArray,List.getElem?_cons_zero,List.getElem?_cons_succ]at c0 c1 c2 c3 c4 c5 c6 c7;have SK:=lz oU;have aV:=lz bW;have dV:=lz bR;clear bR bW bS oU hr hL hx jT;go_enter func11,ntmps11;go_wp2_with fail;rw[<-dV.out];clear c0 c1 c2 c3 c4 c5 c6 c7;refine SK.out.mono ?_;rintro e W1 ⟨rfl,aU⟩;have cU:=lz (aV.out.trans (aU.mono aV.out.size));clear aU;go_wp2_with fail;refine GJ (results_tmp2 rfl _ _ _) rfl ?_;exact⟨rfl,cU.out⟩
theorem add_plain(b o j:Nat):(⟨b,o,Ag⟩:Addr).add j=⟨b,o+j,Ag⟩:=by unfold Addr.add;split<;>simp_all
theorem ql(x:ay)(v:Nat)(net:Int)(w:Al)(hr:x.rd w w.heap.size)(hL:ct w)(hx:∀r∈x.causes.l,r.x.n<=8796093021952)(hc:cW x=0)(hv:v<x.aF.l.length)(qw:0<=net)(NI:net<=1):
 Calls pG 11 #[x.val,.int .i64 (v:Int),.int .i64 net] w λe w'=>∃A c,e= .returned (.tuple #[.slice A (mh x net x.aF.l[v]).length c,.int .i64 0])/\(mh x net x.aF.l[v]).length<=c/\c<=EW/\
  w'.ownsRow w.heap.size 3 1 (.slice A (mh x net x.aF.l[v]).length c) (mh x net x.aF.l[v]).length ((mh x net x.aF.l[v]).map (GL .i64))/\BD w.heap.size w w':=by
 obtain⟨y0,bR⟩:=ez (w.alloc (.cells #[.slice x.mods.a x.mods.l.length x.mods.c,.slice x.aj.a x.aj.l.length x.aj.c,.slice x.aP.a x.aP.l.length x.aP.c,.slice x.links.a x.links.l.length x.links.c,.slice x.aF.a x.aF.l.length x.aF.c,.slice x.bQ.a x.bQ.l.length x.bQ.c,.slice x.causes.a x.causes.l.length x.causes.c,.slice x.aA.a x.aA.l.length x.aA.c] 31));have bW:BD w.heap.size w y0:=by rw[bR];exact bN
 have bS:ah y0 w.heap.size 31 x.arr:=by rw[bR];exact ah.new w _ _
 have oU:=Aa x v net y0 (hr.below bW) (hL.below bW) hx hc hv qw NI;have hN:x.mods.l.length+x.aP.l.length<=12:=Eo hc;obtain⟨y,hy⟩:=ez (x.aF.l[v]);rw[<-hy]at oU ⊢;have I6:(mh x net y).length=x.mods.l.length+x.aP.l.length:=by
  have h1:=(jw hc net (y:=y) (by rw[hy];exact CS hv)).inv.len;unfold mh;rw[List.length_take];omega
 have c0:=bS.cell 0;have c1:=bS.cell 1;have c2:=bS.cell 2;have c3:=bS.cell 3;have c4:=bS.cell 4;have c5:=bS.cell 5;have c6:=bS.cell 6;have c7:=bS.cell 7;rw[bR]at c0 c1 c2 c3 c4 c5 c6 c7;simp only[ay.arr,List.getElem?_toArray,List.getElem?_cons_zero,List.getElem?_cons_succ]at c0 c1 c2 c3 c4 c5 c6 c7;obtain⟨n,hn⟩:=ez (x.mods.l.length+x.aP.l.length);rw[<-hn]at hN I6 oU;have SK:=lz oU;have aV:=lz bW;have dV:=lz bR;have Hdl:=lz I6;have Hn:=lz hn;clear bR bW bS oU hr hL hx hc I6 hy hn;go_enter func11,ntmps11;go_wp2_with fail;rw[<-dV.out];clear c0 c1 c2 c3 c4 c5 c6 c7;refine SK.out.mono ?_;rintro e W1 ⟨b,mb,nm,D,vf,F,rfl,hS⟩;have HS:=lz hS;clear hS;go_wp2_with fail;have bY:BD w.heap.size w W1.drew:=(aV.out.trans (HS.out.lE.mono aV.out.size)).trans (BK _ _).drew;have hS1:=HS.out.below (W':=W1.drew) (BK _ _).drew;have k51:=hS1.q.k2.2.2;have hni:(n:Int)<=12:=by omega
 have cC:=QN (mh x net y) ⟨b,3,Ag⟩ 12 W1.drew (λj u hu=>by
  rw[add_plain];have hj:j<n:=by
   have:=(List.getElem?_eq_some_iff.1 hu).1;rw[List.length_map,Hdl.out]at this;exact this
  have h1:=(hS1.q.kd j oz).1;rw[h1];rw[List.getElem?_map]at hu;unfold mh at hu;rw[List.getElem?_take_of_lt (by rw[<-Hn.out];exact hj)]at hu;rw[List.getD_eq_getElem?_getD]
  cases hd:(dW x net y).d[j]? with
  | none=>rw[hd]at hu;cases hu
  | some d=>rw[hd]at hu;simpa using hu) (by rw[Hdl.out];omega)
 have Ej:=lz cC;have cU:=lz bY;clear cC bY hS1 HS;rw[Hdl.out]at Ej;have hHeld:(λW=>W.cell? ⟨b,51,Ag⟩=Ai (.int .i64 (n:Int))) W1.drew:=k51;clear k51;refine aT (λW=>W.cell? ⟨b,51,Ag⟩=Ai (.int .i64 (n:Int))) 8 kz hHeld (λhHeld=> ?_);refine TS 0 rfl hHeld ?_;simp only[zP,zA,zB,zC];refine TS 1 rfl hHeld ?_;simp only[zP,zA,zB,zC];refine TS 2 rfl hHeld ?_;simp only[zP,zA,zB,zC];refine TS 3 rfl hHeld ?_;simp only[zP,zA,zB,zC];refine TS 4 rfl hHeld ?_;simp only[zP,zA,zB,zC];refine TS 5 rfl hHeld ?_;simp only[zP,zA,zB,zC];refine TS 6 rfl hHeld ?_;simp only[zP,zA,zB,zC];refine TS 7 rfl hHeld ?_;simp only[zP,zA,zB,zC];refine RQ 8 rfl λK hK=> ?_
 go_simp;refine Ej.out.mono ?_;rintro e W2 ⟨A,c,rfl,h1,h2,h3,h4⟩;have HR:=lz (ai h1 (ai h2 (ai h3 h4)));refine hK.out _ _ (λh=>absurd h dz) ?_;clear hK hHeld h1 h2 h3 h4;refine RQ 9 rfl λK hK=> ?_
 go_simp;refine hK.out _ _ (λh=>absurd h dz) ?_;clear hK;refine RQ 10 rfl λK hK=> ?_
 go_simp;refine hK.out _ _ (λh=>absurd h dz) ?_;clear hK;refine aL kz ?_ _;go_wp2_with fail;refine GJ (results_tmp2 rfl _ _ _) rfl ?_;obtain⟨r1,r2,r3,r4⟩:=HR.out;refine⟨A,c,by rw[Hdl.out];rfl,by rw[Hdl.out];exact r1,r2,?_,cU.out.trans (r4.mono cU.out.size)⟩;rw[Hdl.out];exact nV r3 cU.out.size
