import Derived.Test.YtmdgooofdmpcjaaGreatDoorY16
set_option maxRecDepth 100000
set_option maxHeartbeats 8000000
set_option linter.unusedSimpArgs false
set_option linter.unusedVariables false
set_option linter.unusedSectionVars false
open Go.Proofs.Tryz renaming prog → pG
open Bool renaming false->Bj,true->BR
open List renaming append_assoc->IZ,cons_append->GQ,getD_eq_getElem?_getD->E1,getElem?_eq_none->Ic,getElem_mem->CS,length_cons->Ia,length_map->FD,map_append->JO,mem_append->E2,mem_cons->BU,nil_append->GY,replicate->Fe
open Nat renaming lt_of_lt_of_le->EU
open Option renaming none->Ag,some->Ai
open Go.Proofs.Tryz
namespace Go.Proofs.YtmdgooofdmpcjaaGreatDoor
open Go renaming Addr->EK,Calls->ET,Value->Bn,World->Al,bodyPost_ret->GJ,undef->BA
open Value renaming int->GL
open World renaming block_lt_of_cell?->G4,putObj_heap_other->EM,putObj_heap_same->G7,size_alloc->Dj
section
open Go.ChangeShapes Go.WideShapes Go.ChangeAt Go.RowKit
attribute [local go_sem] Oper.semAt_some
theorem iq.dn{w w':Al}{B B':Nat}{A:Option EK}{l:List aI}(h:iq w B A l)(hB:B<=B')(hk:∀b o,b<B->w'.cell? ⟨b,o,Ag⟩=w.cell? ⟨b,o,Ag⟩):iq w' B' A l:=λhn=>by
 obtain⟨b,o,rfl,gD,hc⟩:=h hn;exact⟨b,o,rfl,oz,λi hi=>⟨(hk b _ gD).trans (hc i hi).1,(hk b _ gD).trans (hc i hi).2.1,(hk b _ gD).trans (hc i hi).2.2⟩⟩
theorem iq.keep{w w':Al}{B:Nat}{A:Option EK}{l:List aI}(h:iq w B A l)(hb:Below B w w'):iq w' B A l:=h.dn nL (cZ hb)
theorem iq.below{w w':Al}{A:Option EK}{l:List aI}(h:iq w w.heap.size A l)(hb:Below w.heap.size w w'):iq w' w'.heap.size A l:=h.dn hb.size (cZ hb)
theorem aCS(r x:aI)(W:Al):(binOp .neq 53 r.val x.val).run pG W= .ok (.bool (!decide (r=x))) W:=by
 have u3:=underlying3;have hS:pG.underlying 53=Ai (.struct (pG.fieldsOf 53)):=by kernel_rfl
 have hp:pG.stoodInHeld 53=false:=by kernel_rfl
 obtain⟨a,b,c⟩:=r;obtain⟨a',b',c'⟩:=x;rw[run_neq_struct,show(10000:Nat)=9999+1 from rfl,run_equalIn_agg W 9999 53 _ _ hS hp];simp only[Program.fieldsOf,underlying53];go_simp;by_cases h1:a=a'<;>by_cases h2:b=b'<;>by_cases h3:c=c'<;>simp[h1,h2,h3]<;>omega
theorem QS(r x:aI)(a b:Operand)(W:Al):(eqGuard .neq 53 a b r.val x.val).run pG W= .ok () W:=run_eqGuard_agg W .neq 53 a b _ _ kz
theorem Et(a b:List Int)(A1 A2:Option EK)(c1 c2:Nat)(w:Al)(ha:fV w w.heap.size A1 a)(hb:fV w w.heap.size A2 b)(hl:a.length<=100000):
 CU 18 #[.slice A1 a.length c1,.slice A2 b.length c2] w (.bool (eqL a b)):=by
 have Ha:=lz ha;have Hb:=lz hb;clear ha hb
 cases hne:((a.length:Int) !=b.length)with
 | true=>
  have Hr:=lz (SQ hne);go_enter func18,ntmps18;go_wp2;go_ret;exact⟨fT Hr.out.symm,Below.refl _ _⟩
 | false=>
  have hab:a.length=b.length:=by
   have:(a.length:Int)=b.length:=by simpa using hne
   omega
  have Hab:=lz hab;clear hab;go_enter func18,ntmps18;go_wp2;go_loopw [5] (λt wr=>∃k:Nat,k<=a.length/\t= .int .i64 k/\Below w.heap.size w wr/\Hid (∀j (h1:j<a.length) (h2:j<b.length),j<k->a[j]=b[j])) (λt wr=>a.length-(intOf t).toNat)
  case atStart=>exact⟨0,nZ,rfl,Below.refl _ _,λj _ _ h=>absurd h oz⟩
  case round=>
   obtain⟨k,hk,rfl,hB,aJ⟩:=hrel;by_cases hlt:k<a.length
   .have sF:k<b.length:=by have:=Hab.out;omega
    obtain⟨g1,o1,rfl,hg1,hc1⟩:=(Ha.out.keep hB) oz;obtain⟨g2,o2,rfl,eG,qc⟩:=(Hb.out.keep hB) oz;have d1:=hc1 k hlt;have d2:=qc k sF;clear hc1 qc;have Oh:=YG hlt sF;have Eu:=lz Oh;have pE:a[k]=b[k]->∀j (h1:j<a.length) (h2:j<b.length),j<k+1->a[j]=b[j]:=λe j h1 h2 hj=>by
     by_cases ej:j=k
     .subst ej;exact e
     .exact aJ.out j h1 h2 oz
    have lg:=lz pE;have HB:=lz hB;clear Oh pE aJ hB;generalize a[k]=x at *;generalize b[k]=y at *;by_cases e:x=y
    .have he:(x !=y)=false:=by simp[e]
     have hn:=lz (lg.out e);clear lg Eu e;go_wp2_with fail;go_quiet (fail);go_wp2;go_roundw
     case rel=>exact⟨k+1,oz,by go_num,aD HB.out,hn⟩
     case measure=>simp[intOf];omega
    .have he:(x !=y)=true:=by simp[e]
     have hn:=lz (Eu.out e);clear lg Eu e;go_wp2_with fail;go_quiet (fail);go_wp2;go_ret;exact⟨fT hn.out.symm,aD HB.out⟩
   .have hn:=lz (SS Hab.out λj h1 h2=>aJ.out j h1 h2 oz)
    clear aJ;go_wp2;go_ret;exact⟨fT hn.out.symm,hB⟩
theorem Ev(a b:List aI)(A1 A2:Option EK)(c1 c2:Nat)(w:Al)(ha:iq w w.heap.size A1 a)(hb:iq w w.heap.size A2 b)(hl:a.length<=100000):
 CU 14 #[.slice A1 a.length c1,.slice A2 b.length c2] w (.bool (eqL a b)):=by
 have Ha:=lz ha;have Hb:=lz hb;clear ha hb
 cases hne:((a.length:Int) !=b.length)with
 | true=>
  have Hr:=lz (SQ hne);go_enter func14,ntmps14;go_wp2;go_ret;exact⟨fT Hr.out.symm,Below.refl _ _⟩
 | false=>
  have hab:a.length=b.length:=by
   have:(a.length:Int)=b.length:=by simpa using hne
   omega
  have Hab:=lz hab;clear hab;go_enter func14,ntmps14;go_wp2;go_loopw [5] (λt wr=>∃k:Nat,k<=a.length/\t= .int .i64 k/\Below w.heap.size w wr/\Hid (∀j (h1:j<a.length) (h2:j<b.length),j<k->a[j]=b[j])) (λt wr=>a.length-(intOf t).toNat)
  case atStart=>exact⟨0,nZ,rfl,Below.refl _ _,λj _ _ h=>absurd h oz⟩
  case round=>
   obtain⟨k,hk,rfl,hB,aJ⟩:=hrel;by_cases hlt:k<a.length
   .have sF:k<b.length:=by have:=Hab.out;omega
    obtain⟨g1,o1,rfl,hg1,hc1⟩:=(Ha.out.keep hB) oz;obtain⟨g2,o2,rfl,eG,qc⟩:=(Hb.out.keep hB) oz;obtain⟨d1,d2,d3⟩:=hc1 k hlt;obtain⟨d4,d5,d6⟩:=qc k sF;have hq:=λW=>aCS a[k] b[k] W
    have hg:=λx y W=>QS a[k] b[k] x y W
    clear hc1 qc;have Oh:=YG hlt sF;have Eu:=lz Oh;have pE:a[k]=b[k]->∀j (h1:j<a.length) (h2:j<b.length),j<k+1->a[j]=b[j]:=λe j h1 h2 hj=>by
     by_cases ej:j=k
     .subst ej;exact e
     .exact aJ.out j h1 h2 oz
    have lg:=lz pE;have HB:=lz hB;clear Oh pE aJ hB;generalize a[k]=x at *;generalize b[k]=y at *;by_cases e:x=y
    .rw[dT e]at hq
     have hn:=lz (lg.out e);clear lg Eu e;go_wp2_with fail;go_quiet (fail);go_wp2;go_roundw
     case rel=>exact⟨k+1,oz,by go_num,aD HB.out,hn⟩
     case measure=>simp[intOf];omega
    .rw[dF e]at hq
     have hn:=lz (Eu.out e);clear lg Eu e;go_wp2_with fail;go_quiet (fail);go_wp2;go_ret;exact⟨fT hn.out.symm,aD HB.out⟩
   .have hn:=lz (SS Hab.out λj h1 h2=>aJ.out j h1 h2 oz)
    clear aJ;go_wp2;go_ret;exact⟨fT hn.out.symm,hB⟩
end
section
open Go.ChangeShapes Go.WideShapes Go.ChangeAt Go.RowKit Go.Sort
attribute [local go_sem] Oper.semAt_some
open Go.Act renaming put → zP
open List renaming setIfInBounds_toArray → zA, set_cons_zero → zB, set_cons_succ → zC
theorem U0(w:Al)(a b c:Obj):(((w.alloc a).alloc b).alloc c).drew=grow (w.drewN 1) #[a,b,c]:=by
 show((w.alloc a).alloc b).drew.alloc c=_;rw[alloc_eq_grow,show((w.alloc a).alloc b).drew=grow (w.drewN 1) #[a,b]from by rw[alloc_eq_grow,alloc_eq_grow,grow_grow];rfl,grow_grow];rfl
def K6(d:List Int)(a c:aI):Int:=orV (d.getD a.t (-1)-d.getD c.t (-1)) ((a.t:Int)-c.t)
theorem YH(d:List Int)(a c:aI)(ha:a.t<12)(hc:c.t<12)(hd:∀i,-1<=d.getD i (-1)/\d.getD i (-1)<=12)(sb b:Nat)(w:Al)(hs:w.cell? ⟨sb,0,Ag⟩=Ai (.pointer (Ai ⟨b,0,Ag⟩)))(hb:∀i,i<12->w.cell? ⟨b,3+i,Ag⟩=Ai (.int .i64 (d.getD i (-1)))):
 ET pG 40 #[a.val,c.val,.pointer (Ai ⟨sb,0,Ag⟩)] w λe w'=>e= .returned (.int .i64 (K6 d a c))/\∃q os',w'=grow (w.drewN q) os':=by
 obtain⟨y0,bR⟩:=ez ((w.alloc (.cells #[.int .i64 a.f,.int .i64 a.t,.int .i64 a.l] 53)).alloc (.cells #[.int .i64 c.f,.int .i64 c.t,.int .i64 c.l] 53));have bW:Below w.heap.size w y0:=by rw[bR];exact(bN).alloc qz _
 have hba:ah y0 w.heap.size 53 #[.int .i64 a.f,.int .i64 a.t,.int .i64 a.l]:=by rw[bR];exact(ah.new w _ _).alloc _
 have yh:ah y0 (w.heap.size+1) 53 #[.int .i64 c.f,.int .i64 c.t,.int .i64 c.l]:=by
  rw[bR];have:=ah.new (w.alloc (.cells #[.int .i64 a.f,.int .i64 a.t,.int .i64 a.l] 53)) 53 #[.int .i64 c.f,.int .i64 c.t,.int .i64 c.l]
  rwa[Dj]at this
 have hsz:y0.heap.size=w.heap.size+2:=by rw[bR];simp
 have hsb:=G4 w _ hs;have mz:=G4 w _ (hb 0 oz);have hHeld:∀W,Below y0.heap.size y0 W->W.cell? ⟨sb,0,Ag⟩=Ai (.pointer (Ai ⟨b,0,Ag⟩))/\W.cell? ⟨w.heap.size,1,Ag⟩=Ai (.int .i64 a.t)/\W.cell? ⟨w.heap.size+1,1,Ag⟩=Ai (.int .i64 c.t)/\W.cell? ⟨b,3+a.t,Ag⟩=Ai (.int .i64 (d.getD a.t (-1)))/\W.cell? ⟨b,3+c.t,Ag⟩=Ai (.int .i64 (d.getD c.t (-1))):=λW hW=>by
  have h2:=bW.trans (hW.mono bW.size);exact⟨(h2.cell (p:=⟨sb,0,Ag⟩) hsb).trans hs,(hba.below hW hba.lt).cell 1,(yh.below hW yh.lt).cell 1,(h2.cell (p:=⟨b,3+a.t,Ag⟩) mz).trans (hb _ ha),(h2.cell (p:=⟨b,3+c.t,Ag⟩) mz).trans (hb _ hc)⟩
 obtain⟨da,hda⟩:=ez (d.getD a.t (-1));obtain⟨dc,hdc⟩:=ez (d.getD c.t (-1));have TD:=hd a.t;have hd2:=hd c.t;have aPL:=lz (show K6 d a c=orV (da-dc) ((a.t:Int)-c.t)by rw[hda,hdc];rfl);rw[<-hda]at hHeld TD;rw[<-hdc]at hHeld hd2;obtain⟨da1,da2⟩:=TD;obtain⟨dc1,dc2⟩:=hd2;have hai:(a.t:Int)<12:=by omega
 have hci:(c.t:Int)<12:=by omega
 have cN:IntKind.i64.wrap (da-dc)=da-dc:=IntWalk.i64_in _ ⟨oz,oz⟩;have hw2:IntKind.i64.wrap ((a.t:Int)-(c.t:Int))=(a.t:Int)-c.t:=IntWalk.i64_in _ ⟨oz,oz⟩;have uh:=lz hHeld;have aV:=lz bW;have dV:=lz bR;have Hsz:=lz hsz;have hH:=hHeld y0.drew (Below.refl _ _).drew;clear hHeld bW hba yh hsz bR hs hb hsb mz hd hda hdc;go_enter func40,ntmps40;go_wp2_with fail;rw[<-dV.out];refine aT (λW=>W.cell? ⟨sb,0,Ag⟩=Ai (.pointer (Ai ⟨b,0,Ag⟩))/\W.cell? ⟨w.heap.size,1,Ag⟩=Ai (.int .i64 a.t)/\W.cell? ⟨w.heap.size+1,1,Ag⟩=Ai (.int .i64 c.t)/\W.cell? ⟨b,3+a.t,Ag⟩=Ai (.int .i64 da)/\W.cell? ⟨b,3+c.t,Ag⟩=Ai (.int .i64 dc)) 20 kz hH (λhHeld=> ?_);refine TS 0 rfl hHeld ?_;simp only[zP,zA,zB,zC];refine TS 1 rfl hHeld ?_;simp only[zP,zA,zB,zC];refine TS 2 rfl hHeld ?_;simp only[zP,zA,zB,zC];refine TS 3 rfl hHeld ?_;simp only[zP,zA,zB,zC];refine TS 4 rfl hHeld ?_;simp only[zP,zA,zB,zC];refine TS 5 rfl hHeld ?_;simp only[zP,zA,zB,zC];refine TS 6 rfl hHeld ?_;simp only[zP,zA,zB,zC];refine TS 7 rfl hHeld ?_;simp only[zP,zA,zB,zC];refine TS 8 rfl hHeld ?_;simp only[zP,zA,zB,zC];refine TS 9 rfl hHeld ?_;simp only[zP,zA,zB,zC];refine TS 10 rfl hHeld ?_;simp only[zP,zA,zB,zC];refine TS 11 rfl hHeld ?_;simp only[zP,zA,zB,zC];refine TS 12 rfl hHeld ?_;simp only[zP,zA,zB,zC];refine TS 13 rfl hHeld ?_;simp only[zP,zA,zB,zC];refine TS 14 rfl hHeld ?_;simp only[zP,zA,zB,zC];refine TS 15 rfl hHeld ?_;simp only[zP,zA,zB,zC];refine TS 16 rfl hHeld ?_;simp only[zP,zA,zB,zC];refine TS 17 rfl hHeld ?_;simp only[zP,zA,zB,zC];refine TS 18 rfl hHeld ?_;simp only[zP,zA,zB,zC];refine TS 19 rfl hHeld ?_;simp only[zP,zA,zB,zC];refine RQ 20 rfl λK hK=> ?_
 go_simp;obtain⟨W1,hW1⟩:=ez ((y0.alloc (.cells #[.int .i64 (da-dc),.int .i64 ((a.t:Int)-c.t)] 3)).drew);obtain⟨rb,iy⟩:=ez y0.heap.size;have bY:Below y0.heap.size y0 W1:=by rw[hW1];exact(bN).drew
 have iO:ah W1 rb 3 #[.int .i64 (da-dc),.int .i64 ((a.t:Int)-c.t)]:=by rw[hW1,iy];exact(ah.new y0 _ _).drew
 refine hK.out _ _ (λh=>absurd h dz) ?_;clear hK hHeld;rw[<-hW1];have rA:=lz iO;have KE:=lz (show∃q os',W1=grow (w.drewN q) os' from⟨1,_,by rw[hW1,dV.out];exact U0 w _ _ _⟩);rw[<-iy];clear iO bY hW1 iy;refine RQ 21 rfl λK hK=> ?_
 go_simp;refine(Sm (da-dc) ((a.t:Int)-c.t) _ 2 W1 (λ_=>⟨rb,0,rfl,rA.out.lt,λi hi=> ?_⟩) nL).mono ?_
 .simp only[Ia,List.length_nil]at hi
  obtain rfl | rfl:i=0\/i=1:=by omega
  .exact rA.out.cell 0
  .exact rA.out.cell 1
 rintro e w' ⟨rfl,rfl⟩;refine hK.out _ _ (λh=>absurd h dz) ?_;clear hK;refine RQ 22 rfl λK hK=> ?_
 go_simp;refine hK.out _ _ (λh=>absurd h dz) ?_;clear hK;refine aL kz ?_ _;go_wp2;go_ret;exact⟨by rw[aPL.out];rfl,KE.out⟩
abbrev jx:={e:aI // e.t<12}
instance:Inhabited jx:=⟨⟨aI.zero,dz⟩⟩
def mq(x:jx):List Value:=x.1.cells
theorem Oi(l:List jx):(l.flatMap mq).length=l.length*3:=by
 induction l with
 | nil=>rfl
 | cons r l ih=>simp[mq,aI.cells]at ih ⊢;omega
theorem Jv(l:List jx)(t:Nat)(ht:t<l.length*3):(l.flatMap mq)[t]?=Ai ((flatK mq 3 l.toArray)[t]!):=by
 rw[get_flatK mq 3 l.toArray t (by simpa using ht)];have h1:t/3<l.length:=by omega
 rw[show(l.toArray)[t/3]! =l[t/3]from by simp[h1]];have h:=aS mq 3 (λ_=>rfl) l (t/3) (t%3) h1 oz;rw[show t/3*3+t%3=t from by omega]at h;rw[h];have h3:t%3=0\/t%3=1\/t%3=2:=by omega
 rcases h3 with e | e | e<;>simp[e,mq,aI.cells]
theorem Ew{w:Al}{base g cap:Nat}{l:List jx}(h:w.ownsRow base 53 3 (.slice (Ai ⟨g,0,Ag⟩) l.length cap) l.length (l.flatMap mq)):HoldsK mq 3 w g 0 l.toArray:=by
 intro t ht;have Sg:t<l.length*3:=by simpa using ht
 rw[Nat.zero_add];have hc:=h.cells (g:=g) rfl t _ (Jv l t Sg);rw[eY]at hc;refine⟨by simpa using hc,?_⟩;have:=h.frozenAt t;simpa using this
theorem BF{w:Al}{base g cap:Nat}{l:List jx}(h:w.ownsRow base 53 3 (.slice (Ai ⟨g,0,Ag⟩) l.length cap) l.length (l.flatMap mq))(n:Nat)(d:Array jx)(hd:d.size=l.length)(os:Array Obj):
 (sortWorldK mq 3 w g 0 n d os).ownsRow base 53 3 (.slice (Ai ⟨g,0,Ag⟩) l.length cap) l.length (d.toList.flatMap mq)/\w.grownBy (sortWorldK mq 3 w g 0 n d os) (Ai g):=by
 rcases h.2 with⟨h0,_⟩ | ⟨g',cap',cur,hv,hb,hh,hlc,Pk,hsz,WY⟩
 .cases h0
 injection hv with Me hv2 hv3
 injection Me with Me
 injection Me with Me
 subst Me hv3;have hg:g<w.heap.size:=ah.lt (t:=53) hh;have hW:(sortWorldK mq 3 w g 0 n d os).heap=(w.heap.modify g (onCells (putCells id 0 (flatK mq 3 d))))++os:=rfl;refine⟨⟨by rw[Oi];simp[hd],.inr ⟨g,cap,putCells id 0 (flatK mq 3 d) cur,rfl,hb,?_,hlc,Pk,?_,?_⟩⟩,⟨rfl,rfl,rfl,?_,?_⟩⟩
 .rw[hW,Array.getElem?_append_left (by simpa using hg),Array.getElem?_modify]
  simp[hh,onCells]
 .simp[putCells,hsz]
 .have key:∀t,t<d.size*3->(putCells id 0 (flatK mq 3 d) cur)[t]?=Ai ((flatK mq 3 d)[t]!):=by
   intro t ht;have htc:t<cur.size:=by rw[hsz];exact EU ht (Nat.mul_le_mul_right 3 oz)
   simp[putCells,htc,ht]
  apply List.ext_getElem?;intro t;by_cases ht:t<l.length*3
  .rw[List.getElem?_take_of_lt ht,Array.getElem?_toList,key t oz]
   have:=Jv d.toList t (by simpa [hd]using ht);rw[this]
  .rw[Ic qo,Ic (by rw[Oi];simp[hd];omega)]
 .rw[hW];simp
 .intro k hk hne
  rw[hW,Array.getElem?_append_left (by simpa using hk),Array.getElem?_modify];rw[if_neg (λe=>hne (by rw[e]))]
def Ey(d:List Int)(x y:jx):Int:=K6 d x.1 y.1
theorem QT{d:List Int}{x y:jx}:Go.Proofs.ltOf (Ey d) x y=BR↔d.getD x.1.t (-1)<d.getD y.1.t (-1)\/(d.getD x.1.t (-1)=d.getD y.1.t (-1)/\x.1.t<y.1.t):=by
 unfold Go.Proofs.ltOf Ey K6 orV;rw[decide_eq_true_eq];split<;>omega
theorem SV(d:List Int):SWO (Go.Proofs.ltOf (Ey d)):=by
 have hf:∀x y:jx,Go.Proofs.ltOf (Ey d) x y=Bj↔¬(d.getD x.1.t (-1)<d.getD y.1.t (-1)\/(d.getD x.1.t (-1)=d.getD y.1.t (-1)/\x.1.t<y.1.t)):=λx y=>by rw[<-QT];simp
 refine⟨λx=>(hf x x).2 oz,λx y z h k=> ?_,λx y z h k=> ?_⟩
 .rw[QT]at h k ⊢;omega
 .rw[hf]at h k ⊢;omega
theorem QU(d:List Int)(hd:∀i,-1<=d.getD i (-1)/\d.getD i (-1)<=12)(sb b base g cap:Nat)(l:List jx)(w:Al)(h:w.ownsRow base 53 3 (.slice (Ai ⟨g,0,Ag⟩) l.length cap) l.length (l.flatMap mq))(hl:l.length<=1000)
 (hs:w.cell? ⟨sb,0,Ag⟩=Ai (.pointer (Ai ⟨b,0,Ag⟩))) (hb:∀i,i<12->w.cell? ⟨b,3+i,Ag⟩=Ai (.int .i64 (d.getD i (-1)))) (hgs:sb≠g) (Ec:b≠g):
 ET pG 39 #[.slice (Ai ⟨g,0,Ag⟩) l.length cap,.func (.func 40) #[] #[.pointer (Ai ⟨sb,0,Ag⟩)]] w λe w'=>e= .returned (.tuple #[])/\∃l':List jx,l'.Perm l/\l'.Pairwise (λx y=>Go.Proofs.ltOf (Ey d) y x=Bj)/\w'.ownsRow base 53 3 (.slice (Ai ⟨g,0,Ag⟩) l.length cap) l.length (l'.flatMap mq)/\w.grownBy w' (Ai g):=by
 have hg:g<w.heap.size:=(h.lt g rfl).2;have hsb:=G4 w _ hs;have mz:=G4 w _ (hb 0 oz);have hsz:l.toArray.size=l.length:=by simp
 have hp:ET pG 109 #[.slice (Ai ⟨g,0,Ag⟩) l.length cap,.int .i64 (0:Nat),.int .i64 l.length,.int .i64 (Lib.bitLen l.length:Nat),.func (.func 40) #[] #[.pointer (Ai ⟨sb,0,Ag⟩)]] w λe w'=>e= .returned (.tuple #[])/\SWK mq 3 w g 0 (pdq (Go.Proofs.ltOf (Ey d)) l.toArray 0 l.length (Lib.bitLen l.length) BR BR) w':=
  Go.Proofs.AnyQ.pdqsortCmpFunc_all Go.Proofs.Tryz.SC 3 Go.Proofs.Tryz.isAgg53 Go.Proofs.Tryz.sizeOf53 mq (Ey d) 40 #[.pointer (Ai ⟨sb,0,Ag⟩)] (SV d) g 0 cap l.toArray w
   (enters_of func40 kz rfl) (λm os dk hdk x y=>by
    have hgr:=(BF h m dk (by rw[hdk];simp) os).2;exact YH d x.1 y.1 x.2 y.2 hd sb b _ ((hgr.cell_far ⟨sb,0,Ag⟩ hsb (by simpa using hgs)).trans hs) (λi hi=>(hgr.cell_far ⟨b,3+i,Ag⟩ mz (by simpa using Ec)).trans (hb i hi)))
   ⟨λ_=>rfl,λx v hv=>by simp[mq,aI.cells]at hv;rcases hv with rfl | rfl | rfl<;>rfl,Ew h,hg⟩ (l.length+1) 0 l.length (Lib.bitLen l.length) l.toArray w oz rfl (SWK.start (Ew h)) nZ qz qo (Nat.lt_of_le_of_lt (Lib.bitLen_le l.length 62 oz oz) oz) (Or.inl rfl)
 have Cb:ET pG 110 #[.int .u64 (l.length:Int)] w λe w'=>e= .returned (.int .i64 (Lib.bitLen l.length:Nat))/\w'=w:=by
  have h:=Go.Proofs.Any.bits_Len (SlLaysF0.n15.bits (P:=pG) {Go.Proofs.Tryz.SC with}) (l.length:Int) w oz oz
  rwa[Int.toNat_natCast]at h
 have BX:=pdq_sorts (Go.Proofs.ltOf (Ey d)) (SV d) l.toArray 0 l.length (Lib.bitLen l.length) BR BR nZ qz (Or.inl rfl);have wr:IntKind.u64.wrap (l.length:Int)=l.length:=by simp[IntKind.wrap,IntKind.bits,IntKind.signed];omega
 have Hh:=lz h;have Hp:=lz hp;have Hl2:=lz Cb;have Hps:=lz BX;clear h hp Cb BX hs hb hd;go_enter func39,ntmps39;go_wp2_with fail;refine Hl2.out.mono ?_;rintro e w' ⟨rfl,rfl⟩;go_wp2_with fail;refine Hp.out.mono ?_;rintro e w' ⟨rfl,n,os,rfl⟩;go_wp2_with fail;obtain⟨⟨hz,_,YI⟩,aEA⟩:=Hps.out;obtain⟨D,hD⟩:=ez (pdq (Go.Proofs.ltOf (Ey d)) l.toArray 0 l.length (Lib.bitLen l.length) BR BR);rw[<-hD]at hz YI aEA ⊢;have hz':D.size=l.length:=by simpa using hz
 obtain⟨h1,h2⟩:=BF Hh.out n D hz' os;refine bodyPost_end (results_none rfl _ _ _) rfl ?_;refine⟨rfl,D.toList,?_,?_,h1,h2⟩
 .have e:D.extract 0 l.length=D:=by rw[<-hz'];simp
  have e2:(l.toArray.extract 0 l.length).toList=l:=by simp
  rw[e,e2]at YI;exact YI
 .rw[List.pairwise_iff_getElem]
  intro i j hi hj hij;have hj':j<D.size:=by simpa using hj
  have:=aEA i j nZ hij oz;rw[getElem!_pos D i oz,getElem!_pos D j hj']at this;simpa using this
end
section
open Go Go.RowKit
def aKs{α:Type}(F:Fence)(n:Nat)(P:Program)(g:Nat)(lb:Array Bn)(encs:α->Array Bn)(Kp:Al->Al->Prop)(S Sp:List α->Prop)(N nb:Nat)(w:Al):Prop:=
 ∀(l:Nat) (J Jx:List α->Al->Prop) (W:Al),Below w.heap.size w W->(∀pre A B,J pre A->A.grownBy B Ag->J pre B)->(∀pre A u,J pre A->J pre (A.setCell ⟨nb,0,Ag⟩ u))->
  (∀pre x W1,J pre W1->pre.length<N->YieldAt F (n-1) P l (encs x) W1 λe W'=>(e= .returned (.bool BR)/\J (pre++ [x]) W'/\Kp W1 W')\/(e= .returned (.bool Bj)/\Jx (pre++ [x]) W'))->
  J [] W->CallsIn F n P g (#[.func (.yield l) #[] #[]]++lb) W λe W'=>(∃v,e= .returned v)/\((∃xs,S xs/\J xs W')\/(∃pre,Sp pre/\Jx pre W'))
theorem yF{w:Al}{nb k:Nat}(u:Bn)(h:k≠nb):(w.setCell ⟨nb,0,Ag⟩ u).heap[k]?=w.heap[k]?:=Below.heap_setCell w ⟨nb,0,Ag⟩ u k h
theorem Ez{A B:Al}{k:Nat}{o:Obj}(h:A.grownBy B Ag)(ho:A.heap[k]?=Ai o):B.heap[k]?=Ai o:=(h.block k (gE ho).1 qz).trans ho
variable {F:Fence} {n:Nat} {P:Program} {w:Al}
theorem uo{α:Type}{g:Operand}{ps:Array Tmp}{assign body:Code}{Q:Exit->Act->Al->Prop}{a:Act}
 (hro:F.round=Ag) (h1:1<=n) {gf nb:Nat} {lb:Array Bn} (hg:a.eval g= .func (.func gf) #[] lb) (hFg:F.fn gf) (eg:∀args w,(callFunc gf args).run P w= .ok (.enter gf args) w)
 {encs:α->Array Bn} {Kp:Al->Al->Prop} {S Sp:List α->Prop} {N:Nat} {w0:Al} (aCT:aKs F (n-1) P gf lb encs Kp S Sp N nb w0) (uH:nb<w.heap.size)
 (hKt:∀{A B C:Al},Kp A B->Kp B C->Kp A C) (hKb:∀(W:Al) (l:Nat) (o o':Obj),w.heap.size<=l->W.heap[l]?=Ai o->o.isCells=Bj->o.isWalk=Bj->Kp W (W.putObj l o')) (bS:Below w0.heap.size w0 w) (BX:∀x,(encs x).size=ps.size)
 (I:List α->Al->Prop) (Ix:Code->List α->Al->Prop) (hI:OwnFrom w.heap.size I) (hIc:∀pre A u,I pre A->I pre (A.setCell ⟨nb,0,Ag⟩ u)) (hIx:∀c,OwnFrom w.heap.size (Ix c)) (h0:I [] w) (Ax:α->Act->Al->Prop) (Kf:∀x a',OwnFrom w.heap.size (fun(_:Unit) W=>Ax x a' W))
 (rm:∀(l:Nat) (pre:List α) (x:α) (W:Al) (K:Act->Al->Prop),I pre W->(∀a' W',KeepsFrom w.heap.size W W'->Kp W W'->I pre W'->Ax x a' W'->K a' W')->
  assign.wpIn (F.inRound l) (n-1-1) P (Exit.then K (λ_ _ _=>False)) {tmps:=(ps.zip (encs x)).foldl (λt (p,v)=>t.setIfInBounds p v) a.tmps,defers:= []} W)
 (DK:∀(l:Nat) (pre:List α) (x:α) (a':Act) (W:Al),w.heap.size<=l->(∃r,W.heap[l]?=Ai (.loop r))->I pre W->Ax x a' W->pre.length<N->body.wpIn (F.inRound l) (n-1-1) P (ownPostG w.heap.size Kp I Ix (pre++ [x]) W) a' W)
 (uK:∀(D:Nat) (xs:List α) (W:Al),w.heap.size<=D->S xs->I xs W->W.heap[D]?=Ai (.deferred (Ai []))->Q .normal {a with defers:={target:= .collected D,args:= #[]} :: a.defers} W)
 (aKt:∀(D:Nat) (c:Code) (pre:List α) (W:Al),w.heap.size<=D->Sp pre->Ix c pre W->W.heap[D]?=Ai (.deferred (Ai []))->c.wpIn F n P Q {a with defers:={target:= .collected D,args:= #[]} :: a.defers} W):
 (Code.rangeFunc g ps assign body).wpIn F n P Q a w:=by
 refine wpIn_rangeFunc λfn RF=> ?_
 rw[hro];obtain⟨rec,jL⟩:∃rec:LoopState->Option Code->Loop,rec=λst pe=>{state:=st,pending:=pe,fn,tmps:=a.tmps,params:=ps,assign,body,defers:=w.heap.size}:=⟨_,rfl⟩
 obtain⟨L,hL⟩:=ez (w.heap.size+1);obtain⟨W1,hW1⟩:=ez ((w.alloc (.deferred (Ai []))).alloc (.loop (rec .ready Ag)));have hs1:W1.heap.size=w.heap.size+2:=by rw[hW1];simp
 have DL:W1.heap[L]?=Ai (.loop (rec .ready Ag)):=by
  have:=World.alloc_heap_new (w.alloc (.deferred (Ai []))) (.loop (rec .ready Ag));rw[Dj]at this;rw[hW1,hL];exact this
 have Cq:W1.heap[w.heap.size]?=Ai (.deferred (Ai [])):=by
  rw[hW1];exact(Below.heap_alloc _ _ _ qz).trans (World.alloc_heap_new w _)
 have Wq:I [] W1:=by rw[hW1];exact hI.alloc _ (hI.alloc _ h0)
 have aU:Below w0.heap.size w0 W1:=by
  rw[hW1];exact bS.trans (((bN).alloc qz _).mono bS.size)
 refine⟨L,[{target:= .collected w.heap.size,args:= #[]}],W1,{target:= .fn (.func gf) lb,args:= #[.func (.yield L) #[] #[]]},W1,gf,#[.func (.yield L) #[] #[]]++lb,W1,?_,?_,?_,?_,λ_=>h1,?_⟩
 .rw[hW1,jL,hL];exact run_enterLoop_outer _ _ _ _ _
 .simp only[resolve,hg]
  simp[go_sem]
 .intro f' PS;simp[Target.leads]at PS;subst PS;exact hFg
 .simp[invoke,go_sem,eg]
 have hLn:L≠nb:=by omega
 have hDn:w.heap.size≠nb:=by omega
 refine(aCT L
  (λpre W=>I pre W/\W.heap[L]?=Ai (.loop (rec .ready Ag))/\W.heap[w.heap.size]?=Ai (.deferred (Ai [])))
  (λpre W=>∃c,Ix c pre W/\W.heap[L]?=Ai (.loop (rec .done (Ai c)))/\W.heap[w.heap.size]?=Ai (.deferred (Ai [])))
  W1 aU
  (λpre A B h hG=>⟨hI pre A B Ag h.1 hG (λr e=>by cases e),Ez hG h.2.1,Ez hG h.2.2⟩)
  (λpre A u h=>⟨hIc pre A u h.1,(yF u hLn).trans h.2.1,(yF u hDn).trans h.2.2⟩)
  ?_ ⟨Wq,DL,Cq⟩).mono ?_
 .rintro pre x W ⟨hi,hl,hk⟩ hlen
  have hy:=run_yield (P:=P) (args:=encs x) hl (by rw[jL];exact BX x);rw[jL]at hy;refine⟨fn,_,assign,body,hy,roundIn_of_wpIn RF (rm _ pre x W _ hi λa' Wa hkf hkp hia Vr=> ?_)⟩;have hl':=hkf.same _ _ oz hl rfl;have WH:=hkf.same _ _ nL hk rfl;have hlt:L<Wa.heap.size:=(gE hl').1;obtain⟨V,hV⟩:=ez (Wa.putObj L (.loop {rec .ready Ag with state:= .busy}));have hlV:V.heap[L]?=Ai (.loop {rec .ready Ag with state:= .busy}):=by rw[hV];exact G7 hlt
  have hkV:V.heap[w.heap.size]?=Ai (.deferred (Ai [])):=by rw[hV];exact(EM oz).trans WH
  have hKV:Kp Wa V:=by rw[hV];exact hKb _ _ _ _ oz hl' rfl rfl
  have hiV:I pre V:=by rw[hV];exact hI.putObj _ hia oz hl' rfl
  have haV:Ax x a' V:=by rw[hV];exact(Kf x a').putObj (s:=()) _ Vr oz hl' rfl
  refine⟨V,by rw[hV];exact run_beginRound hl' (by rw[jL]),?_⟩;refine wpIn_mono (DK _ pre x a' V oz ⟨_,hlV⟩ hiV haV hlen) ?_;have fin:∀(jump:Option Code) (W3:Al),KeepsFrom w.heap.size V W3->∃W4,W4=W3.putObj L (.loop (rec (if jump.isNone then .ready else .done) jump))/\
   (Instr.endRound L jump).run P W3= .ok (.bool jump.isNone) W4/\W3.heap[L]?=Ai (.loop {rec .ready Ag with state:= .busy})/\W4.heap[L]?=Ai (.loop (rec (if jump.isNone then .ready else .done) jump))/\W4.heap[w.heap.size]?=Ai (.deferred (Ai [])):=λjump W3 h3=>by
   have qD:=h3.same _ _ oz hlV rfl;have hr:=run_endRound (P:=P) jump qD;refine⟨_,rfl,?_,qD,G7 (gE qD).1,(EM oz).trans (h3.same _ _ nL hkV rfl)⟩;rw[jL]at hr ⊢;exact hr
  rintro e a3 W3 hp
  cases e with
  | normal=>
   obtain⟨h3,zo,hi3⟩:=hp;obtain⟨W4,rfl,hr,qD,Xk,hk4⟩:=fin Ag W3 h3;exact⟨_,_,hr,.inl ⟨rfl,⟨hI.putObj _ hi3 oz qD rfl,Xk,hk4⟩,hKt hkp (hKt (hKt hKV zo) (hKb _ _ _ _ oz qD rfl rfl))⟩⟩
  | ret=>
   obtain⟨h3,hi3⟩:=hp;obtain⟨W4,rfl,hr,qD,Xk,hk4⟩:=fin (Ai .ret) W3 h3;exact⟨_,_,hr,.inr ⟨rfl,.ret,(hIx _).putObj _ hi3 oz qD rfl,Xk,hk4⟩⟩
  | exit id=>
   obtain⟨h3,hi3⟩:=hp;obtain⟨W4,rfl,hr,qD,Xk,hk4⟩:=fin (Ai (.exit id)) W3 h3;exact⟨_,_,hr,.inr ⟨rfl,.exit id,(hIx _).putObj _ hi3 oz qD rfl,Xk,hk4⟩⟩
  | goto t=>
   obtain⟨h3,hi3⟩:=hp;obtain⟨W4,rfl,hr,qD,Xk,hk4⟩:=fin (Ai (.goto t)) W3 h3;exact⟨_,_,hr,.inr ⟨rfl,.goto t,(hIx _).putObj _ hi3 oz qD rfl,Xk,hk4⟩⟩
  | panic ch=>exact hp.elim
  | outgrown=>exact hp.elim
 .rintro e W2 ⟨⟨v,rfl⟩,(⟨xs,hS,hi,hl,hk⟩ | ⟨pre,hSp,c,hi,hl,hk⟩)⟩
  .exact⟨Ag,_,by have:=run_endLoop (P:=P) hl (by rw[jL];simp);rw[jL]at this;exact this,uK _ xs _ nL hS (hI.putObj _ hi oz hl rfl) ((EM oz).trans hk)⟩
  .exact⟨Ai c,_,by have:=run_endLoop (P:=P) hl (by rw[jL];simp);rw[jL]at this;exact this,aKt _ c pre _ nL hSp ((hIx c).putObj _ hi oz hl rfl) ((EM oz).trans hk)⟩
end
section
open Go.ChangeShapes Go.WideShapes Go.ChangeAt Go.RowKit Go.Sort
attribute [local go_sem] Oper.semAt_some
open Go.Act renaming put → zP
open List renaming setIfInBounds_toArray → zA, set_cons_zero → zB, set_cons_succ → zC
structure Gv(mk ob:Nat)(A B:Al):Prop where
 size:A.heap.size<=B.heap.size
 blk:∀k t cs,ah A k t cs->t≠53->k≠mk->k≠ob->ah B k t cs
theorem Gv.trans{mk ob:Nat}{A B C:Al}(h:Gv mk ob A B)(k:Gv mk ob B C):Gv mk ob A C:=⟨nT h.size k.size,λj t cs hj h1 h2 h3=>k.blk j t cs (h.blk j t cs hj h1 h2 h3) h1 h2 h3⟩
theorem Gv.put{mk ob:Nat}(W:Al)(l:Nat)(o o':Obj)(hl:W.heap[l]?=Ai o)(ho:o.isCells=Bj):Gv mk ob W (W.putObj l o'):=
 ⟨qz,λk t cs hk _ _ _=>by
  have:k≠l:=λe=>by
   subst e;unfold ah at hk;rw[hl]at hk;cases hk;cases ho
  exact(EM this).trans hk⟩
theorem Gv.below{mk ob:Nat}{A B:Al}(h:Below A.heap.size A B):Gv mk ob A B:=⟨h.size,λk t cs hk _ _ _=>hk.below h hk.lt⟩
def Oj(s:aQ)(nb:Nat)(w:Al):Nat:=match w.cell? ⟨nb,0,Ag⟩with | some (.int _ v)=>(s.at v.toNat).toNat | _=>0
theorem YJ{E:List aI}{src n:Nat}{s:aQ}(aGF:aQ.Inv E 12 src s)(qv:Bn)(aKu nb sb b mk ob M m:Nat)(hM:1<=M)(hm:0<=s.at m)(aCU:m<12)(hE:∀e∈E,e.f<12/\e.t<12)(cs:Array Bn)(w:Al)
 (hmk:mk<w.heap.size) (Cc:ob<w.heap.size) (hn:ah w nb 3 #[.int .i64 m]) (hs:ah w sb 98 #[.pointer (Ai ⟨b,0,Ag⟩)]) (hb:sB w b aKu qv src n s.d s.p cs) (h1:nb≠mk) (h2:nb≠ob) (h3:sb≠mk) (h4:sb≠ob) (h5:b≠mk) (h6:b≠ob):
 aKs Fence.wide M pG 108 #[.pointer (Ai ⟨nb,0,Ag⟩),.pointer (Ai ⟨sb,0,Ag⟩)] (λe:jx=> #[e.1.val]) (Gv mk ob) (λxs=>xs.map (·.1)=s.chain src m) (λpre=>pre.map (·.1) <+: s.chain src m) (s.chain src m).length nb w:=by
 intro l J Jx W hW hJg hJc hY h0;have hnW:=hn.below hW hn.lt;have hsW:=hs.below hW hs.lt;have Pq:=hb.move (hb.blk.below hW hb.blk.lt);have aKv:=hW.size;have aGG:nb≠sb:=hn.Fu hs dz;have aPO:nb≠b:=hn.Fu hb.blk dz;refine callsIn_of_wp func108 rfl trivial ?_ rfl;simp only[ntmps108,List.size_toArray,Ia,List.length_nil,Nat.reduceAdd,Nat.reduceSub,Array.replicate_succ,Array.replicate_zero,List.push_toArray,List.append_toArray,GY,GQ];gi_wp2;gi_loopw [5] (λt wr=>∃(k:Nat) (pre:List jx),k<12/\0<=s.at k/\s.chain src m=pre.map (·.1)++s.chain src k/\J pre wr/\ah wr nb 3 #[.int .i64 k]/\ah wr sb 98 #[.pointer (Ai ⟨b,0,Ag⟩)]/\sB wr b aKu qv src n s.d s.p cs/\w.heap.size<=wr.heap.size) (λt wr=>Oj s nb wr)
 case atStart=>exact⟨m,[],aCU,hm,rfl,h0,hnW,hsW,Pq,aKv⟩
 case round=>
  clear h0 hnW hsW Pq aKv;obtain⟨k,pre,aGH,Vt,hch,hJ,hnr,K2,I8,hsz⟩:=hrel;have c1:wr.cell? ⟨nb,0,Ag⟩=Ai (.int .i64 k):=hnr.cell 0;have Hm:=lz (show Oj s nb wr=(s.at k).toNat by unfold Oj;rw[c1];rfl);have c2:wr.cell? ⟨sb,0,Ag⟩=Ai (.pointer (Ai ⟨b,0,Ag⟩)):=K2.cell 0;have c3:wr.cell? ⟨b,2,Ag⟩=Ai (.int .i64 src):=I8.k2;have HJ:=lz (ai hJ (ai hnr (ai K2 (ai I8 hch))));have HY:=lz hY;have HJg:=lz hJg;have HJc:=lz hJc;clear hJ hnr K2 I8 hch hY hJg hJc hn hs hb hW;by_cases hks:k=src
  .have hne:((k:Int) !=(src:Int))=false:=by simp[hks]
   gi_wp2;refine wpIn_wide.2 ?_;go_quiet (fail);gi_wp2;refine bodyPost_end (results_none rfl _ _ _) rfl ?_;have h9:=HJ.out.2.2.2.2;rw[hks,show s.chain src src= []from IW s src _,List.append_nil]at h9;refine⟨⟨_,rfl⟩,.inl ⟨pre,h9.symm,?_⟩⟩;exact HJg.out _ _ _ HJ.out.1 ⟨rfl,rfl,rfl,nL,λ_ _ _=>rfl⟩
  .have hne:((k:Int) !=(src:Int))=true:=by simp;omega
   gi_wp2;refine wpIn_wide.2 ?_;go_quiet (fail);gi_wp2;obtain⟨V,hV⟩:=ez (wr.drewN nq);rw[<-hV];have hat:s.at k≠0:=λh=>hks ((aGF.zero k).1 h)
   have DE:0<s.at k:=by omega
   obtain⟨p1,p2,p3,p4⟩:=aQ.kR aGF DE;have Mh:=iT aGF DE;obtain⟨e,he⟩:=ez (s.par k);rw[<-he]at p1 p2 p3 p4 Mh;have hbV:Below wr.heap.size wr V:=by rw[hV];exact aD (Below.refl _ _)
   have hnV:=HJ.out.2.1.below hbV HJ.out.2.1.lt;have hsV:=HJ.out.2.2.1.below hbV HJ.out.2.2.1.lt;have hrV:=HJ.out.2.2.2.1.move (HJ.out.2.2.2.1.blk.below hbV HJ.out.2.2.2.1.blk.lt);have hJV:J pre V:=HJg.out _ _ _ HJ.out.1 (by rw[hV];exact⟨rfl,rfl,rfl,nL,λ_ _ _=>rfl⟩);have Yy:w.heap.size<=V.heap.size:=nT hsz hbV.size;have q0:V.cell? ⟨b,15+k*3,Ag⟩=Ai (.int .i64 e.f):=by rw[he];exact(hrV.blk.cell _).trans (hrV.pc k aGH 0 oz)
   have q1:V.cell? ⟨b,15+k*3+1,Ag⟩=Ai (.int .i64 e.t):=by rw[he];exact(hrV.blk.cell _).trans (hrV.pc k aGH 1 oz)
   have q2:V.cell? ⟨b,15+k*3+2,Ag⟩=Ai (.int .i64 e.l):=by rw[he];exact(hrV.blk.cell _).trans (hrV.pc k aGH 2 oz)
   have hHeld:(λW=>W.cell? ⟨sb,0,Ag⟩=Ai (.pointer (Ai ⟨b,0,Ag⟩))/\W.cell? ⟨nb,0,Ag⟩=Ai (.int .i64 k)/\W.cell? ⟨b,15+k*3,Ag⟩=Ai (.int .i64 e.f)/\W.cell? ⟨b,15+k*3+1,Ag⟩=Ai (.int .i64 e.t)/\W.cell? ⟨b,15+k*3+2,Ag⟩=Ai (.int .i64 e.l)) V.drew:=⟨hsV.cell 0,hnV.cell 0,q0,q1,q2⟩;have HV:=lz (ai hJV (ai hnV (ai hsV hrV)));have Hch:Hid (s.chain src m=pre.map (·.1)++e :: s.chain src e.f):=lz (by rw[HJ.out.2.2.2.2,Mh]);have Hp:=lz (ai p1 (ai p2 (ai p3 p4)));have hki:(k:Int)<12:=by omega
   have aGI:b<V.heap.size:=hrV.blk.lt;clear hV hbV hnV hsV hrV hJV q0 q1 q2 p1 p2 p3 p4 Mh he c1 c2 c3 HJ;refine wpIn_wide.2 ?_;refine aT (λW=>W.cell? ⟨sb,0,Ag⟩=Ai (.pointer (Ai ⟨b,0,Ag⟩))/\W.cell? ⟨nb,0,Ag⟩=Ai (.int .i64 k)/\W.cell? ⟨b,15+k*3,Ag⟩=Ai (.int .i64 e.f)/\W.cell? ⟨b,15+k*3+1,Ag⟩=Ai (.int .i64 e.t)/\W.cell? ⟨b,15+k*3+2,Ag⟩=Ai (.int .i64 e.l)) 7 kz hHeld (λhHeld=> ?_);refine TS 0 rfl hHeld ?_;simp only[zP,zA,zB,zC];refine TS 1 rfl hHeld ?_;simp only[zP,zA,zB,zC];refine TS 2 rfl hHeld ?_;simp only[zP,zA,zB,zC];refine TS 3 rfl hHeld ?_;simp only[zP,zA,zB,zC];refine TS 4 rfl hHeld ?_;simp only[zP,zA,zB,zC];refine TS 5 rfl hHeld ?_;simp only[zP,zA,zB,zC];refine RQ 6 rfl λK hK=> ?_
   go_simp;have yU:Below V.heap.size V (V.alloc (.cells #[.int .i64 0,.int .i64 0,.int .i64 0] 107)).drew:=(bN).drew;have hr6:=HV.out.2.2.2.move (HV.out.2.2.2.blk.below yU HV.out.2.2.2.blk.lt);refine hK.out _ _ (λ_=>⟨(HV.out.2.2.1.below yU HV.out.2.2.1.lt).cell 0,(HV.out.2.1.below yU HV.out.2.1.lt).cell 0,(yU.cell (p:=⟨b,15+k*3,Ag⟩) aGI).trans hHeld.2.2.1,(yU.cell (p:=⟨b,15+k*3+1,Ag⟩) aGI).trans hHeld.2.2.2.1,(yU.cell (p:=⟨b,15+k*3+2,Ag⟩) aGI).trans hHeld.2.2.2.2⟩) ?_;clear hK hHeld yU hr6;refine RQ 7 rfl λK hK=> ?_
   go_simp;refine hK.out _ _ (λh=>absurd h dz) ?_;clear hK;refine aL kz ?_ _;have QV:ah (V.alloc (.cells #[.int .i64 e.f,.int .i64 e.t,.int .i64 e.l] 107)).drew V.heap.size 107 #[.int .i64 e.f,.int .i64 e.t,.int .i64 e.l]:=(ah.new V _ _).drew;have aCW:Below V.heap.size V (V.alloc (.cells #[.int .i64 e.f,.int .i64 e.t,.int .i64 e.l] 107)).drew:=(bN).drew;have aEB:=aCW;obtain⟨W1,hW1⟩:=ez ((V.alloc (.cells #[.int .i64 e.f,.int .i64 e.t,.int .i64 e.l] 107)).drew);obtain⟨eb,Uo⟩:=ez V.heap.size;rw[<-hW1]at QV aCW ⊢;rw[<-Uo]at QV ⊢;have z0:W1.cell? ⟨eb,0,Ag⟩=Ai (.int .i64 e.f):=QV.cell 0;have z1:W1.cell? ⟨eb,1,Ag⟩=Ai (.int .i64 e.t):=QV.cell 1;have z2:W1.cell? ⟨eb,2,Ag⟩=Ai (.int .i64 e.l):=QV.cell 2;have HW:=lz (ai QV aCW);have HJ1:=lz (show J pre W1 from HJg.out _ _ _ HV.out.1 (by rw[hW1];exact⟨rfl,rfl,rfl,qz,λi hi _=>aEB.block i hi⟩));have aPU:=lz (show pre.length<(s.chain src m).length by rw[Hch.out,List.length_append,FD,Ia];omega);have Heb:=lz (show w.heap.size<=eb by rw[Uo];exact Yy);clear QV aCW aEB hW1 Uo;have aKy:e.t<12:=(hE e Hp.out.1).2;obtain⟨fn,tmps,assign,body,hy,hR⟩:=HY.out pre ⟨e,aKy⟩ W1 HJ1.out aPU.out;dsimp only at hy;gi_wp2;refine hR.mono ?_;rintro e' W3 (⟨rfl,WK,zn⟩ | ⟨rfl,Gf⟩)
   .have hn3:=zn.blk _ _ _ (HV.out.2.1.below HW.out.2 HV.out.2.1.lt) dz h1 h2
    have QM:=zn.blk _ _ _ (HV.out.2.2.1.below HW.out.2 HV.out.2.2.1.lt) dz h3 h4;have kq:=zn.blk _ _ _ (HV.out.2.2.2.blk.below HW.out.2 HV.out.2.2.2.blk.lt) dz h5 h6;have aPV:eb≠mk:=by have:=Heb.out;omega
    have aPW:eb≠ob:=by have:=Heb.out;omega
    have he3:=zn.blk _ _ _ HW.out.1 dz aPV aPW;have aXG:eb≠nb:=he3.Fu hn3 dz;have aPY:w.heap.size<=W3.heap.size:=nT Yy (nT HW.out.2.size zn.size);have e0:W3.cell? ⟨eb,0,Ag⟩=Ai (.int .i64 e.f):=he3.cell 0;have n0:W3.cell? ⟨nb,0,Ag⟩=Ai (.int .i64 k):=hn3.cell 0;have f0:W3.frozen? ⟨nb,0,Ag⟩=false:=hn3.frozen 0;have HF:=lz (ai WK (ai hn3 (ai QM kq)));clear WK hn3 QM kq he3 zn hy hR;gi_wp2;go_roundw
    case rel=>
     obtain⟨p1,p2,p3,p4⟩:=Hp.out;refine⟨e.f,pre++ [⟨e,aKy⟩],(hE e p1).1,p3,by rw[Hch.out,JO,IZ];rfl,HJc.out _ _ _ HF.out.1,by simpa using HF.out.2.1.bX 0 (.int .i64 e.f),HF.out.2.2.1.far aGG.symm _,HV.out.2.2.2.move (HF.out.2.2.2.far aPO.symm _),?_⟩;simpa using aPY
    case measure=>
     obtain⟨p1,p2,p3,p4⟩:=Hp.out;have hc:(W3.setCell ⟨nb,0,Ag⟩ (.int .i64 e.f)).cell? ⟨nb,0,Ag⟩=Ai (.int .i64 e.f):=(HF.out.2.1.bX 0 (.int .i64 e.f)).cell 0;have Vq:Oj s nb (W3.setCell ⟨nb,0,Ag⟩ (.int .i64 e.f))=(s.at e.f).toNat:=by unfold Oj;rw[hc];rfl
     rw[Vq,Hm.out];omega
   .gi_wp2
    refine GJ (results_none rfl _ _ _) rfl ?_;exact⟨⟨_,rfl⟩,.inr ⟨_,by rw[Hch.out];exact⟨s.chain src e.f,qz⟩,Gf⟩⟩
theorem aGJ(b:Nat)(m:Int)(w:Al):ET pG 38 #[.pointer (Ai ⟨b,0,Ag⟩),.int .i64 m] w λe w'=>
 e= .returned (.func (.func 108) #[] #[.pointer (Ai ⟨w.heap.size+1,0,Ag⟩),.pointer (Ai ⟨w.heap.size,0,Ag⟩)])/\Below w.heap.size w w'/\ah w' w.heap.size 98 #[.pointer (Ai ⟨b,0,Ag⟩)]/\ah w' (w.heap.size+1) 3 #[.int .i64 m]:=by
 go_enter func38,ntmps38;go_wp2;go_ret;refine⟨rfl,(bN).alloc qz _,(ah.new w _ _).alloc _,?_⟩;have:=ah.new (w.alloc (.cells #[.pointer (Ai ⟨b,0,Ag⟩)] 98)) 3 #[.int .i64 m]
 rwa[Dj]at this
structure jV(cnt:List Int)(T:List Nat)(B:Nat):Prop where
 len:cnt.length=12
 met:∀t,t<12->(0<cnt.getD t 0↔t∈T)
 lo:∀t,0<=cnt.getD t 0
 hi:∀t,cnt.getD t 0<=B
theorem jV.start:jV (Fe 12 0) [] 0:=by
 have h:∀t,(Fe 12 (0:Int)).getD t 0=0:=λt=>by
  rw[E1,List.getElem?_replicate];split<;>rfl
 exact⟨rfl,λt _=>by rw[h];simp,λt=>by rw[h];exact Int.le_refl _,λt=>by rw[h];exact Int.le_refl _⟩
theorem jV.mark{cnt:List Int}{T:List Nat}{B:Nat}(h:jV cnt T B){t:Nat}(ht:t<12):jV (cnt.set t (cnt.getD t 0+1)) (t :: T) (B+1):=by
 have hg:∀j,(cnt.set t (cnt.getD t 0+1)).getD j 0=if j=t then cnt.getD t 0+1 else cnt.getD j 0:=λj=>gQ _ _ _ _ _ (by rw[h.len];exact ht)
 have h1:=h.lo t;have h2:=h.hi t;refine⟨by simpa using h.len,λj hj=> ?_,λj=> ?_,λj=> ?_⟩
 .rw[hg]
  by_cases e:j=t
  .rw[if_pos e]
   exact⟨λ_=>by simp[e],λ_=>by omega⟩
  .rw[if_neg e,h.met j hj];simp[e]
 .rw[hg];split
  .omega
  .exact h.lo j
 .rw[hg];split
  .omega
  .have:=h.hi j;omega
theorem jV.same{cnt:List Int}{T T':List Nat}{B:Nat}(h:jV cnt T B)(hT:∀t,t∈T↔t∈T'):jV cnt T' B:=⟨h.len,λt ht=>(h.met t ht).trans (hT t),h.lo,h.hi⟩
structure Ad(w0 W:Al)(base gc sb b mk ob mb:Nat)(qv:Bn)(bs:Array Bn)(src n:Nat)(s:aQ)(x:ay)(v:Bn)(L:List aI)(cnt:List Int)(Ds:List Nat):Prop where
 box:sB W b mb qv src n s.d s.p bs
 sbk:ah W sb 98 #[.pointer (Ai ⟨b,0,Ag⟩)]
 Mq:ah W mk 105 (cnt.map (GL .i64)).toArray
 VE:ah W ob 49 #[v]
 row:W.ownsRow base 53 3 v L.length (L.flatMap aI.cells)
 cfg:ah W gc 31 x.arr
 lE:Below base w0 W
 sz:base<=W.heap.size
 hmk:base<=mk
 Cc:base<=ob
 nod:Ds.Nodup
 YK:∀D∈Ds,base<=D/\W.heap[D]?=Ai (.deferred (Ai []))
theorem j8{X:Nat->Prop}{base:Nat}{w0 W W':Al}(h:Below base w0 W)(hs:base<=W.heap.size)(hG:Gr X W W')(hX:∀k,X k->base<=k):Below base w0 W':=
 ⟨hG.os.trans h.os,hG.tape.trans h.tape,hG.output.trans h.output,nT h.size hG.size,λk hk=>(hG.block k oz (λe=>by have:=hX k e;omega)).trans (h.block k hk)⟩
section
variable {w0 W W':Al} {base gc sb b mk ob mb src n:Nat} {qv:Bn} {bs:Array Bn} {s:aQ} {x:ay} {v:Bn} {L:List aI} {cnt:List Int} {Ds:List Nat}
theorem ah.ud{W:Al}{k k':Nat}{t:TypeId}{cs:Array Bn}{o:Obj}(h:ah W k t cs)(h':W.heap[k']?=Ai o)(ho:o.isCells=Bj):k≠k':=λe=>by
 subst e;unfold ah at h;rw[h]at h';cases h';cases ho
theorem Ad.gr{X:Nat->Prop}(h:Ad w0 W base gc sb b mk ob mb qv bs src n s x v L cnt Ds)(hg:Gr X W W')(hX:∀k,X k->base<=k/\((∃cs,ah W k 3 cs)\/(∃o,W.heap[k]?=Ai o/\o.isCells=Bj/\k∉Ds))):Ad w0 W' base gc sb b mk ob mb qv bs src n s x v L cnt Ds:=by
 have hn:∀{k t cs},ah W k t cs->t≠3->¬X k:=fun{k t cs} hb ht hx=>by
  obtain⟨-,⟨cs',h'⟩ | ⟨o,ho,hc,-⟩⟩:=hX k hx
  .exact hb.Fu h' ht rfl
  .exact hb.ud ho hc rfl
 refine⟨h.box.move (hg.blk h.box.blk (hn h.box.blk dz)),hg.blk h.sbk (hn h.sbk dz),hg.blk h.Mq (hn h.Mq dz),hg.blk h.VE (hn h.VE dz),cO h.row hg (λk hk hx=> ?_),hg.blk h.cfg (hn h.cfg dz),j8 h.lE h.sz hg (λk hx=>(hX k hx).1),nT h.sz hg.size,h.hmk,h.Cc,h.nod,λD hD=>⟨(h.YK D hD).1,?_⟩⟩
 .obtain⟨-,⟨cs',h'⟩ | ⟨o,ho,hc,-⟩⟩:=hX k hx
  .exact aW h.row h' dz hk
  .exact iQ h.row ho hc hk
 .have hd:=(h.YK D hD).2
  refine(hg.block D (gE hd).1 (λhx=> ?_)).trans hd;obtain⟨-,⟨cs',h'⟩ | ⟨o,ho,hc,hnd⟩⟩:=hX D hx
  .exact h'.ud hd rfl rfl
  .exact hnd hD
theorem Ad.below(h:Ad w0 W base gc sb b mk ob mb qv bs src n s x v L cnt Ds)(hb:Below W.heap.size W W'):Ad w0 W' base gc sb b mk ob mb qv bs src n s x v L cnt Ds:=
 h.gr (X:=λ_=>False) (Gr.ak hb) (λk hk=>hk.elim)
theorem Ad.YL{nb:Nat}(h:Ad w0 W base gc sb b mk ob mb qv bs src n s x v L cnt Ds)(hn:∃u,ah W nb 3 #[u])(hb:base<=nb)(u:Bn):Ad w0 (W.setCell ⟨nb,0,Ag⟩ u) base gc sb b mk ob mb qv bs src n s x v L cnt Ds:=by
 obtain⟨u0,hn⟩:=hn;exact h.gr (X:=(· =nb)) (Gr.setCell _ _ _ rfl) (λk e=>by subst e;exact⟨hb,.inl ⟨_,hn⟩⟩)
theorem Ad.oth{B:Nat}{row:Option Nat}(h:Ad w0 W base gc sb b mk ob mb qv bs src n s x v L cnt Ds)(hB:base<=B)(hD:∀D∈Ds,D<B)(hg:W.grownBy W' row)(hr:∀r,row=Ai r->B<=r/\∃o:Obj,W.heap[r]?=Ai o/\o.isCells=Bj):Ad w0 W' base gc sb b mk ob mb qv bs src n s x v L cnt Ds:=
 h.gr (X:=λk=>row=Ai k) (Gr.eO hg (λk e=>e)) (λk e=>by
  obtain⟨h1,o,h2,h3⟩:=hr k e;exact⟨oz,.inr ⟨o,h2,h3,λhd=>by have:=hD k hd;omega⟩⟩)
theorem Ad.mark(h:Ad w0 W base gc sb b mk ob mb qv bs src n s x v L cnt Ds)(t:Nat)(c:Int):Ad w0 (W.setCell ⟨mk,t,Ag⟩ (.int .i64 c)) base gc sb b mk ob mb qv bs src n s x v L (cnt.set t c) Ds:=by
 have hg:Gr (· =mk) W (W.setCell ⟨mk,t,Ag⟩ (.int .i64 c)):=Gr.setCell _ _ _ rfl;refine⟨h.box.move (hg.blk h.box.blk (h.box.blk.Fu h.Mq dz)),hg.blk h.sbk (h.sbk.Fu h.Mq dz),?_,hg.blk h.VE (h.VE.Fu h.Mq dz),cO h.row hg (λk hk e=>aW h.row h.Mq dz (e▸hk)),hg.blk h.cfg (h.cfg.Fu h.Mq dz),j8 h.lE h.sz hg (λk e=>by rw[e];exact h.hmk),nT h.sz hg.size,h.hmk,h.Cc,h.nod,λD hD=>⟨(h.YK D hD).1,?_⟩⟩
 .have:=h.Mq.bX t (.int .i64 c)
  simpa [List.map_set]using this
 .have hd:=(h.YK D hD).2
  exact(hg.block D (gE hd).1 (λe=>h.Mq.ud hd rfl e.symm)).trans hd
theorem Ad.kmk(h:Ad w0 W base gc sb b mk ob mb qv bs src n s x v L cnt Ds)(hc:cnt.length=12)(t:Nat)(ht:t<12):W.cell? ⟨mk,t,Ag⟩=Ai (.int .i64 (cnt.getD t 0))/\W.frozen? ⟨mk,t,Ag⟩=false:=by
 refine⟨(h.Mq.cell t).trans ?_,h.Mq.frozen t⟩;rw[E1];simp[hc,ht]
theorem Gv.set(W:Al)(c i:Nat)(u:Bn)(hc:c=mk\/c=ob):Gv mk ob W (W.setCell ⟨c,i,Ag⟩ u):=
 ⟨by simp[World.setCell],λk t cs hk _ h2 h3=>hk.far (p:=⟨c,i,Ag⟩) (λe=>by
  have e:k=c:=e;rcases hc with hc | hc
  .exact h2 (e.trans hc)
  .exact h3 (e.trans hc)) u⟩
theorem Gv.grow{base' sz k:Nat}{v:Bn}{xs:List Bn}(h:W.ownsRow base' 53 sz v k xs)(hG:W.grownBy W' v.ownBlock):Gv mk ob W W':=
 ⟨hG.size,λj t cs hj h1 _ _=>hj.grown hG (λe=>aW h hj (Ne.symm h1) e.symm)⟩
theorem Ad.hop{W1:Al}{e:aI}{v':Bn}{o:Obj}(h:Ad w0 W base gc sb b mk ob mb qv bs src n s x v L cnt Ds)(hown:W1.ownsRow base 53 3 v' (L.length+1) (L.flatMap aI.cells++e.cells))(hG:(W.alloc o).grownBy W1 v.ownBlock):
 Ad w0 (W1.setCell ⟨ob,0,Ag⟩ v') base gc sb b mk ob mb qv bs src n s x v' (L++ [e]) cnt Ds/\KeepsOthers W (W1.setCell ⟨ob,0,Ag⟩ v')/\Gv mk ob W (W1.setCell ⟨ob,0,Ag⟩ v')/\ah W1 ob 49 #[v]:=by
 have h0:=h.below (W':=W.alloc o) (bN);have hg:Gr (λk=>v.ownBlock=Ai k) (W.alloc o) W1:=Gr.eO hG (λk e=>e);have K7:ah W1 ob 49 #[v]:=hg.blk h0.VE (aW h0.row h0.VE dz);have aK0:=hg.blk h0.sbk (aW h0.row h0.sbk dz);have aK1:=hg.blk h0.Mq (aW h0.row h0.Mq dz);have aK2:=hg.blk h0.cfg (aW h0.row h0.cfg dz);have aGL:=h0.box.move (hg.blk h0.box.blk (aW h0.row h0.box.blk dz));have eG:Gr (· =ob) W1 (W1.setCell ⟨ob,0,Ag⟩ v'):=Gr.setCell _ _ _ rfl;have Xz:Below base w0 W1:=j8 h0.lE h0.sz hg (λk e=>(h0.row.lt k e).1);have KD:base<=W1.heap.size:=nT h0.sz hg.size;refine⟨⟨aGL.move (eG.blk aGL.blk (aGL.blk.Fu K7 dz)),eG.blk aK0 (aK0.Fu K7 dz),eG.blk aK1 (aK1.Fu K7 dz),by simpa using K7.bX 0 v',cO (by simpa using hown) eG (λk hk e=>aW hown K7 dz (e▸hk)),eG.blk aK2 (aK2.Fu K7 dz),j8 Xz KD eG (λk e=>by rw[e];exact h.Cc),nT KD eG.size,h.hmk,h.Cc,h.nod,λD hD=>⟨(h.YK D hD).1,?_⟩⟩,(KeepsOthers.alloc _ _).trans ((Dz h0.row hG).trans (nW K7 _)),(Gv.below (bN)).trans ((Gv.grow h0.row hG).trans (Gv.set _ _ _ _ (.inr rfl))),K7⟩;have hd:=(h0.YK D hD).2;have TD:=(hg.block D (gE hd).1 (iQ h0.row hd rfl)).trans hd;exact(eG.block D (gE TD).1 (λe=>K7.ud TD rfl e.symm)).trans TD
theorem Ad.aEC{D:Nat}(h:Ad w0 W base gc sb b mk ob mb qv bs src n s x v L cnt Ds)(hD:base<=D)(hN:∀E∈Ds,E<D)(hK:W.heap[D]?=Ai (.deferred (Ai []))):Ad w0 W base gc sb b mk ob mb qv bs src n s x v L cnt (D :: Ds):=
 {h with
  nod:=List.nodup_cons.2 ⟨λhd=>by have:=hN D hd;omega,h.nod⟩
  YK:=λE hE=>by
   rcases BU.1 hE with rfl | hE
   .exact⟨hD,hK⟩
   .exact h.YK E hE}
end
theorem vU:∀(pre:List aI) (met:List Nat) (e:aI) (rest:List aI),dM met pre=pre->dM met (pre++e :: rest)=if e.t∈met\/e.t∈pre.map (·.t)then pre else pre++e :: dM (e.t :: ((pre.map (·.t)).reverse++met)) rest
 | [],met,e,rest,_=>by
  by_cases h:e.t∈met
  .simp[dM,h]
  .simp[dM,h]
 | a :: pre,met,e,rest,hp=>by
  unfold dM at hp;by_cases ha:a.t∈met
  .rw[if_pos ha]at hp;cases hp
  .rw[if_neg ha]at hp
   have zO:dM (a.t :: met) pre=pre:=by injection hp
   have ih:=vU pre (a.t :: met) e rest zO;rw[GQ,dM,if_neg ha,ih];by_cases h:e.t∈met\/e.t∈(a :: pre).map (·.t)
   .have h':e.t∈a.t :: met\/e.t∈pre.map (·.t):=by
     simp only[List.map_cons,BU]at h ⊢;rcases h with h | h | h
     .exact .inl (.inr h)
     .exact .inl (.inl h)
     .exact .inr h
    rw[if_pos h',if_pos h]
   .have h':¬(e.t∈a.t :: met\/e.t∈pre.map (·.t)):=λq=>h (by
     simp only[List.map_cons,BU]at q ⊢;rcases q with(q | q) | q
     .exact .inr (.inl q)
     .exact .inl q
     .exact .inr (.inr q))
    rw[if_neg h',if_neg h];simp
theorem Gw{pre ch:List aI}{met:List Nat}{e:aI}(hp:dM met pre=pre)(hc:pre++ [e] <+: ch)(he:e.t∈met\/e.t∈pre.map (·.t)):dM met ch=pre:=by
 obtain⟨r,rfl⟩:=hc;rw[IZ,List.singleton_append,vU pre met e r hp,if_pos he]
theorem K8{pre:List aI}{met:List Nat}{e:aI}(hp:dM met pre=pre)(he:¬(e.t∈met\/e.t∈pre.map (·.t))):dM met (pre++ [e])=pre++ [e]:=by
 rw[vU pre met e [] hp,if_neg he];rfl
theorem EA(s:aQ)(src:Nat):∀(ms:List Nat) (m:Nat) (out:List aI),jj s src (ms++ [m]) out=jj s src ms out++dM ((jj s src ms out).map (·.t)) (s.chain src m)
 | [],m,out=>rfl
 | k :: ms,m,out=>EA s src ms m _
theorem SX:(pG.info? 53).map (λi=>(i.zero,i.size,i.bytes))=Ai (Ai (.agg #[.int .i64 0,.int .i64 0,.int .i64 0]),3,24):=by kernel_rfl
structure FRt(gc sb mk ob:Nat)(dv:Bn)(nd i:Nat)(Ds:List Nat)(a:Act):Prop where
 size:a.tmps.size=77
 s3:a.tmps.getD 3 BA= .pointer (Ai ⟨gc,0,Ag⟩)
 s8:a.tmps.getD 8 BA= .pointer (Ai ⟨sb,0,Ag⟩)
 s10:a.tmps.getD 10 BA= .pointer (Ai ⟨mk,0,Ag⟩)
 s11:a.tmps.getD 11 BA= .pointer (Ai ⟨ob,0,Ag⟩)
 s30:a.tmps.getD 30 BA=dv
 s31:a.tmps.getD 31 BA= .int .i64 nd
 s32:a.tmps.getD 32 BA= .int .i64 i
 defers:a.defers=Ds.map sM
theorem FRt.lit{gc sb mk ob:Nat}{dv:Bn}{nd i:Nat}{Ds:List Nat}{a:Act}(h:FRt gc sb mk ob dv nd i Ds a):∃z:Nat->Bn,a={tmps:=List.toArray [z 0,z 1,z 2,.pointer (Ai ⟨gc,0,Ag⟩),z 4,z 5,z 6,z 7,.pointer (Ai ⟨sb,0,Ag⟩),z 9,.pointer (Ai ⟨mk,0,Ag⟩),.pointer (Ai ⟨ob,0,Ag⟩),z 12,z 13,z 14,z 15,z 16,z 17,z 18,z 19,z 20,z 21,z 22,z 23,z 24,z 25,z 26,z 27,z 28,z 29,dv,.int .i64 nd,.int .i64 i,z 33,z 34,z 35,z 36,z 37,z 38,z 39,z 40,z 41,z 42,z 43,z 44,z 45,z 46,z 47,z 48,z 49,z 50,z 51,z 52,z 53,z 54,z 55,z 56,z 57,z 58,z 59,z 60,z 61,z 62,z 63,z 64,z 65,z 66,z 67,z 68,z 69,z 70,z 71,z 72,z 73,z 74,z 75,z 76],defers:=Ds.map sM}:=by
 obtain⟨T,d⟩:=a;obtain⟨h0,h1,h2,h3,h4,h5,h6,h7,h8⟩:=h;simp only at h0 h1 h2 h3 h4 h5 h6 h7 h8;obtain⟨z,hz,hg⟩:=qy 77 T h0;refine⟨z,?_⟩;rw[<-hg]at h1 h2 h3 h4 h5 h6 h7;rw[h8,hz];simp only[<-h1,<-h2,<-h3,<-h4,<-h6,<-h7];rw[<-h5];rfl
structure FBt(mk ob Bx:Nat)(a:Act):Prop where
 size:a.tmps.size=77
 s10:a.tmps.getD 10 BA= .pointer (Ai ⟨mk,0,Ag⟩)
 s11:a.tmps.getD 11 BA= .pointer (Ai ⟨ob,0,Ag⟩)
 s15:a.tmps.getD 15 BA= .pointer (Ai ⟨Bx,0,Ag⟩)
 defers:a.defers= []
theorem FBt.lit{mk ob Bx:Nat}{a:Act}(h:FBt mk ob Bx a):∃z:Nat->Bn,a={tmps:=List.toArray [z 0,z 1,z 2,z 3,z 4,z 5,z 6,z 7,z 8,z 9,.pointer (Ai ⟨mk,0,Ag⟩),.pointer (Ai ⟨ob,0,Ag⟩),z 12,z 13,z 14,.pointer (Ai ⟨Bx,0,Ag⟩),z 16,z 17,z 18,z 19,z 20,z 21,z 22,z 23,z 24,z 25,z 26,z 27,z 28,z 29,z 30,z 31,z 32,z 33,z 34,z 35,z 36,z 37,z 38,z 39,z 40,z 41,z 42,z 43,z 44,z 45,z 46,z 47,z 48,z 49,z 50,z 51,z 52,z 53,z 54,z 55,z 56,z 57,z 58,z 59,z 60,z 61,z 62,z 63,z 64,z 65,z 66,z 67,z 68,z 69,z 70,z 71,z 72,z 73,z 74,z 75,z 76],defers:= []}:=by
 obtain⟨T,d⟩:=a;obtain⟨h0,h1,h2,h3,h8⟩:=h;simp only at h0 h1 h2 h3 h8;obtain⟨z,hz,hg⟩:=qy 77 T h0;refine⟨z,?_⟩;rw[<-hg]at h1 h2 h3;rw[h8,hz];simp only[<-h1,<-h2,<-h3];rfl
theorem jV.le{cnt:List Int}{T:List Nat}{B C:Nat}(h:jV cnt T B)(hB:B<=C):jV cnt T C:=⟨h.len,h.met,h.lo,λt=>by have:=h.hi t;omega⟩
theorem Jw(p:List aI)(src:Nat):∀k n,(uQ p src k n).length<=k
 | 0,_=>Nat.le_refl _
 | k+1,n=>by
  unfold uQ;split
  .simp
  .have:=Jw p src k (p.getD n aI.zero).f
   rw[Ia];omega
theorem Jy{E:List aI}{src:Nat}{s:aQ}(h:aQ.Inv E 12 src s)(m:Nat):(s.chain src m).length<=12:=by
 have h1:=Jw s.p src (s.at m).toNat m;have h2:=aQ.tX h oz m;have h3:(s.chain src m).length<=(s.at m).toNat:=h1;omega
section
variable (y0:Al) (base gc sb b mk ob mb:Nat) (qv:Bn) (bs:Array Bn) (src n:Nat) (s:aQ) (x:ay) (L:List aI) (Ds:List Nat) (B0 nb:Nat)
def RoI(pre:List jx)(W:Al):Prop:=∃v cnt,Ad y0 W base gc sb b mk ob mb qv bs src n s x v (L++pre.map (·.1)) cnt Ds/\jV cnt ((L++pre.map (·.1)).map (·.t)) (B0+pre.length)/\dM (L.map (·.t)) (pre.map (·.1))=pre.map (·.1)/\∃u,ah W nb 3 #[u]
def RoX(c:Code)(pre:List jx)(W:Al):Prop:=c= .exit 2/\∃v cnt,∃(yG:List jx) (e:jx),pre=yG++ [e]/\dM (L.map (·.t)) (yG.map (·.1))=yG.map (·.1)/\(e.1.t∈L.map (·.t)\/e.1.t∈(yG.map (·.1)).map (·.t))/\Ad y0 W base gc sb b mk ob mb qv bs src n s x v (L++yG.map (·.1)) cnt Ds/\jV cnt ((L++yG.map (·.1)).map (·.t)) (B0+pre.length)
end
section
variable {y0:Al} {base gc sb b mk ob mb:Nat} {qv:Bn} {bs:Array Bn} {src n:Nat} {s:aQ} {x:ay} {L:List aI} {Ds:List Nat} {B0 nb:Nat}
theorem aGM{W:Al}{nb r B:Nat}{u:Bn}(hn:ah W nb 3 #[u])(h:B<=r/\∃o:Obj,W.heap[r]?=Ai o/\o.isCells=Bj):nb≠r:=by
 obtain⟨-,o,h2,h3⟩:=h;exact hn.ud h2 h3
theorem RoI.own{B:Nat}(hB:base<=B)(hD:∀D∈Ds,D<B):OwnFrom B (RoI y0 base gc sb b mk ob mb qv bs src n s x L Ds B0 nb):=λpre W W' row h hg hr=>by
 obtain⟨v,cnt,h1,h2,h3,u,h4⟩:=h;exact⟨v,cnt,h1.oth hB hD hg hr,h2,h3,u,h4.grown hg (λe=>aGM h4 (hr nb e.symm) rfl)⟩
theorem RoI.YL(hb:base<=nb)(pre:List jx)(A:Al)(u:Bn)(h:RoI y0 base gc sb b mk ob mb qv bs src n s x L Ds B0 nb pre A):RoI y0 base gc sb b mk ob mb qv bs src n s x L Ds B0 nb pre (A.setCell ⟨nb,0,Ag⟩ u):=by
 obtain⟨v,cnt,h1,h2,h3,u',h4⟩:=h;exact⟨v,cnt,h1.YL ⟨u',h4⟩ hb u,h2,h3,u,by simpa using h4.bX 0 u⟩
theorem RoX.own{B:Nat}(hB:base<=B)(hD:∀D∈Ds,D<B)(c:Code):OwnFrom B (RoX y0 base gc sb b mk ob mb qv bs src n s x L Ds B0 c):=λpre W W' row h hg hr=>by
 obtain⟨hc,v,cnt,yG,e,h0,h1,h2,h3,h4⟩:=h;exact⟨hc,v,cnt,yG,e,h0,h1,h2,h3.oth hB hD hg hr,h4⟩
theorem YM{B Bx:Nat}{cs:Array Bn}:OwnFrom B (fun(_:Unit) W=>ah W Bx 107 cs):=λ_ W W' row h hg hr=>h.grown hg (λe=>by
 obtain⟨-,o,h2,h3⟩:=hr Bx e.symm;exact h.ud h2 h3 rfl)
end
theorem U1{W W':Al}{B b e s n:Nat}{v:Bn}{xs:List Bn}(h:W.ownsRow b e s v n xs)(hs:Shut B W W'):W'.ownsRow b e s v n xs:=by
 refine⟨h.1,?_⟩;rcases h.2 with h2 | ⟨g,cap,cur,h1,h2,h3,h4⟩
 .exact .inl h2
 .exact .inr ⟨g,cap,cur,h1,h2,hs.cells _ _ h3 rfl,h4⟩
theorem Gx{s:aQ}{l:List jx}(h:l.Pairwise λx y=>Go.Proofs.ltOf (Ey s.d) y x=Bj)(nd:((l.map (·.1)).map (·.t)).Nodup):(l.map (·.1)).Pairwise (aI.before s):=by
 rw[List.pairwise_map];have nd':l.Pairwise λx y=>x.1.t≠y.1.t:=by
  rw[List.map_map]at nd;exact List.pairwise_map.1 nd
 refine(h.and nd').imp ?_;rintro a c ⟨h1,h2⟩;have h3:¬(Go.Proofs.ltOf (Ey s.d) c a=BR):=by rw[h1];simp
 rw[QT]at h3;unfold aI.before aQ.at;omega
theorem aGN{L:List aI}(h:∀e∈L,e.t<12):∃l:List jx,l.map (·.1)=L:=⟨L.attach.map λe=>(⟨e.1,h e.1 e.2⟩:jx),qz⟩
def RtL(y0:Al)(base gc sb b mk ob mb:Nat)(qv:Bn)(bs:Array Bn)(src n:Nat)(s:aQ)(x:ay)(y:fU)(a:Act)(wr:Al):Prop:=
 ∃(i:Nat) (Ds:List Nat) (v:Bn) (cnt:List Int) (L:List aI),i<=y.dst.l.length/\FRt gc sb mk ob (.slice y.dst.a y.dst.l.length y.dst.c) y.dst.l.length i Ds a/\L=jj s src ((bV x y).take i) []/\Ad y0 wr base gc sb b mk ob mb qv bs src n s x v L cnt Ds/\jV cnt (L.map (·.t)) (13*i)/\(∀m∈(bV x y).take i,0<=s.at m)/\L.length<=13*i
def aGO(s:aQ)(src:Nat)(ds:List Nat)(w:Al)(e:Ending)(w':Al):Prop:=
 ((∀m∈ds,0<=s.at m)->∃(A:Option EK) (c:Nat) (R:List aI),e= .returned (.tuple #[.slice A R.length c,.int .i64 0])/\R.Perm (jj s src ds [])/\R.Pairwise (aI.before s)/\R.length<=c/\c<=maxLen/\w'.ownsRow w.heap.size 53 3 (.slice A R.length c) R.length (R.flatMap aI.cells))/\
 ((∃m∈ds,s.at m<0)->e= .returned (.tuple #[.slice Ag 0 0,.int .i64 6]))
theorem qL(x:ay)(v:Nat)(net:Int)(w:Al)(hr:x.rd w w.heap.size)(hL:ct w)(hx:∀r∈x.causes.l,r.x.n<=8796093021952)(hc:cW x=0)(hv:v<x.aF.l.length)(qw:0<=net)(NI:net<=1):
 ET pG 13 #[x.val,.int .i64 (v:Int),.int .i64 net] w λe w'=>aGO (dW x net x.aF.l[v]) (dX x x.aF.l[v]) (bV x x.aF.l[v]) w e w'/\Below w.heap.size w w':=by
 obtain⟨y0,bR⟩:=ez (w.alloc (.cells #[.slice x.mods.a x.mods.l.length x.mods.c,.slice x.aj.a x.aj.l.length x.aj.c,.slice x.aP.a x.aP.l.length x.aP.c,.slice x.links.a x.links.l.length x.links.c,.slice x.aF.a x.aF.l.length x.aF.c,.slice x.bQ.a x.bQ.l.length x.bQ.c,.slice x.causes.a x.causes.l.length x.causes.c,.slice x.aA.a x.aA.l.length x.aA.c] 31));obtain⟨gc,uW⟩:=ez w.heap.size;have bW:Below w.heap.size w y0:=by rw[bR];exact bN
 have bS:ah y0 gc 31 x.arr:=by rw[bR,uW];exact ah.new w _ _
 have oU:=Aa x v net y0 (hr.below bW) (hL.below bW) hx hc hv qw NI;have hN:x.mods.l.length+x.aP.l.length<=12:=Eo hc;obtain⟨bv,ov,hva,hbv,hvc⟩:=hr.aF (show 0<x.aF.l.length by omega);have hvv:=hvc v hv;obtain⟨y,hy⟩:=ez (x.aF.l[v]);rw[<-hy]at oU hvv ⊢;have yu:y∈x.aF.l:=by rw[hy];exact CS hv
 have cD:=jw hc net yu;have hds:=Ep hc yu;have I6:=Jp hc yu;have C5:=jv hc;obtain⟨n,hn⟩:=ez (x.mods.l.length+x.aP.l.length);obtain⟨src,K2⟩:=ez (dX x y);obtain⟨s,hs⟩:=ez (dW x net y);rw[<-hn]at hN oU;rw[<-K2,<-hs]at oU cD ⊢;rw[<-K2]at hds;have hEd:∀e∈gj x net src,e.f<12/\e.t<12:=λe he=>by
  have h1:=qI hc net src e he;rw[<-hn]at h1;omega
 have hs0:y0.heap.size=gc+1:=by rw[bR,uW];simp
 have SK:=lz oU;have aV:=lz bW;have sA:=lz bS;have dV:=lz bR;have Oc:=lz uW;have Hn:=lz hn;have dU:=lz cD;have Vz:=lz hds;have Hr:=lz hr;have Hva:=lz hva;have Hvv:=lz hvv;have HEd:=lz hEd;have Hs0:=lz hs0;have aK4:Hid (bV x y=y.dst.l.map λr=>(bg x r.m).toNat):=lz rfl;have Hch:Hid (∀r∈y.dst.l,0<=bg x r.m):=lz (λr hr=>by have:=(El hc yu).2.2 r hr;omega);obtain⟨TD,hd2⟩:=I6;obtain⟨hc1,qc,-,-⟩:=C5;have hvi:(v:Int)<(x.aF.l.length:Int):=by omega
 have hv0:(0:Int)<=(v:Int):=by omega
 obtain⟨c0,c1,c2,c3,c4,c5,c6,c7⟩:y0.cell? ⟨gc,0,Ag⟩=Ai (.slice x.mods.a x.mods.l.length x.mods.c)/\y0.cell? ⟨gc,1,Ag⟩=Ai (.slice x.aj.a x.aj.l.length x.aj.c)/\y0.cell? ⟨gc,2,Ag⟩=Ai (.slice x.aP.a x.aP.l.length x.aP.c)/\y0.cell? ⟨gc,3,Ag⟩=Ai (.slice x.links.a x.links.l.length x.links.c)/\y0.cell? ⟨gc,4,Ag⟩=Ai (.slice x.aF.a x.aF.l.length x.aF.c)/\y0.cell? ⟨gc,5,Ag⟩=Ai (.slice x.bQ.a x.bQ.l.length x.bQ.c)/\y0.cell? ⟨gc,6,Ag⟩=Ai (.slice x.causes.a x.causes.l.length x.causes.c)/\y0.cell? ⟨gc,7,Ag⟩=Ai (.slice x.aA.a x.aA.l.length x.aA.c):=⟨bS.cell 0,bS.cell 1,bS.cell 2,bS.cell 3,bS.cell 4,bS.cell 5,bS.cell 6,bS.cell 7⟩;clear bR bW bS oU hr hL hx hc hy hn hs K2 cD hds hva hvv hEd hs0 uW yu hvc;refine(callsIn_wide (n:=9)).1 ?_;refine callsIn_of_wp_marks func13 rfl trivial ?_ rfl;simp only[ntmps13,List.size_toArray,Ia,List.length_nil,Nat.reduceAdd,Nat.reduceSub,Array.replicate_succ,Array.replicate_zero,List.push_toArray,List.append_toArray,GY,GQ];refine wpIn_wide.2 ?_;rw[dV.out,Oc.out]at c0 c1 c2 c3 c4 c5 c6 c7;go_wp2_with fail;rw[<-dV.out,<-Oc.out];clear c0 c1 c2 c3 c4 c5 c6 c7;refine SK.out.mono ?_;rintro e W1 ⟨b,mb,nm,D,vf,F,rfl,hS⟩;have BQ:y0.heap.size<=W1.heap.size:=hS.sz;have hvW:∀W,Below W1.heap.size W1 W->W.cell? ⟨gc,4,Ag⟩=Ai (.slice (Ai ⟨bv,ov,Ag⟩) x.aF.l.length x.aF.c)/\W.cell? ⟨bv,ov+v*7+6,Ag⟩=Ai (y.dst.val):=λW hW=>by
  have h1:=hS.lE.trans (hW.mono BQ);have h2:=aV.out.trans (h1.mono aV.out.size);refine⟨?_,(h2.cell (p:=⟨bv,ov+v*7+6,Ag⟩) hbv).trans Hvv.out.2.2.2.2.2.2.1⟩;rw[<-Hva.out];exact(sA.out.below h1 (by have:=Hs0.out;omega)).cell 4
 have qR:Below W1.heap.size W1 (((W1.alloc (.cells #[.pointer (Ai ⟨b,0,Ag⟩)] 98)).alloc (.cells #[.int .i64 0,.int .i64 0,.int .i64 0,.int .i64 0,.int .i64 0,.int .i64 0,.int .i64 0,.int .i64 0,.int .i64 0,.int .i64 0,.int .i64 0,.int .i64 0] 105)).alloc (.cells #[.slice Ag 0 0] 49)):=((bN).alloc qz _).alloc qo _;obtain⟨c4,d4⟩:=hvW _ qR;obtain⟨⟨qv,bs,gP,-⟩,mz⟩:=hS.q;have YN:Below y0.heap.size y0 (((W1.alloc (.cells #[.pointer (Ai ⟨b,0,Ag⟩)] 98)).alloc (.cells #[.int .i64 0,.int .i64 0,.int .i64 0,.int .i64 0,.int .i64 0,.int .i64 0,.int .i64 0,.int .i64 0,.int .i64 0,.int .i64 0,.int .i64 0,.int .i64 0] 105)).alloc (.cells #[.slice Ag 0 0] 49)):=hS.lE.trans (qR.mono BQ);have hR0:Ad y0 (((W1.alloc (.cells #[.pointer (Ai ⟨b,0,Ag⟩)] 98)).alloc (.cells #[.int .i64 0,.int .i64 0,.int .i64 0,.int .i64 0,.int .i64 0,.int .i64 0,.int .i64 0,.int .i64 0,.int .i64 0,.int .i64 0,.int .i64 0,.int .i64 0] 105)).alloc (.cells #[.slice Ag 0 0] 49)) y0.heap.size gc W1.heap.size b (W1.heap.size+1) (W1.heap.size+1+1) mb qv bs src n s x (.slice Ag 0 0) [] (Fe 12 0) []:=by
  have hz2:((W1.alloc (.cells #[.pointer (Ai ⟨b,0,Ag⟩)] 98)).alloc (.cells #[.int .i64 0,.int .i64 0,.int .i64 0,.int .i64 0,.int .i64 0,.int .i64 0,.int .i64 0,.int .i64 0,.int .i64 0,.int .i64 0,.int .i64 0,.int .i64 0] 105)).heap.size=W1.heap.size+1+1:=by simp
  refine⟨gP.move (gP.blk.below qR gP.blk.lt),((ah.new W1 _ _).alloc _).alloc _,?_,?_,World.ownsRow_nil _ _ _ _,(sA.out.below YN (by have:=Hs0.out;omega)),YN,nT BQ qR.size,oz,oz,List.nodup_nil,λD h=>absurd h qz⟩
  .have:=(ah.new (W1.alloc (.cells #[.pointer (Ai ⟨b,0,Ag⟩)] 98)) 105 #[.int .i64 0,.int .i64 0,.int .i64 0,.int .i64 0,.int .i64 0,.int .i64 0,.int .i64 0,.int .i64 0,.int .i64 0,.int .i64 0,.int .i64 0,.int .i64 0]).alloc (.cells #[.slice Ag 0 0] 49)
   rw[Dj]at this;exact this
  .have:=ah.new ((W1.alloc (.cells #[.pointer (Ai ⟨b,0,Ag⟩)] 98)).alloc (.cells #[.int .i64 0,.int .i64 0,.int .i64 0,.int .i64 0,.int .i64 0,.int .i64 0,.int .i64 0,.int .i64 0,.int .i64 0,.int .i64 0,.int .i64 0,.int .i64 0] 105)) 49 #[.slice Ag 0 0]
   rw[hz2]at this;exact this
 have pF:=lz hR0;have cU:Hid (Below w.heap.size w W1):=lz (aV.out.trans (hS.lE.mono aV.out.size));have Hbb:=lz (ai mz BQ);clear hS hR0 qR hvW gP YN mz BQ;clear SK;go_wp2_with fail;refine wp_loop (RtL y0 y0.heap.size gc W1.heap.size b (W1.heap.size+1) (W1.heap.size+1+1) mb qv bs src n s x y) (λa _=>y.dst.l.length-(intOf (a.tmps.getD 32 BA)).toNat) ?h0 ?round
 case h0=>exact⟨0,[],_,_,[],nZ,⟨rfl,rfl,rfl,rfl,rfl,rfl,rfl,rfl,rfl⟩,rfl,pF.out,jV.start,qz,qz⟩
 case round=>
  clear pF;rintro a wr ⟨i,Ds,v,cnt,L,hi,hF,hL,hR,hM,aJ,hLn⟩;obtain⟨z,rfl⟩:=hF.lit;clear hF;have Mr:Below w.heap.size w wr:=aV.out.trans (hR.lE.mono aV.out.size);by_cases hlt:i<y.dst.l.length
  .obtain⟨b2,o2,hA,dI,qc⟩:=(Hvv.out.2.2.2.2.2.2.2.dst.keep Mr) oz
   obtain⟨d0,d1,d2⟩:=qc i hlt;obtain⟨d,hd⟩:=ez (y.dst.l[i]);rw[<-hd]at d0 d1 d2;obtain⟨W4,Ql⟩:=ez (wr.alloc (.cells #[.string d.m,.string d.p,.string d.o] 41));have Mj:Below wr.heap.size wr W4:=by rw[Ql];exact bN
   have hR4:=hR.below Mj;have hx4:x.rd W4 W4.heap.size:=Hr.out.below (Mr.trans (Mj.mono Mr.size));obtain⟨c0,c1,c2,c3,c4,c5,c6,c7⟩:W4.cell? ⟨gc,0,Ag⟩=Ai (.slice x.mods.a x.mods.l.length x.mods.c)/\W4.cell? ⟨gc,1,Ag⟩=Ai (.slice x.aj.a x.aj.l.length x.aj.c)/\W4.cell? ⟨gc,2,Ag⟩=Ai (.slice x.aP.a x.aP.l.length x.aP.c)/\W4.cell? ⟨gc,3,Ag⟩=Ai (.slice x.links.a x.links.l.length x.links.c)/\W4.cell? ⟨gc,4,Ag⟩=Ai (.slice x.aF.a x.aF.l.length x.aF.c)/\W4.cell? ⟨gc,5,Ag⟩=Ai (.slice x.bQ.a x.bQ.l.length x.bQ.c)/\W4.cell? ⟨gc,6,Ag⟩=Ai (.slice x.causes.a x.causes.l.length x.causes.c)/\W4.cell? ⟨gc,7,Ag⟩=Ai (.slice x.aA.a x.aA.l.length x.aA.c):=⟨hR4.cfg.cell 0,hR4.cfg.cell 1,hR4.cfg.cell 2,hR4.cfg.cell 3,hR4.cfg.cell 4,hR4.cfg.cell 5,hR4.cfg.cell 6,hR4.cfg.cell 7⟩;rw[Ql]at c0 c1 c2 c3 c4 c5 c6 c7;rw[hA];have Qp:=lz Ql;have Hd:=lz hd;have HL:=lz hL;have HR4:=lz hR4;have HM:=lz hM;have Co:=lz aJ;have HA:=lz hA;have Hx4:=lz hx4;have HBw:=lz (Mr.trans (Mj.mono Mr.size));clear Mr qc hd Ql Mj hR4 hx4 hL hR hM aJ hA;go_wp2_with fail;rw[<-Qp.out];clear c0 c1 c2 c3 c4 c5 c6 c7 d0 d1 d2;refine(vI x d.m W4 Hx4.out oz oz).mono ?_;rintro e w5 ⟨rfl,jU⟩;have hdm:d∈y.dst.l:=by rw[Hd.out];exact CS hlt
   obtain⟨m,hm⟩:∃m:Nat,bg x d.m=(m:Int):=⟨(bg x d.m).toNat,by have:=Hch.out d hdm;omega⟩;have hdi:(bV x y)[i]?=Ai m:=by
    rw[aK4.out,List.getElem?_map,List.getElem?_eq_getElem hlt,<-Hd.out];simp[hm]
   have hmd:m∈bV x y:=List.mem_of_getElem? hdi;obtain⟨hm1,Vq⟩:=Vz.out m hmd;have aCU:m<12:=by have:=Hn.out;omega
   rw[hm];have hR5:=HR4.out.below jU;have aCZ:=lz (HBw.out.trans (jU.mono HBw.out.size));have k8:w5.cell? ⟨W1.heap.size,0,Ag⟩=Ai (.pointer (Ai ⟨b,0,Ag⟩)):=hR5.sbk.cell 0;have k9:w5.cell? ⟨b,3+m,Ag⟩=Ai (.int .i64 (s.at m)):=hR5.box.kd m aCU;have QW:=lz hR5;have Hm:=lz (ai hm (ai hdi (ai hmd (ai hm1 Vq))));have hmi:(m:Int)<12:=by omega
   have aXI:(0:Int)<=(m:Int):=by omega
   clear jU hR5 HR4 HBw hm hdi hmd hm1 Vq hdm;by_cases rG:s.at m<0
   .have hns:=lz rG
    generalize hq:s.at m=q at *;go_wp2_with fail;refine bP Ds w5 y0.heap.size QW.out.nod QW.out.YK λW' j5=> ?_
    refine⟨.tuple #[.slice Ag 0 0,.int .i64 6],by simp[results,f13,go_sem],⟨λh=> ?_,λ_=>rfl⟩,aCZ.out.trans (j5.below.mono aV.out.size)⟩;have:=h m Hm.out.2.2.1;rw[hq]at this;omega
   .have JQ:0<=s.at m:=by omega
    have Hge:=lz JQ;generalize hq:s.at m=q at *;have lS:=lz hq;go_wp2_with fail;clear k8 k9;refine(aGJ b (m:Int) w5).mono ?_;rintro e w6 ⟨rfl,rz,aK6,aCa⟩;have hR6:=QW.out.below rz;have aXK:=lz (aCZ.out.trans (rz.mono aCZ.out.size));have aXL:=QW.out.sz;have aXM:w5.heap.size+2<=w6.heap.size:=aCa.lt;have hsk:=QW.out.sbk.lt;have hmk:=QW.out.Mq.lt;have Cc:=QW.out.VE.lt;have DH:=QW.out.box.blk.lt;have VY:∀D∈Ds,D<w6.heap.size:=λD hD=>(gE (hR6.YK D hD).2).1
    have aCT:=YJ dU.out.inv qv mb (w5.heap.size+1) w5.heap.size b (W1.heap.size+1) (W1.heap.size+1+1) (9-1) m oz (by rw[hq];omega) aCU HEd.out bs w6 oz oz aCa aK6 hR6.box oz oz oz oz (hR6.box.blk.Fu hR6.Mq dz) (hR6.box.blk.Fu hR6.VE dz);have ht1:(bV x y).take (i+1)=(bV x y).take i++ [m]:=by rw[List.take_add_one,Hm.out.2.1];rfl
    have HN:Hid (∀Q,dM (L.map (·.t)) (s.chain src m)=Q->L++Q=jj s src ((bV x y).take (i+1)) []):=lz λQ hQ=>by rw[ht1,EA,<-HL.out,hQ]
    have HA1:Hid (∀k∈(bV x y).take (i+1),0<=s.at k):=lz λk hk=>by
     rw[ht1,E2]at hk;rcases hk with hk | hk
     .exact Co.out k hk
     .rw[List.mem_singleton.1 hk,hq];exact Hge.out
    have cC:=Jy dU.out.inv m;have um:=lz aCT;have Om:=lz hR6;have Hlo:=lz VY;have aPf:=lz aCa;have Hb6:=lz rz;clear ht1 aCT hR6 VY aCa aK6 rz QW aCZ;go_wp2_with fail;refine(wpIn_wide (n:=9)).1 ?_;refine uo (F:=Fence.wide) rfl oz (gf:=108) (nb:=w5.heap.size+1) (lb:= #[.pointer (Ai ⟨w5.heap.size+1,0,Ag⟩),.pointer (Ai ⟨w5.heap.size,0,Ag⟩)]) rfl trivial (enters_of func108 kz rfl)
     um.out oz Gv.trans (λW l o o' _ hl ho _=>Gv.put W l o o' hl ho) (Below.refl _ _) (λ_=>rfl)
     (RoI y0 y0.heap.size gc W1.heap.size b (W1.heap.size+1) (W1.heap.size+1+1) mb qv bs src n s x L Ds (13*i) (w5.heap.size+1))
     (RoX y0 y0.heap.size gc W1.heap.size b (W1.heap.size+1) (W1.heap.size+1+1) mb qv bs src n s x L Ds (13*i))
     (RoI.own oz Hlo.out) (RoI.YL oz) (RoX.own oz Hlo.out) ⟨v,cnt,by simpa using Om.out,by simpa using HM.out,rfl,_,aPf.out⟩
     (λe a' W=>∃Bx,ah W Bx 107 #[.int .i64 e.1.f,.int .i64 e.1.t,.int .i64 e.1.l]/\FBt (W1.heap.size+1) (W1.heap.size+1+1) Bx a')
     (λe a' s X Y row hs hg hr=>by obtain⟨Bx,h2,h3⟩:=hs;exact⟨Bx,YM s X Y row h2 hg hr,h3⟩) ?assign ?body ?done ?stop
    case assign=>
     rintro l pre e W K ⟨v9,rL,hI,Oo,hT9,u9,yZ⟩ hK;dsimp only;gi_wp2;exact hK _ _ ((KeepsOthers.alloc _ _).from _) (Gv.below (bN)) ⟨v9,rL,hI.below (bN),Oo,hT9,u9,yZ.alloc _⟩ ⟨W.heap.size,by simpa using ah.new W 107 _,⟨rfl,rfl,rfl,rfl,rfl⟩⟩
    case body=>
     rintro l pre ⟨e,he⟩ a' W hl' ⟨r,hr⟩ ⟨v9,rL,hI,Oo,hT9,u9,yZ⟩ ⟨Bx,gP,hF⟩ sF;obtain⟨zz,rfl⟩:=hF.lit;dsimp only at gP;obtain⟨P,hP⟩:=ez (L++pre.map (·.1));have hPl:P.length=L.length+pre.length:=by rw[hP];simp
     rw[<-hP]at hI Oo;have HPl:=lz hPl;have HP:=lz hP;clear hPl hP;clear hF;have bW:pre.length<=12:=nT (Nat.le_of_lt sF) (Jy dU.out.inv m);have e0:W.cell? ⟨Bx,0,Ag⟩=Ai (.int .i64 e.f):=gP.cell 0;have e1:W.cell? ⟨Bx,1,Ag⟩=Ai (.int .i64 e.t):=gP.cell 1;have e2:W.cell? ⟨Bx,2,Ag⟩=Ai (.int .i64 e.l):=gP.cell 2;obtain⟨hmc,hmf⟩:=hI.kmk Oo.len e.t he;have hc0:=Oo.lo e.t;have hc1:=Oo.hi e.t;have FC:=Oo.met e.t he;have hRm:=hI.mark e.t (rL.getD e.t 0+1);have hMm:=Oo.mark he;have uU:ah (W.setCell ⟨W1.heap.size+1,e.t,Ag⟩ (.int .i64 (rL.getD e.t 0+1))) (w5.heap.size+1) 3 #[u9]:=yZ.far (yZ.Fu hI.Mq dz) _;have CY:ah (W.setCell ⟨W1.heap.size+1,e.t,Ag⟩ (.int .i64 (rL.getD e.t 0+1))) Bx 107 #[.int .i64 e.f,.int .i64 e.t,.int .i64 e.l]:=gP.far (gP.Fu hI.Mq dz) _;have Hme:=lz FC;have HMm:=lz hMm;have HRm:=lz hRm;have KM:=lz uU;have Hbm:=lz CY;have HT9:=lz hT9;have hei:(e.t:Int)<12:=by omega
     have aXN:(0:Int)<=(e.t:Int):=by omega
     have hmx:W1.heap.size+1≠Bx:=hI.Mq.Fu gP dz;have HKm:=lz (Gv.set (mk:=W1.heap.size+1) (ob:=W1.heap.size+1+1) W (W1.heap.size+1) e.t (.int .i64 (rL.getD e.t 0+1)) (.inl rfl));have f0:(W.setCell ⟨W1.heap.size+1,e.t,Ag⟩ (.int .i64 (rL.getD e.t 0+1))).cell? ⟨Bx,0,Ag⟩=Ai (.int .i64 e.f):=CY.cell 0;have f1:(W.setCell ⟨W1.heap.size+1,e.t,Ag⟩ (.int .i64 (rL.getD e.t 0+1))).cell? ⟨Bx,1,Ag⟩=Ai (.int .i64 e.t):=CY.cell 1;have f2:(W.setCell ⟨W1.heap.size+1,e.t,Ag⟩ (.int .i64 (rL.getD e.t 0+1))).cell? ⟨Bx,2,Ag⟩=Ai (.int .i64 e.l):=CY.cell 2;have f3:(W.setCell ⟨W1.heap.size+1,e.t,Ag⟩ (.int .i64 (rL.getD e.t 0+1))).cell? ⟨W1.heap.size+1+1,0,Ag⟩=Ai v9:=hRm.VE.cell 0;have f4:(W.setCell ⟨W1.heap.size+1,e.t,Ag⟩ (.int .i64 (rL.getD e.t 0+1))).cell? ⟨W1.heap.size+1,e.t,Ag⟩=Ai (.int .i64 (rL.getD e.t 0+1)):=by
      have:=(hRm.kmk (by simpa using Oo.len) e.t he).1;rw[gQ _ _ _ _ _ (by rw[Oo.len];exact he),if_pos rfl]at this;exact this
     clear Oo hI yZ gP FC hRm hMm uU CY hT9 hr um;generalize hcq:rL.getD e.t 0=cq at *;by_cases K9:0<cq
     .have og:decide (cq+1>1)=true:=dT oz
      gi_wp2;have sy:=Hme.out.1 K9;have hX:RoX y0 y0.heap.size gc W1.heap.size b (W1.heap.size+1) (W1.heap.size+1+1) mb qv bs src n s x L Ds (13*i) (.exit 2) (pre++ [⟨e,he⟩]) (W.setCell ⟨W1.heap.size+1,e.t,Ag⟩ (.int .i64 (cq+1))):=by
       refine⟨rfl,v9,rL.set e.t (cq+1),pre,⟨e,he⟩,rfl,HT9.out,?_,by rw[<-HP.out];exact HRm.out,by rw[<-HP.out];exact(HMm.out.same λt=>⟨λh=>by rcases BU.1 h with rfl | h;exact sy;exact h,List.mem_cons_of_mem _⟩).le qo⟩
       .rw[HP.out,JO,E2]at sy
        exact sy
      exact⟨(KeepsOthers.setCell _ _ _).from _,hX⟩
     .have og:decide (cq+1>1)=false:=dF oz
      obtain⟨i0,lX,hz0,hz1,hz2⟩:=info_parts SX;have hLl:P.length<=1000:=by have:=HPl.out;omega
      gi_wp2_with (gi_at_builtin;refine wpListIn_append_own _ rfl _ _ 49 rfl y0.heap.size 53 i0 (.agg #[.int .i64 0,.int .i64 0,.int .i64 0]) 3 24 underlying49 lX hz0 hz1 hz2 rfl dz _ _ _ rfl (HRm.out.row.alloc _) ⟨W.heap.size,0,Ag⟩ 1 1 [.int .i64 e.f,.int .i64 e.t,.int .i64 e.l] rfl rfl ?c1 ?c2 ?c3 ?c4 ?c5 ?_)
      case c2=>exact⟨rfl,rfl,rfl⟩
      case c3=>unfold maxLen;omega
      case c4=>omega
      case c5=>have:=HRm.out.sz;simp at this ⊢;omega
      intro v5 wo dQ mE _;obtain⟨g5,cp5,rfl,_⟩:=dQ.form oz;obtain⟨hR9,hK9,hP9,aGQ⟩:=HRm.out.hop dQ mE;have f9:=aGQ.frozen 0;have c9:wo.cell? ⟨W1.heap.size+1+1,0,Ag⟩=Ai v9:=aGQ.cell 0;have yZ:ah (wo.setCell ⟨W1.heap.size+1+1,0,Ag⟩ (.slice (Ai ⟨g5,0,Ag⟩) (P.length+1) cp5)) (w5.heap.size+1) 3 #[u9]:=hP9.blk _ _ _ KM.out dz oz oz;have sy:¬(e.t∈L.map (·.t)\/e.t∈(pre.map (·.1)).map (·.t)):=λh=>by have:=Hme.out.2 (by rw[HP.out,JO,E2];exact h);omega
      have hI9:RoI y0 y0.heap.size gc W1.heap.size b (W1.heap.size+1) (W1.heap.size+1+1) mb qv bs src n s x L Ds (13*i) (w5.heap.size+1) (pre++ [⟨e,he⟩]) (wo.setCell ⟨W1.heap.size+1+1,0,Ag⟩ (.slice (Ai ⟨g5,0,Ag⟩) (P.length+1) cp5)):=by
       have hPe:P++ [e]=L++(pre++ [(⟨e,he⟩:jx)]).map (·.1):=by rw[HP.out];simp
       refine⟨_,rL.set e.t (cq+1),hPe▸hR9,hPe▸(HMm.out.same λt=> ?_).le qo,?_,u9,yZ⟩
       .rw[JO]
        exact K8 HT9.out sy
       .rw[JO]
        simp[or_comm]
      have HI9:=lz (ai (((KeepsOthers.setCell _ _ _).trans hK9).from w6.heap.size) (ai (HKm.out.trans hP9) hI9));clear hR9 hK9 hP9 aGQ yZ hI9 dQ mE sy;gi_wp2_with fail;exact HI9.out
    case done=>
     rintro D ys W hD hys ⟨v9,rL,hI,Oo,hT9,u9,yZ⟩ hK;have hys:ys.map (·.1)=s.chain src m:=hys;have yu:ys.length<=12:=by rw[<-hys,FD]at cC;exact cC
     have HD:=lz (ai (hI.aEC oz (λE hE=>EU (Hlo.out E hE) hD) hK) (ai (Oo.le (show 13*i+ys.length<=13*(i+1)by omega)) (HN.out (ys.map (·.1)) (by rw[<-hys];exact hT9))));have hLl:(L++ys.map (·.1)).length<=13*(i+1):=by simp;omega
     clear hI Oo hT9 yZ hK hys um;go_wp2_with fail;exact⟨⟨i+1,D :: Ds,v9,rL,_,oz,⟨rfl,rfl,rfl,rfl,rfl,by rw[HA.out];rfl,rfl,qz,rfl⟩,HD.out.2.2,HD.out.1,HD.out.2.1,HA1.out,hLl⟩,by simp[intOf];omega⟩
    case stop=>
     rintro D c pre W hD hpf ⟨rfl,v9,rL,yG,e,rfl,hT9,K9,hI,Oo⟩ hK;have hpf:(yG++ [e]).map (·.1) <+: s.chain src m:=hpf;have yu:yG.length+1<=12:=by have:=hpf.length_le;simp at this;omega
     have I8:=Gw (e:=e.1) hT9 (by simpa using hpf) K9;have HD:=lz (ai (hI.aEC oz (λE hE=>EU (Hlo.out E hE) hD) hK) (ai (Oo.le (show 13*i+(yG++ [e]).length<=13*(i+1)by simp;omega)) (HN.out (yG.map (·.1)) I8)));have hLl:(L++yG.map (·.1)).length<=13*(i+1):=by simp;omega
     clear hI Oo hT9 hK hpf I8 K9 um;gi_wp2_with fail;go_wp2_with fail;exact⟨⟨i+1,D :: Ds,v9,rL,_,oz,⟨rfl,rfl,rfl,rfl,rfl,by rw[HA.out];rfl,rfl,qz,rfl⟩,HD.out.2.2,HD.out.1,HD.out.2.1,HA1.out,hLl⟩,by simp[intOf];omega⟩
  .have hie:i=y.dst.l.length:=by omega
   have I6:(bV x y).length=y.dst.l.length:=by rw[aK4.out];simp
   rw[hie,List.take_of_length_le oz]at aJ hL;have Fw:=CR dU.out.inv (bV x y) aJ;rw[<-hL]at Fw;obtain⟨h1,-,-⟩:=qg.of dU.out.inv Fw aJ;have h12:∀e∈L,e.t<12:=λe he=>(HEd.out e (by rw[(h1 e he).2];exact(aQ.kR dU.out.inv (h1 e he).1).1)).2
   have hL0:0<L.length:=by
    obtain⟨m0,yc⟩:∃m0,m0∈bV x y:=⟨_,CS (show 0<(bV x y).length by omega)⟩;have hp0:0<s.at m0:=by
     have ha:=aJ m0 yc;have hb:s.at m0≠0:=λh=>(Vz.out m0 yc).2 ((dU.out.inv.zero m0).1 h)
     omega
    exact List.length_pos_of_mem ((Fw.mem _).2 ⟨m0,yc,by rw[iT dU.out.inv hp0];exact List.mem_cons_self ..⟩)
   obtain⟨l,hl⟩:=aGN h12;have XK:l.length=L.length:=by rw[<-hl];simp
   obtain⟨g,cap,hv,Ec,wu⟩:=hR.row.form hL0;obtain⟨_,c',hv',aGR,Us⟩:=bp hR.row;have Mh:c'=cap:=by rw[hv]at hv';injection hv' with _ _ h;exact h.symm
   rw[Mh]at aGR Us;have hown:wr.ownsRow y0.heap.size 53 3 (.slice (Ai ⟨g,0,Ag⟩) l.length cap) l.length (l.flatMap mq):=by
    have:=hR.row;rw[hv,<-XK]at this;have e:L.flatMap aI.cells=l.flatMap mq:=by rw[<-hl,List.flatMap_map];rfl
    rw[e]at this;exact this
   have k11:wr.cell? ⟨W1.heap.size+1+1,0,Ag⟩=Ai (.slice (Ai ⟨g,0,Ag⟩) l.length cap):=by
    rw[XK,<-hv];exact hR.VE.cell 0
   have Hok:=lz Fw;have Hl:=lz hl;have HL:=lz hL;have HR:=lz hR;have Hv:=lz (ai hv (ai Ec (ai aGR (ai Us (ai XK (ai hLn hie))))));have Co:=lz aJ;have kZ:=lz hown;have HBw:=lz Mr;have YO:((i:Int)<(y.dst.l.length:Int))=False:=eq_false oz;clear aJ hL Fw h1 h12 hL0 hl XK hv Ec wu hv' aGR Us Mh hown hR hM Mr hLn hie I6;go_wp2_with fail;clear k11;refine(QU s.d (λj=>⟨dU.out.inv.low j,aQ.tX dU.out.inv oz j⟩) W1.heap.size b y0.heap.size g cap l wr kZ.out (by have:=Hv.out;omega) (HR.out.sbk.cell 0) (λj hj=>HR.out.box.kd j hj)
    (λe=>aW kZ.out HR.out.sbk dz (by rw[e];rfl)) (λe=>aW kZ.out HR.out.box.blk dz (by rw[e];rfl))).mono ?_
   rintro e w9 ⟨rfl,l',hp,hpw,mT,hG9⟩;have aPi:W1.heap.size+1+1≠g:=λe=>aW kZ.out HR.out.VE dz (by rw[e];rfl)
   have k12:w9.cell? ⟨W1.heap.size+1+1,0,Ag⟩=Ai (.slice (Ai ⟨g,0,Ag⟩) l.length cap):=by
    rw[Hv.out.2.2.2.2.1,<-Hv.out.1];exact(HR.out.VE.grown hG9 (λe=>aPi (by injection e))).cell 0
   have aCe:∀D∈Ds,y0.heap.size<=D/\w9.heap[D]?=Ai (.deferred (Ai [])):=λD hD=>by
    have hd:=HR.out.YK D hD;refine⟨hd.1,(hG9.block D (gE hd.2).1 (λe=> ?_)).trans hd.2⟩;exact iQ kZ.out hd.2 rfl e.symm
   have Jh:Below y0.heap.size y0 w9:=j8 HR.out.lE HR.out.sz (Gr.eO hG9 (X:=(· =g)) (λk e=>by injection e with e;exact e.symm)) (λk e=>by rw[e];exact Hv.out.2.1);have HP:=lz (ai hp (ai hpw (ai mT (ai aCe Jh))));clear hp hpw mT hG9 aCe Jh;go_wp2_with fail;obtain⟨hp,hpw,mT,aCe,Jh⟩:=HP.out;refine bP Ds w9 y0.heap.size HR.out.nod aCe λW' j5=> ?_
   have hlen:(l'.map (·.1)).length=l.length:=by rw[FD];exact hp.length_eq
   have hpm:(l'.map (·.1)).Perm L:=by rw[<-Hl.out];exact hp.map _
   refine⟨.tuple #[.slice (Ai ⟨g,0,Ag⟩) l.length cap,.int .i64 0],by simp[results,f13,go_sem],⟨λ_=>⟨Ai ⟨g,0,Ag⟩,cap,l'.map (·.1),by rw[hlen],by rw[<-HL.out];exact hpm,Gx hpw ?_,?_,Hv.out.2.2.2.1,?_⟩,fun⟨m,hm,hn⟩=> ?_⟩,aV.out.trans ((Jh.trans j5.below).mono aV.out.size)⟩
   .exact((hpm.map (·.t)).nodup_iff).2 Hok.out.nodup
   .rw[hlen,Hv.out.2.2.2.2.1];exact Hv.out.2.2.1
   .have e:(l'.map (·.1)).flatMap aI.cells=l'.flatMap mq:=by rw[List.flatMap_map];rfl
    rw[hlen,e];exact nV (U1 mT j5) aV.out.size
   .have:=Co.out m hm
    omega
end
section
open Go.ChangeShapes Go.WideShapes Go.ChangeAt Go.RowKit
attribute [local go_sem] Oper.semAt_some
theorem gV{W:Al}{base cp:Nat}{A:Option EK}{l:List aI}(h:W.ownsRow base 53 3 (.slice A l.length cp) l.length (l.flatMap aI.cells)):iq W W.heap.size A l:=λhn=>by
 obtain⟨b,cap,hv,_,hlt⟩:=h.form hn;have hA:A=Ai ⟨b,0,Ag⟩:=by injection hv
 subst hA;refine⟨b,0,rfl,hlt,λi hi=> ?_⟩;have c0:=h.cells (g:=b) rfl _ _ (aS aI.cells 3 (λ_=>rfl) l i 0 hi oz);have c1:=h.cells (g:=b) rfl _ _ (aS aI.cells 3 (λ_=>rfl) l i 1 hi oz);have c2:=h.cells (g:=b) rfl _ _ (aS aI.cells 3 (λ_=>rfl) l i 2 hi oz);rw[eY]at c0 c1 c2;simpa using ai c0 (ai c1 c2)
theorem nu{W:Al}{base cp:Nat}{A:Option EK}{l:List Int}(h:W.ownsRow base 3 1 (.slice A l.length cp) l.length (l.map (GL .i64))):fV W W.heap.size A l:=λhn=>by
 obtain⟨b,cap,hv,_,hlt⟩:=h.form hn;have hA:A=Ai ⟨b,0,Ag⟩:=by injection hv
 subst hA;refine⟨b,0,rfl,hlt,λi hi=> ?_⟩;have c0:=h.cells (g:=b) rfl i (.int .i64 l[i]) (by simp[hi]);rw[eY]at c0;simpa using c0
theorem QX(w:Al)(t:TypeId)(l:List aI):iq (w.alloc (.cells (l.flatMap aI.cells).toArray t)) (w.alloc (.cells (l.flatMap aI.cells).toArray t)).heap.size (Ai ⟨w.heap.size,0,Ag⟩) l:=λhn=>by
 refine⟨w.heap.size,0,rfl,qz,λi hi=> ?_⟩;have key:∀j u,(l.flatMap aI.cells)[j]?=Ai u->(w.alloc (.cells (l.flatMap aI.cells).toArray t)).cell? ⟨w.heap.size,j,Ag⟩=Ai u:=λj u hu=>by
  rw[(ah.new w t (l.flatMap aI.cells).toArray).cell j];simpa using hu
 have c0:=key _ _ (aS aI.cells 3 (λ_=>rfl) l i 0 hi oz);have c1:=key _ _ (aS aI.cells 3 (λ_=>rfl) l i 1 hi oz);have c2:=key _ _ (aS aI.cells 3 (λ_=>rfl) l i 2 hi oz);simpa using ai c0 (ai c1 c2)
theorem QY(w:Al)(t:TypeId)(l:List Int):fV (w.alloc (.cells (l.map (GL .i64)).toArray t)) (w.alloc (.cells (l.map (GL .i64)).toArray t)).heap.size (Ai ⟨w.heap.size,0,Ag⟩) l:=λhn=>by
 refine⟨w.heap.size,0,rfl,qz,λi hi=> ?_⟩;rw[(ah.new w t (l.map (GL .i64)).toArray).cell];simp[hi]
theorem EB(a:List aI)(A1:Option EK)(n c1 c2:Nat)(w:Al)(ha:iq w w.heap.size A1 a)(hn:a.length=n)(hl:a.length<=100000):
 CU 14 #[.slice A1 n c1,.slice (Ai ⟨w.heap.size,0,Ag⟩) n c2] (w.alloc (.cells (a.flatMap aI.cells).toArray 53)) (.bool BR):=by
 have:=Ev a a A1 (Ai ⟨w.heap.size,0,Ag⟩) c1 c2 (w.alloc (.cells (a.flatMap aI.cells).toArray 53)) (ha.below (bN)) (QX w _ a) hl;rw[tI rfl,hn]at this;exact this
theorem EC(a:List Int)(A1:Option EK)(n c1 c2:Nat)(w:Al)(ha:fV w w.heap.size A1 a)(hn:a.length=n)(hl:a.length<=100000):
 CU 18 #[.slice A1 n c1,.slice (Ai ⟨w.heap.size,0,Ag⟩) n c2] (w.alloc (.cells (a.map (GL .i64)).toArray 3)) (.bool BR):=by
 have:=Et a a A1 (Ai ⟨w.heap.size,0,Ag⟩) c1 c2 (w.alloc (.cells (a.map (GL .i64)).toArray 3)) (ha.below (bN)) (QY w _ a) hl;rw[tI rfl,hn]at this;exact this
theorem YP(s:ByteArray)(ts:List Tok)(F:Nat)(I:List gF)(w:Al)(hs:s.size<=1000)(h:jG s F 0 []=Ai ts)(hl:ts.length<=100000)(hI:qA ts 0 I=BR)(hn:I.length<=900):
 ET pG 20 #[.string s] w λe w'=>∃(x:ay) (base:Nat),e= .returned x.val/\w.heap.size<base/\jP w' base x I/\Below w.heap.size w w':=by
 have hp:=λW=>aAv s ts F I W hs h hl hI hn
 have Hp:=lz hp;clear hp hs h hl hI hn;go_enter func20,ntmps20;go_wp2_with fail;refine(Hp.out _).mono ?_;rintro e w1 ⟨x,base,rfl,IG,ho,hb⟩;have hz:=ah.new w 31 #[.slice Ag 0 0,.slice Ag 0 0,.slice Ag 0 0,.slice Ag 0 0,.slice Ag 0 0,.slice Ag 0 0,.slice Ag 0 0,.slice Ag 0 0];have hz1:=hz.below hb hz.lt;have wV:Below w.heap.size w w1:=(bN).trans (hb.mono qz);have aK9:w.heap.size<base:=by simp at IG;omega
 have HR:=lz (ai aK9 (ai ho wV));obtain⟨⟨Am,cm,lm⟩,⟨Ac,cc,lc⟩,⟨As,cs,ls⟩,⟨Ak,ck,lk⟩,⟨Av,cv,lv⟩,⟨Ah,ch,lh⟩,⟨Aq,cq,lq⟩,⟨Ae,ce,le⟩⟩:=x;have hz2:=hz1.alloc (.cells #[.slice Am lm.length cm,.slice Ac lc.length cc,.slice As ls.length cs,.slice Ak lk.length ck,.slice Av lv.length cv,.slice Ah lh.length ch,.slice Aq lq.length cq,.slice Ae le.length ce] 31);have Hz2:=lz hz2;obtain⟨k0,f0,k1,f1,k2,f2,k3,f3,k4,f4,k5,f5,k6,f6,k7,f7⟩:(w1.alloc (.cells #[.slice Am lm.length cm,.slice Ac lc.length cc,.slice As ls.length cs,.slice Ak lk.length ck,.slice Av lv.length cv,.slice Ah lh.length ch,.slice Aq lq.length cq,.slice Ae le.length ce] 31)).cell? ⟨w.heap.size,0,Ag⟩=Ai (.slice Ag 0 0)/\(w1.alloc (.cells #[.slice Am lm.length cm,.slice Ac lc.length cc,.slice As ls.length cs,.slice Ak lk.length ck,.slice Av lv.length cv,.slice Ah lh.length ch,.slice Aq lq.length cq,.slice Ae le.length ce] 31)).frozen? ⟨w.heap.size,0,Ag⟩=Bj/\(w1.alloc (.cells #[.slice Am lm.length cm,.slice Ac lc.length cc,.slice As ls.length cs,.slice Ak lk.length ck,.slice Av lv.length cv,.slice Ah lh.length ch,.slice Aq lq.length cq,.slice Ae le.length ce] 31)).cell? ⟨w.heap.size,1,Ag⟩=Ai (.slice Ag 0 0)/\(w1.alloc (.cells #[.slice Am lm.length cm,.slice Ac lc.length cc,.slice As ls.length cs,.slice Ak lk.length ck,.slice Av lv.length cv,.slice Ah lh.length ch,.slice Aq lq.length cq,.slice Ae le.length ce] 31)).frozen? ⟨w.heap.size,1,Ag⟩=Bj/\(w1.alloc (.cells #[.slice Am lm.length cm,.slice Ac lc.length cc,.slice As ls.length cs,.slice Ak lk.length ck,.slice Av lv.length cv,.slice Ah lh.length ch,.slice Aq lq.length cq,.slice Ae le.length ce] 31)).cell? ⟨w.heap.size,2,Ag⟩=Ai (.slice Ag 0 0)/\(w1.alloc (.cells #[.slice Am lm.length cm,.slice Ac lc.length cc,.slice As ls.length cs,.slice Ak lk.length ck,.slice Av lv.length cv,.slice Ah lh.length ch,.slice Aq lq.length cq,.slice Ae le.length ce] 31)).frozen? ⟨w.heap.size,2,Ag⟩=Bj/\(w1.alloc (.cells #[.slice Am lm.length cm,.slice Ac lc.length cc,.slice As ls.length cs,.slice Ak lk.length ck,.slice Av lv.length cv,.slice Ah lh.length ch,.slice Aq lq.length cq,.slice Ae le.length ce] 31)).cell? ⟨w.heap.size,3,Ag⟩=Ai (.slice Ag 0 0)/\(w1.alloc (.cells #[.slice Am lm.length cm,.slice Ac lc.length cc,.slice As ls.length cs,.slice Ak lk.length ck,.slice Av lv.length cv,.slice Ah lh.length ch,.slice Aq lq.length cq,.slice Ae le.length ce] 31)).frozen? ⟨w.heap.size,3,Ag⟩=Bj/\(w1.alloc (.cells #[.slice Am lm.length cm,.slice Ac lc.length cc,.slice As ls.length cs,.slice Ak lk.length ck,.slice Av lv.length cv,.slice Ah lh.length ch,.slice Aq lq.length cq,.slice Ae le.length ce] 31)).cell? ⟨w.heap.size,4,Ag⟩=Ai (.slice Ag 0 0)/\(w1.alloc (.cells #[.slice Am lm.length cm,.slice Ac lc.length cc,.slice As ls.length cs,.slice Ak lk.length ck,.slice Av lv.length cv,.slice Ah lh.length ch,.slice Aq lq.length cq,.slice Ae le.length ce] 31)).frozen? ⟨w.heap.size,4,Ag⟩=Bj/\(w1.alloc (.cells #[.slice Am lm.length cm,.slice Ac lc.length cc,.slice As ls.length cs,.slice Ak lk.length ck,.slice Av lv.length cv,.slice Ah lh.length ch,.slice Aq lq.length cq,.slice Ae le.length ce] 31)).cell? ⟨w.heap.size,5,Ag⟩=Ai (.slice Ag 0 0)/\(w1.alloc (.cells #[.slice Am lm.length cm,.slice Ac lc.length cc,.slice As ls.length cs,.slice Ak lk.length ck,.slice Av lv.length cv,.slice Ah lh.length ch,.slice Aq lq.length cq,.slice Ae le.length ce] 31)).frozen? ⟨w.heap.size,5,Ag⟩=Bj/\(w1.alloc (.cells #[.slice Am lm.length cm,.slice Ac lc.length cc,.slice As ls.length cs,.slice Ak lk.length ck,.slice Av lv.length cv,.slice Ah lh.length ch,.slice Aq lq.length cq,.slice Ae le.length ce] 31)).cell? ⟨w.heap.size,6,Ag⟩=Ai (.slice Ag 0 0)/\(w1.alloc (.cells #[.slice Am lm.length cm,.slice Ac lc.length cc,.slice As ls.length cs,.slice Ak lk.length ck,.slice Av lv.length cv,.slice Ah lh.length ch,.slice Aq lq.length cq,.slice Ae le.length ce] 31)).frozen? ⟨w.heap.size,6,Ag⟩=Bj/\(w1.alloc (.cells #[.slice Am lm.length cm,.slice Ac lc.length cc,.slice As ls.length cs,.slice Ak lk.length ck,.slice Av lv.length cv,.slice Ah lh.length ch,.slice Aq lq.length cq,.slice Ae le.length ce] 31)).cell? ⟨w.heap.size,7,Ag⟩=Ai (.slice Ag 0 0)/\(w1.alloc (.cells #[.slice Am lm.length cm,.slice Ac lc.length cc,.slice As ls.length cs,.slice Ak lk.length ck,.slice Av lv.length cv,.slice Ah lh.length ch,.slice Aq lq.length cq,.slice Ae le.length ce] 31)).frozen? ⟨w.heap.size,7,Ag⟩=false:=⟨hz2.cell 0,hz2.frozen 0,hz2.cell 1,hz2.frozen 1,hz2.cell 2,hz2.frozen 2,hz2.cell 3,hz2.frozen 3,hz2.cell 4,hz2.frozen 4,hz2.cell 5,hz2.frozen 5,hz2.cell 6,hz2.frozen 6,hz2.cell 7,hz2.frozen 7⟩;clear ho hb hz hz1 wV hz2 IG aK9;simp only[ay.val,Sl.val];go_wp2_with fail;have hz9:=((((((((Hz2.out.bX 0 (.slice Am lm.length cm)).bX 1 (.slice Ac lc.length cc)).bX 2 (.slice As ls.length cs)).bX 3 (.slice Ak lk.length ck)).bX 4 (.slice Av lv.length cv)).bX 5 (.slice Ah lh.length ch)).bX 6 (.slice Aq lq.length cq)).bX 7 (.slice Ae le.length ce));have Oq:ah (((((((((w1.alloc (.cells #[.slice Am lm.length cm,.slice Ac lc.length cc,.slice As ls.length cs,.slice Ak lk.length ck,.slice Av lv.length cv,.slice Ah lh.length ch,.slice Aq lq.length cq,.slice Ae le.length ce] 31)).setCell ⟨w.heap.size,0,Ag⟩ (.slice Am lm.length cm)).setCell ⟨w.heap.size,1,Ag⟩ (.slice Ac lc.length cc)).setCell ⟨w.heap.size,2,Ag⟩ (.slice As ls.length cs)).setCell ⟨w.heap.size,3,Ag⟩ (.slice Ak lk.length ck)).setCell ⟨w.heap.size,4,Ag⟩ (.slice Av lv.length cv)).setCell ⟨w.heap.size,5,Ag⟩ (.slice Ah lh.length ch)).setCell ⟨w.heap.size,6,Ag⟩ (.slice Aq lq.length cq)).setCell ⟨w.heap.size,7,Ag⟩ (.slice Ae le.length ce)) w.heap.size 31 #[.slice Am lm.length cm,.slice Ac lc.length cc,.slice As ls.length cs,.slice Ak lk.length ck,.slice Av lv.length cv,.slice Ah lh.length ch,.slice Aq lq.length cq,.slice Ae le.length ce]:=by simpa using hz9
 have z0:=Oq.cell 0;have z1:=Oq.cell 1;have z2:=Oq.cell 2;have z3:=Oq.cell 3;have z4:=Oq.cell 4;have z5:=Oq.cell 5;have z6:=Oq.cell 6;have z7:=Oq.cell 7;simp only[List.getElem?_toArray,List.getElem?_cons_zero,List.getElem?_cons_succ]at z0 z1 z2 z3 z4 z5 z6 z7;refine GJ (v:= .agg #[.slice Am lm.length cm,.slice Ac lc.length cc,.slice As ls.length cs,.slice Ak lk.length ck,.slice Av lv.length cv,.slice Ah lh.length ch,.slice Aq lq.length cq,.slice Ae le.length ce]) (by simp[results,results20,go_sem,z0,z1,z2,z3,z4,z5,z6,z7]) rfl ?_;exact⟨⟨⟨Am,cm,lm⟩,⟨Ac,cc,lc⟩,⟨As,cs,ls⟩,⟨Ak,ck,lk⟩,⟨Av,cv,lv⟩,⟨Ah,ch,lh⟩,⟨Aq,cq,lq⟩,⟨Ae,ce,le⟩⟩,base,rfl,HR.out.1,(((((((((HR.out.2.1.below (bN)).far ⟨w.heap.size,0,Ag⟩ HR.out.1 _).far ⟨w.heap.size,1,Ag⟩ HR.out.1 _).far ⟨w.heap.size,2,Ag⟩ HR.out.1 _).far ⟨w.heap.size,3,Ag⟩ HR.out.1 _).far ⟨w.heap.size,4,Ag⟩ HR.out.1 _).far ⟨w.heap.size,5,Ag⟩ HR.out.1 _).far ⟨w.heap.size,6,Ag⟩ HR.out.1 _).far ⟨w.heap.size,7,Ag⟩ HR.out.1 _),(((((((((HR.out.2.2.trans ((bN).mono HR.out.2.2.size)).setCell (p:=⟨w.heap.size,0,Ag⟩) nL _).setCell (p:=⟨w.heap.size,1,Ag⟩) nL _).setCell (p:=⟨w.heap.size,2,Ag⟩) nL _).setCell (p:=⟨w.heap.size,3,Ag⟩) nL _).setCell (p:=⟨w.heap.size,4,Ag⟩) nL _).setCell (p:=⟨w.heap.size,5,Ag⟩) nL _).setCell (p:=⟨w.heap.size,6,Ag⟩) nL _).setCell (p:=⟨w.heap.size,7,Ag⟩) nL _)⟩
