import Derived.RangeFuncNested
import Derived.RangeFuncLeaves
import Derived.Test.YtmdgooofdmpcjaaGreatDoorY22
import Derived.Test.YtmdgooofdmpcjaaGreatDoorY2
import Derived.Test.YtmdgooofdmpcjaaGreatDoorY1
import Derived.Test.YtmdgooofdmpcjaaGreatDoorY0
set_option maxRecDepth 100000
set_option maxHeartbeats 8000000
set_option linter.unusedSimpArgs false
set_option linter.unusedVariables false
set_option linter.unusedSectionVars false
open Go.Proofs.Tryz renaming prog → pG
namespace Go.Proofs.YtmdgooofdmpcjaaGreatDoor
section
open Go.ChangeShapes Go.WideShapes Go.ChangeAt Go.RowKit
attribute [local go_sem] Oper.semAt_some
theorem iq.dn{w w':World}{B B':Nat}{A:Option Addr}{l:List aI}(h:iq w B A l)(hB:B≤B')(hk:∀b o,b<B→w'.cell? ⟨b,o,none⟩=w.cell? ⟨b,o,none⟩):iq w' B' A l:=fun hn=>by
 obtain⟨b,o,rfl,gD,hc⟩:=h hn;exact⟨b,o,rfl,oz,fun i hi=>⟨(hk b _ gD).trans (hc i hi).1,(hk b _ gD).trans (hc i hi).2.1,(hk b _ gD).trans (hc i hi).2.2⟩⟩
theorem iq.keep{w w':World}{B:Nat}{A:Option Addr}{l:List aI}(h:iq w B A l)(hb:Below B w w'):iq w' B A l:=h.dn nL (cZ hb)
theorem iq.below{w w':World}{A:Option Addr}{l:List aI}(h:iq w w.heap.size A l)(hb:Below w.heap.size w w'):iq w' w'.heap.size A l:=h.dn hb.size (cZ hb)
theorem aCS(r x:aI)(W:World):(binOp .neq 53 r.val x.val).run pG W= .ok (.bool (!decide (r=x))) W:=by
 have u3:=Tryz.underlying3;have hS:pG.underlying 53=some (.struct (pG.fieldsOf 53)):=by kernel_rfl
 have hp:pG.stoodInHeld 53=false:=by kernel_rfl
 obtain⟨a,b,c⟩:=r;obtain⟨a',b',c'⟩:=x;rw[run_neq_struct,show(10000:Nat)=9999+1 from rfl,run_equalIn_agg W 9999 53 _ _ hS hp];simp only[Program.fieldsOf,Tryz.underlying53];go_simp;by_cases h1:a=a'<;>by_cases h2:b=b'<;>by_cases h3:c=c'<;>simp[h1,h2,h3]<;>omega
theorem QS(r x:aI)(a b:Operand)(W:World):(eqGuard .neq 53 a b r.val x.val).run pG W= .ok () W:=run_eqGuard_agg W .neq 53 a b _ _ kz
theorem Et(a b:List Int)(A1 A2:Option Addr)(c1 c2:Nat)(w:World)(ha:fV w w.heap.size A1 a)(hb:fV w w.heap.size A2 b)(hl:a.length≤100000):
 CU 18 #[.slice A1 a.length c1,.slice A2 b.length c2] w (.bool (eqL a b)):=by
 have Ha:=lz ha;have Hb:=lz hb;clear ha hb
 cases hne:((a.length:Int) !=b.length)with
 | true=>
  have Hr:=lz (SQ hne);go_enter Tryz.func18,Tryz.ntmps18;go_wp2;go_ret;exact⟨fT Hr.out.symm,Below.refl _ _⟩
 | false=>
  have hab:a.length=b.length:=by
   have:(a.length:Int)=b.length:=by simpa using hne
   omega
  have Hab:=lz hab;clear hab;go_enter Tryz.func18,Tryz.ntmps18;go_wp2;go_loopw [5] (fun t wr=>∃k:Nat,k≤a.length∧t= .int .i64 k∧Below w.heap.size w wr∧Hid (∀j (h1:j<a.length) (h2:j<b.length),j<k→a[j]=b[j])) (fun t wr=>a.length-(intOf t).toNat)
  case atStart=>exact⟨0,nZ,rfl,Below.refl _ _,fun j _ _ h=>absurd h oz⟩
  case round=>
   obtain⟨k,hk,rfl,hB,aJ⟩:=hrel;by_cases hlt:k<a.length
   ·have sF:k<b.length:=by have:=Hab.out;omega
    obtain⟨g1,o1,rfl,hg1,hc1⟩:=(Ha.out.keep hB) oz;obtain⟨g2,o2,rfl,eG,qc⟩:=(Hb.out.keep hB) oz;have d1:=hc1 k hlt;have d2:=qc k sF;clear hc1 qc;have Oh:=YG hlt sF;have Eu:=lz Oh;have pE:a[k]=b[k]→∀j (h1:j<a.length) (h2:j<b.length),j<k+1→a[j]=b[j]:=fun e j h1 h2 hj=>by
     by_cases ej:j=k
     ·subst ej;exact e
     ·exact aJ.out j h1 h2 oz
    have lg:=lz pE;have HB:=lz hB;clear Oh pE aJ hB;generalize a[k]=x at *;generalize b[k]=y at *;by_cases e:x=y
    ·have he:(x !=y)=false:=by simp[e]
     have hn:=lz (lg.out e);clear lg Eu e;go_wp2_with fail;go_quiet (fail);go_wp2;go_roundw
     case rel=>exact⟨k+1,oz,by go_num,aD HB.out,hn⟩
     case measure=>simp[intOf];omega
    ·have he:(x !=y)=true:=by simp[e]
     have hn:=lz (Eu.out e);clear lg Eu e;go_wp2_with fail;go_quiet (fail);go_wp2;go_ret;exact⟨fT hn.out.symm,aD HB.out⟩
   ·have hn:=lz (SS Hab.out fun j h1 h2=>aJ.out j h1 h2 oz)
    clear aJ;go_wp2;go_ret;exact⟨fT hn.out.symm,hB⟩
theorem Ev(a b:List aI)(A1 A2:Option Addr)(c1 c2:Nat)(w:World)(ha:iq w w.heap.size A1 a)(hb:iq w w.heap.size A2 b)(hl:a.length≤100000):
 CU 14 #[.slice A1 a.length c1,.slice A2 b.length c2] w (.bool (eqL a b)):=by
 have Ha:=lz ha;have Hb:=lz hb;clear ha hb
 cases hne:((a.length:Int) !=b.length)with
 | true=>
  have Hr:=lz (SQ hne);go_enter Tryz.func14,Tryz.ntmps14;go_wp2;go_ret;exact⟨fT Hr.out.symm,Below.refl _ _⟩
 | false=>
  have hab:a.length=b.length:=by
   have:(a.length:Int)=b.length:=by simpa using hne
   omega
  have Hab:=lz hab;clear hab;go_enter Tryz.func14,Tryz.ntmps14;go_wp2;go_loopw [5] (fun t wr=>∃k:Nat,k≤a.length∧t= .int .i64 k∧Below w.heap.size w wr∧Hid (∀j (h1:j<a.length) (h2:j<b.length),j<k→a[j]=b[j])) (fun t wr=>a.length-(intOf t).toNat)
  case atStart=>exact⟨0,nZ,rfl,Below.refl _ _,fun j _ _ h=>absurd h oz⟩
  case round=>
   obtain⟨k,hk,rfl,hB,aJ⟩:=hrel;by_cases hlt:k<a.length
   ·have sF:k<b.length:=by have:=Hab.out;omega
    obtain⟨g1,o1,rfl,hg1,hc1⟩:=(Ha.out.keep hB) oz;obtain⟨g2,o2,rfl,eG,qc⟩:=(Hb.out.keep hB) oz;obtain⟨d1,d2,d3⟩:=hc1 k hlt;obtain⟨d4,d5,d6⟩:=qc k sF;have hq:=fun W=>aCS a[k] b[k] W
    have hg:=fun x y W=>QS a[k] b[k] x y W
    clear hc1 qc;have Oh:=YG hlt sF;have Eu:=lz Oh;have pE:a[k]=b[k]→∀j (h1:j<a.length) (h2:j<b.length),j<k+1→a[j]=b[j]:=fun e j h1 h2 hj=>by
     by_cases ej:j=k
     ·subst ej;exact e
     ·exact aJ.out j h1 h2 oz
    have lg:=lz pE;have HB:=lz hB;clear Oh pE aJ hB;generalize a[k]=x at *;generalize b[k]=y at *;by_cases e:x=y
    ·rw[dT e]at hq
     have hn:=lz (lg.out e);clear lg Eu e;go_wp2_with fail;go_quiet (fail);go_wp2;go_roundw
     case rel=>exact⟨k+1,oz,by go_num,aD HB.out,hn⟩
     case measure=>simp[intOf];omega
    ·rw[dF e]at hq
     have hn:=lz (Eu.out e);clear lg Eu e;go_wp2_with fail;go_quiet (fail);go_wp2;go_ret;exact⟨fT hn.out.symm,aD HB.out⟩
   ·have hn:=lz (SS Hab.out fun j h1 h2=>aJ.out j h1 h2 oz)
    clear aJ;go_wp2;go_ret;exact⟨fT hn.out.symm,hB⟩
end
section
open Go.ChangeShapes Go.WideShapes Go.ChangeAt Go.RowKit Go.Sort
attribute [local go_sem] Oper.semAt_some
open Go.Act renaming put → zP
open List renaming setIfInBounds_toArray → zA, set_cons_zero → zB, set_cons_succ → zC
theorem U0(w:World)(a b c:Obj):(((w.alloc a).alloc b).alloc c).drew=grow (w.drewN 1) #[a,b,c]:=by
 show((w.alloc a).alloc b).drew.alloc c=_;rw[alloc_eq_grow,show((w.alloc a).alloc b).drew=grow (w.drewN 1) #[a,b]from by rw[alloc_eq_grow,alloc_eq_grow,grow_grow];rfl,grow_grow];rfl
def K6(d:List Int)(a c:aI):Int:=orV (d.getD a.t (-1)-d.getD c.t (-1)) ((a.t:Int)-c.t)
theorem YH(d:List Int)(a c:aI)(ha:a.t<12)(hc:c.t<12)(hd:∀i,-1≤d.getD i (-1)∧d.getD i (-1)≤12)(sb b:Nat)(w:World)(hs:w.cell? ⟨sb,0,none⟩=some (.pointer (some ⟨b,0,none⟩)))(hb:∀i,i<12→w.cell? ⟨b,3+i,none⟩=some (.int .i64 (d.getD i (-1)))):
 Calls pG 40 #[a.val,c.val,.pointer (some ⟨sb,0,none⟩)] w fun e w'=>e= .returned (.int .i64 (K6 d a c))∧∃q os',w'=grow (w.drewN q) os':=by
 obtain⟨y0,bR⟩:=ez ((w.alloc (.cells #[.int .i64 a.f,.int .i64 a.t,.int .i64 a.l] 53)).alloc (.cells #[.int .i64 c.f,.int .i64 c.t,.int .i64 c.l] 53));have bW:Below w.heap.size w y0:=by rw[bR];exact(bN).alloc qz _
 have hba:ah y0 w.heap.size 53 #[.int .i64 a.f,.int .i64 a.t,.int .i64 a.l]:=by rw[bR];exact(ah.new w _ _).alloc _
 have yh:ah y0 (w.heap.size+1) 53 #[.int .i64 c.f,.int .i64 c.t,.int .i64 c.l]:=by
  rw[bR];have:=ah.new (w.alloc (.cells #[.int .i64 a.f,.int .i64 a.t,.int .i64 a.l] 53)) 53 #[.int .i64 c.f,.int .i64 c.t,.int .i64 c.l]
  rwa[World.size_alloc]at this
 have hsz:y0.heap.size=w.heap.size+2:=by rw[bR];simp
 have hsb:=World.block_lt_of_cell? w _ hs;have mz:=World.block_lt_of_cell? w _ (hb 0 oz);have hHeld:∀W,Below y0.heap.size y0 W→W.cell? ⟨sb,0,none⟩=some (.pointer (some ⟨b,0,none⟩))∧W.cell? ⟨w.heap.size,1,none⟩=some (.int .i64 a.t)∧W.cell? ⟨w.heap.size+1,1,none⟩=some (.int .i64 c.t)∧W.cell? ⟨b,3+a.t,none⟩=some (.int .i64 (d.getD a.t (-1)))∧W.cell? ⟨b,3+c.t,none⟩=some (.int .i64 (d.getD c.t (-1))):=fun W hW=>by
  have h2:=bW.trans (hW.mono bW.size);exact⟨(h2.cell (p:=⟨sb,0,none⟩) hsb).trans hs,(hba.below hW hba.lt).cell 1,(yh.below hW yh.lt).cell 1,(h2.cell (p:=⟨b,3+a.t,none⟩) mz).trans (hb _ ha),(h2.cell (p:=⟨b,3+c.t,none⟩) mz).trans (hb _ hc)⟩
 obtain⟨da,hda⟩:=ez (d.getD a.t (-1));obtain⟨dc,hdc⟩:=ez (d.getD c.t (-1));have TD:=hd a.t;have hd2:=hd c.t;have aPL:=lz (show K6 d a c=orV (da-dc) ((a.t:Int)-c.t)by rw[hda,hdc];rfl);rw[←hda]at hHeld TD;rw[←hdc]at hHeld hd2;obtain⟨da1,da2⟩:=TD;obtain⟨dc1,dc2⟩:=hd2;have hai:(a.t:Int)<12:=by omega
 have hci:(c.t:Int)<12:=by omega
 have cN:IntKind.i64.wrap (da-dc)=da-dc:=IntWalk.i64_in _ ⟨oz,oz⟩;have hw2:IntKind.i64.wrap ((a.t:Int)-(c.t:Int))=(a.t:Int)-c.t:=IntWalk.i64_in _ ⟨oz,oz⟩;have uh:=lz hHeld;have aV:=lz bW;have dV:=lz bR;have Hsz:=lz hsz;have hH:=hHeld y0.drew (Below.refl _ _).drew;clear hHeld bW hba yh hsz bR hs hb hsb mz hd hda hdc;go_enter Tryz.func40,Tryz.ntmps40;go_wp2_with fail;rw[←dV.out];refine aT (fun W=>W.cell? ⟨sb,0,none⟩=some (.pointer (some ⟨b,0,none⟩))∧W.cell? ⟨w.heap.size,1,none⟩=some (.int .i64 a.t)∧W.cell? ⟨w.heap.size+1,1,none⟩=some (.int .i64 c.t)∧W.cell? ⟨b,3+a.t,none⟩=some (.int .i64 da)∧W.cell? ⟨b,3+c.t,none⟩=some (.int .i64 dc)) 20 kz hH (fun hHeld=> ?_);refine TS 0 rfl hHeld ?_;simp only[zP,zA,zB,zC];refine TS 1 rfl hHeld ?_;simp only[zP,zA,zB,zC];refine TS 2 rfl hHeld ?_;simp only[zP,zA,zB,zC];refine TS 3 rfl hHeld ?_;simp only[zP,zA,zB,zC];refine TS 4 rfl hHeld ?_;simp only[zP,zA,zB,zC];refine TS 5 rfl hHeld ?_;simp only[zP,zA,zB,zC];refine TS 6 rfl hHeld ?_;simp only[zP,zA,zB,zC];refine TS 7 rfl hHeld ?_;simp only[zP,zA,zB,zC];refine TS 8 rfl hHeld ?_;simp only[zP,zA,zB,zC];refine TS 9 rfl hHeld ?_;simp only[zP,zA,zB,zC];refine TS 10 rfl hHeld ?_;simp only[zP,zA,zB,zC];refine TS 11 rfl hHeld ?_;simp only[zP,zA,zB,zC];refine TS 12 rfl hHeld ?_;simp only[zP,zA,zB,zC];refine TS 13 rfl hHeld ?_;simp only[zP,zA,zB,zC];refine TS 14 rfl hHeld ?_;simp only[zP,zA,zB,zC];refine TS 15 rfl hHeld ?_;simp only[zP,zA,zB,zC];refine TS 16 rfl hHeld ?_;simp only[zP,zA,zB,zC];refine TS 17 rfl hHeld ?_;simp only[zP,zA,zB,zC];refine TS 18 rfl hHeld ?_;simp only[zP,zA,zB,zC];refine TS 19 rfl hHeld ?_;simp only[zP,zA,zB,zC];refine RQ 20 rfl fun K hK=> ?_
 go_simp;obtain⟨W1,hW1⟩:=ez ((y0.alloc (.cells #[.int .i64 (da-dc),.int .i64 ((a.t:Int)-c.t)] 3)).drew);obtain⟨rb,iy⟩:=ez y0.heap.size;have bY:Below y0.heap.size y0 W1:=by rw[hW1];exact(bN).drew
 have iO:ah W1 rb 3 #[.int .i64 (da-dc),.int .i64 ((a.t:Int)-c.t)]:=by rw[hW1,iy];exact(ah.new y0 _ _).drew
 refine hK.out _ _ (fun h=>absurd h dz) ?_;clear hK hHeld;rw[←hW1];have rA:=lz iO;have KE:=lz (show∃q os',W1=grow (w.drewN q) os' from⟨1,_,by rw[hW1,dV.out];exact U0 w _ _ _⟩);rw[←iy];clear iO bY hW1 iy;refine RQ 21 rfl fun K hK=> ?_
 go_simp;refine(Sm (da-dc) ((a.t:Int)-c.t) _ 2 W1 (fun _=>⟨rb,0,rfl,rA.out.lt,fun i hi=> ?_⟩) nL).mono ?_
 ·simp only[List.length_cons,List.length_nil]at hi
  obtain rfl | rfl:i=0∨i=1:=by omega
  ·exact rA.out.cell 0
  ·exact rA.out.cell 1
 rintro e w' ⟨rfl,rfl⟩;refine hK.out _ _ (fun h=>absurd h dz) ?_;clear hK;refine RQ 22 rfl fun K hK=> ?_
 go_simp;refine hK.out _ _ (fun h=>absurd h dz) ?_;clear hK;refine aL kz ?_ _;go_wp2;go_ret;exact⟨by rw[aPL.out];rfl,KE.out⟩
abbrev jx:={e:aI // e.t<12}
instance:Inhabited jx:=⟨⟨aI.zero,dz⟩⟩
def mq(x:jx):List Value:=x.1.cells
theorem Oi(l:List jx):(l.flatMap mq).length=l.length*3:=by
 induction l with
 | nil=>rfl
 | cons r l ih=>simp[mq,aI.cells]at ih ⊢;omega
theorem Jv(l:List jx)(t:Nat)(ht:t<l.length*3):(l.flatMap mq)[t]?=some ((flatK mq 3 l.toArray)[t]!):=by
 rw[get_flatK mq 3 l.toArray t (by simpa using ht)];have h1:t/3<l.length:=by omega
 rw[show(l.toArray)[t/3]! =l[t/3]from by simp[h1]];have h:=aS mq 3 (fun _=>rfl) l (t/3) (t%3) h1 oz;rw[show t/3*3+t%3=t from by omega]at h;rw[h];have h3:t%3=0∨t%3=1∨t%3=2:=by omega
 rcases h3 with e | e | e<;>simp[e,mq,aI.cells]
theorem Ew{w:World}{base g cap:Nat}{l:List jx}(h:w.ownsRow base 53 3 (.slice (some ⟨g,0,none⟩) l.length cap) l.length (l.flatMap mq)):HoldsK mq 3 w g 0 l.toArray:=by
 intro t ht;have Sg:t<l.length*3:=by simpa using ht
 rw[Nat.zero_add];have hc:=h.cells (g:=g) rfl t _ (Jv l t Sg);rw[eY]at hc;refine⟨by simpa using hc,?_⟩;have:=h.frozenAt t;simpa using this
theorem BF{w:World}{base g cap:Nat}{l:List jx}(h:w.ownsRow base 53 3 (.slice (some ⟨g,0,none⟩) l.length cap) l.length (l.flatMap mq))(n:Nat)(d:Array jx)(hd:d.size=l.length)(os:Array Obj):
 (sortWorldK mq 3 w g 0 n d os).ownsRow base 53 3 (.slice (some ⟨g,0,none⟩) l.length cap) l.length (d.toList.flatMap mq)∧w.grownBy (sortWorldK mq 3 w g 0 n d os) (some g):=by
 rcases h.2 with⟨h0,_⟩ | ⟨g',cap',cur,hv,hb,hh,hlc,Pk,hsz,WY⟩
 ·cases h0
 injection hv with Me hv2 hv3
 injection Me with Me
 injection Me with Me
 subst Me hv3;have hg:g<w.heap.size:=ah.lt (t:=53) hh;have hW:(sortWorldK mq 3 w g 0 n d os).heap=(w.heap.modify g (onCells (putCells id 0 (flatK mq 3 d))))++os:=rfl;refine⟨⟨by rw[Oi];simp[hd],.inr ⟨g,cap,putCells id 0 (flatK mq 3 d) cur,rfl,hb,?_,hlc,Pk,?_,?_⟩⟩,⟨rfl,rfl,rfl,?_,?_⟩⟩
 ·rw[hW,Array.getElem?_append_left (by simpa using hg),Array.getElem?_modify]
  simp[hh,onCells]
 ·simp[putCells,hsz]
 ·have key:∀t,t<d.size*3→(putCells id 0 (flatK mq 3 d) cur)[t]?=some ((flatK mq 3 d)[t]!):=by
   intro t ht;have htc:t<cur.size:=by rw[hsz];exact Nat.lt_of_lt_of_le ht (Nat.mul_le_mul_right 3 oz)
   simp[putCells,htc,ht]
  apply List.ext_getElem?;intro t;by_cases ht:t<l.length*3
  ·rw[List.getElem?_take_of_lt ht,Array.getElem?_toList,key t oz]
   have:=Jv d.toList t (by simpa [hd]using ht);rw[this]
  ·rw[List.getElem?_eq_none qo,List.getElem?_eq_none (by rw[Oi];simp[hd];omega)]
 ·rw[hW];simp
 ·intro k hk hne
  rw[hW,Array.getElem?_append_left (by simpa using hk),Array.getElem?_modify];rw[if_neg (fun e=>hne (by rw[e]))]
def Ey(d:List Int)(x y:jx):Int:=K6 d x.1 y.1
theorem QT{d:List Int}{x y:jx}:Go.Proofs.ltOf (Ey d) x y=true↔d.getD x.1.t (-1)<d.getD y.1.t (-1)∨(d.getD x.1.t (-1)=d.getD y.1.t (-1)∧x.1.t<y.1.t):=by
 unfold Go.Proofs.ltOf Ey K6 orV;rw[decide_eq_true_eq];split<;>omega
theorem SV(d:List Int):SWO (Go.Proofs.ltOf (Ey d)):=by
 have hf:∀x y:jx,Go.Proofs.ltOf (Ey d) x y=false↔¬(d.getD x.1.t (-1)<d.getD y.1.t (-1)∨(d.getD x.1.t (-1)=d.getD y.1.t (-1)∧x.1.t<y.1.t)):=fun x y=>by rw[←QT];simp
 refine⟨fun x=>(hf x x).2 oz,fun x y z h k=> ?_,fun x y z h k=> ?_⟩
 ·rw[QT]at h k ⊢;omega
 ·rw[hf]at h k ⊢;omega
theorem QU(d:List Int)(hd:∀i,-1≤d.getD i (-1)∧d.getD i (-1)≤12)(sb b base g cap:Nat)(l:List jx)(w:World)(h:w.ownsRow base 53 3 (.slice (some ⟨g,0,none⟩) l.length cap) l.length (l.flatMap mq))(hl:l.length≤1000)
 (hs:w.cell? ⟨sb,0,none⟩=some (.pointer (some ⟨b,0,none⟩))) (hb:∀i,i<12→w.cell? ⟨b,3+i,none⟩=some (.int .i64 (d.getD i (-1)))) (hgs:sb≠g) (Ec:b≠g):
 Calls pG 39 #[.slice (some ⟨g,0,none⟩) l.length cap,.func (.func 40) #[] #[.pointer (some ⟨sb,0,none⟩)]] w fun e w'=>e= .returned (.tuple #[])∧∃l':List jx,l'.Perm l∧l'.Pairwise (fun x y=>Go.Proofs.ltOf (Ey d) y x=false)∧w'.ownsRow base 53 3 (.slice (some ⟨g,0,none⟩) l.length cap) l.length (l'.flatMap mq)∧w.grownBy w' (some g):=by
 have hg:g<w.heap.size:=(h.lt g rfl).2;have hsb:=World.block_lt_of_cell? w _ hs;have mz:=World.block_lt_of_cell? w _ (hb 0 oz);have hsz:l.toArray.size=l.length:=by simp
 have hp:Calls pG 109 #[.slice (some ⟨g,0,none⟩) l.length cap,.int .i64 (0:Nat),.int .i64 l.length,.int .i64 (Lib.bitLen l.length:Nat),.func (.func 40) #[] #[.pointer (some ⟨sb,0,none⟩)]] w fun e w'=>e= .returned (.tuple #[])∧SWK mq 3 w g 0 (pdq (Go.Proofs.ltOf (Ey d)) l.toArray 0 l.length (Lib.bitLen l.length) true true) w':=
  Go.Proofs.AnyQ.pdqsortCmpFunc_all Go.Proofs.Tryz.SC 3 Go.Proofs.Tryz.isAgg53 Go.Proofs.Tryz.sizeOf53 mq (Ey d) 40 #[.pointer (some ⟨sb,0,none⟩)] (SV d) g 0 cap l.toArray w
   (enters_of Tryz.func40 kz rfl) (fun m os dk hdk x y=>by
    have hgr:=(BF h m dk (by rw[hdk];simp) os).2;exact YH d x.1 y.1 x.2 y.2 hd sb b _ ((hgr.cell_far ⟨sb,0,none⟩ hsb (by simpa using hgs)).trans hs) (fun i hi=>(hgr.cell_far ⟨b,3+i,none⟩ mz (by simpa using Ec)).trans (hb i hi)))
   ⟨fun _=>rfl,fun x v hv=>by simp[mq,aI.cells]at hv;rcases hv with rfl | rfl | rfl<;>rfl,Ew h,hg⟩ (l.length+1) 0 l.length (Lib.bitLen l.length) l.toArray w oz rfl (SWK.start (Ew h)) nZ qz qo (Nat.lt_of_le_of_lt (Lib.bitLen_le l.length 62 oz oz) oz) (Or.inl rfl)
 have Cb:Calls pG 110 #[.int .u64 (l.length:Int)] w fun e w'=>e= .returned (.int .i64 (Lib.bitLen l.length:Nat))∧w'=w:=by
  have h:=Go.Proofs.Any.bits_Len (SlLaysF0.n15.bits (P:=pG) {Go.Proofs.Tryz.SC with}) (l.length:Int) w oz oz
  rwa[Int.toNat_natCast]at h
 have BX:=pdq_sorts (Go.Proofs.ltOf (Ey d)) (SV d) l.toArray 0 l.length (Lib.bitLen l.length) true true nZ qz (Or.inl rfl);have wr:IntKind.u64.wrap (l.length:Int)=l.length:=by simp[IntKind.wrap,IntKind.bits,IntKind.signed];omega
 have Hh:=lz h;have Hp:=lz hp;have Hl2:=lz Cb;have Hps:=lz BX;clear h hp Cb BX hs hb hd;go_enter Tryz.func39,Tryz.ntmps39;go_wp2_with fail;refine Hl2.out.mono ?_;rintro e w' ⟨rfl,rfl⟩;go_wp2_with fail;refine Hp.out.mono ?_;rintro e w' ⟨rfl,n,os,rfl⟩;go_wp2_with fail;obtain⟨⟨hz,_,YI⟩,aEA⟩:=Hps.out;obtain⟨D,hD⟩:=ez (pdq (Go.Proofs.ltOf (Ey d)) l.toArray 0 l.length (Lib.bitLen l.length) true true);rw[←hD]at hz YI aEA ⊢;have hz':D.size=l.length:=by simpa using hz
 obtain⟨h1,h2⟩:=BF Hh.out n D hz' os;refine bodyPost_end (results_none rfl _ _ _) rfl ?_;refine⟨rfl,D.toList,?_,?_,h1,h2⟩
 ·have e:D.extract 0 l.length=D:=by rw[←hz'];simp
  have e2:(l.toArray.extract 0 l.length).toList=l:=by simp
  rw[e,e2]at YI;exact YI
 ·rw[List.pairwise_iff_getElem]
  intro i j hi hj hij;have hj':j<D.size:=by simpa using hj
  have:=aEA i j nZ hij oz;rw[getElem!_pos D i oz,getElem!_pos D j hj']at this;simpa using this
end
section
open Go Go.RowKit
def aKs{α:Type}(F:Fence)(n:Nat)(P:Program)(g:Nat)(lb:Array Value)(encs:α→Array Value)(Kp:World→World→Prop)(S Sp:List α→Prop)(N nb:Nat)(w:World):Prop:=
 ∀(l:Nat) (J Jx:List α→World→Prop) (W:World),Below w.heap.size w W→(∀pre A B,J pre A→A.grownBy B none→J pre B)→(∀pre A u,J pre A→J pre (A.setCell ⟨nb,0,none⟩ u))→
  (∀pre x W1,J pre W1→pre.length<N→YieldAt F (n-1) P l (encs x) W1 fun e W'=>(e= .returned (.bool true)∧J (pre++ [x]) W'∧Kp W1 W')∨(e= .returned (.bool false)∧Jx (pre++ [x]) W'))→
  J [] W→CallsIn F n P g (#[.func (.yield l) #[] #[]]++lb) W fun e W'=>(∃v,e= .returned v)∧((∃xs,S xs∧J xs W')∨(∃pre,Sp pre∧Jx pre W'))
theorem yF{w:World}{nb k:Nat}(u:Value)(h:k≠nb):(w.setCell ⟨nb,0,none⟩ u).heap[k]?=w.heap[k]?:=Below.heap_setCell w ⟨nb,0,none⟩ u k h
theorem Ez{A B:World}{k:Nat}{o:Obj}(h:A.grownBy B none)(ho:A.heap[k]?=some o):B.heap[k]?=some o:=(h.block k (gE ho).1 qz).trans ho
variable {F:Fence} {n:Nat} {P:Program} {w:World}
theorem uo{α:Type}{g:Operand}{ps:Array Tmp}{assign body:Code}{Q:Exit→Act→World→Prop}{a:Act}
 (hro:F.round=none) (h1:1≤n) {gf nb:Nat} {lb:Array Value} (hg:a.eval g= .func (.func gf) #[] lb) (hFg:F.fn gf) (eg:∀args w,(callFunc gf args).run P w= .ok (.enter gf args) w)
 {encs:α→Array Value} {Kp:World→World→Prop} {S Sp:List α→Prop} {N:Nat} {w0:World} (aCT:aKs F (n-1) P gf lb encs Kp S Sp N nb w0) (uH:nb<w.heap.size)
 (hKt:∀{A B C:World},Kp A B→Kp B C→Kp A C) (hKb:∀(W:World) (l:Nat) (o o':Obj),w.heap.size≤l→W.heap[l]?=some o→o.isCells=false→o.isWalk=false→Kp W (W.putObj l o')) (bS:Below w0.heap.size w0 w) (BX:∀x,(encs x).size=ps.size)
 (I:List α→World→Prop) (Ix:Code→List α→World→Prop) (hI:OwnFrom w.heap.size I) (hIc:∀pre A u,I pre A→I pre (A.setCell ⟨nb,0,none⟩ u)) (hIx:∀c,OwnFrom w.heap.size (Ix c)) (h0:I [] w) (Ax:α→Act→World→Prop) (Kf:∀x a',OwnFrom w.heap.size (fun(_:Unit) W=>Ax x a' W))
 (rm:∀(l:Nat) (pre:List α) (x:α) (W:World) (K:Act→World→Prop),I pre W→(∀a' W',KeepsFrom w.heap.size W W'→Kp W W'→I pre W'→Ax x a' W'→K a' W')→
  assign.wpIn (F.inRound l) (n-1-1) P (Exit.then K (fun _ _ _=>False)) {tmps:=(ps.zip (encs x)).foldl (fun t (p,v)=>t.setIfInBounds p v) a.tmps,defers:= []} W)
 (DK:∀(l:Nat) (pre:List α) (x:α) (a':Act) (W:World),w.heap.size≤l→(∃r,W.heap[l]?=some (.loop r))→I pre W→Ax x a' W→pre.length<N→body.wpIn (F.inRound l) (n-1-1) P (ownPostG w.heap.size Kp I Ix (pre++ [x]) W) a' W)
 (uK:∀(D:Nat) (xs:List α) (W:World),w.heap.size≤D→S xs→I xs W→W.heap[D]?=some (.deferred (some []))→Q .normal {a with defers:={target:= .collected D,args:= #[]} :: a.defers} W)
 (aKt:∀(D:Nat) (c:Code) (pre:List α) (W:World),w.heap.size≤D→Sp pre→Ix c pre W→W.heap[D]?=some (.deferred (some []))→c.wpIn F n P Q {a with defers:={target:= .collected D,args:= #[]} :: a.defers} W):
 (Code.rangeFunc g ps assign body).wpIn F n P Q a w:=by
 refine wpIn_rangeFunc fun fn RF=> ?_
 rw[hro];obtain⟨rec,jL⟩:∃rec:LoopState→Option Code→Loop,rec=fun st pe=>{state:=st,pending:=pe,fn,tmps:=a.tmps,params:=ps,assign,body,defers:=w.heap.size}:=⟨_,rfl⟩
 obtain⟨L,hL⟩:=ez (w.heap.size+1);obtain⟨W1,hW1⟩:=ez ((w.alloc (.deferred (some []))).alloc (.loop (rec .ready none)));have hs1:W1.heap.size=w.heap.size+2:=by rw[hW1];simp
 have DL:W1.heap[L]?=some (.loop (rec .ready none)):=by
  have:=World.alloc_heap_new (w.alloc (.deferred (some []))) (.loop (rec .ready none));rw[World.size_alloc]at this;rw[hW1,hL];exact this
 have Cq:W1.heap[w.heap.size]?=some (.deferred (some [])):=by
  rw[hW1];exact(Below.heap_alloc _ _ _ qz).trans (World.alloc_heap_new w _)
 have Wq:I [] W1:=by rw[hW1];exact hI.alloc _ (hI.alloc _ h0)
 have aU:Below w0.heap.size w0 W1:=by
  rw[hW1];exact bS.trans (((bN).alloc qz _).mono bS.size)
 refine⟨L,[{target:= .collected w.heap.size,args:= #[]}],W1,{target:= .fn (.func gf) lb,args:= #[.func (.yield L) #[] #[]]},W1,gf,#[.func (.yield L) #[] #[]]++lb,W1,?_,?_,?_,?_,fun _=>h1,?_⟩
 ·rw[hW1,jL,hL];exact run_enterLoop_outer _ _ _ _ _
 ·simp only[resolve,hg]
  simp[go_sem]
 ·intro f' PS;simp[Target.leads]at PS;subst PS;exact hFg
 ·simp[invoke,go_sem,eg]
 have hLn:L≠nb:=by omega
 have hDn:w.heap.size≠nb:=by omega
 refine(aCT L
  (fun pre W=>I pre W∧W.heap[L]?=some (.loop (rec .ready none))∧W.heap[w.heap.size]?=some (.deferred (some [])))
  (fun pre W=>∃c,Ix c pre W∧W.heap[L]?=some (.loop (rec .done (some c)))∧W.heap[w.heap.size]?=some (.deferred (some [])))
  W1 aU
  (fun pre A B h hG=>⟨hI pre A B none h.1 hG (fun r e=>by cases e),Ez hG h.2.1,Ez hG h.2.2⟩)
  (fun pre A u h=>⟨hIc pre A u h.1,(yF u hLn).trans h.2.1,(yF u hDn).trans h.2.2⟩)
  ?_ ⟨Wq,DL,Cq⟩).mono ?_
 ·rintro pre x W ⟨hi,hl,hk⟩ hlen
  have hy:=run_yield (P:=P) (args:=encs x) hl (by rw[jL];exact BX x);rw[jL]at hy;refine⟨fn,_,assign,body,hy,roundIn_of_wpIn RF (rm _ pre x W _ hi fun a' Wa hkf hkp hia Vr=> ?_)⟩;have hl':=hkf.same _ _ oz hl rfl;have WH:=hkf.same _ _ nL hk rfl;have hlt:L<Wa.heap.size:=(gE hl').1;obtain⟨V,hV⟩:=ez (Wa.putObj L (.loop {rec .ready none with state:= .busy}));have hlV:V.heap[L]?=some (.loop {rec .ready none with state:= .busy}):=by rw[hV];exact World.putObj_heap_same hlt
  have hkV:V.heap[w.heap.size]?=some (.deferred (some [])):=by rw[hV];exact(World.putObj_heap_other oz).trans WH
  have hKV:Kp Wa V:=by rw[hV];exact hKb _ _ _ _ oz hl' rfl rfl
  have hiV:I pre V:=by rw[hV];exact hI.putObj _ hia oz hl' rfl
  have haV:Ax x a' V:=by rw[hV];exact(Kf x a').putObj (s:=()) _ Vr oz hl' rfl
  refine⟨V,by rw[hV];exact run_beginRound hl' (by rw[jL]),?_⟩;refine wpIn_mono (DK _ pre x a' V oz ⟨_,hlV⟩ hiV haV hlen) ?_;have fin:∀(jump:Option Code) (W3:World),KeepsFrom w.heap.size V W3→∃W4,W4=W3.putObj L (.loop (rec (if jump.isNone then .ready else .done) jump))∧
   (Instr.endRound L jump).run P W3= .ok (.bool jump.isNone) W4∧W3.heap[L]?=some (.loop {rec .ready none with state:= .busy})∧W4.heap[L]?=some (.loop (rec (if jump.isNone then .ready else .done) jump))∧W4.heap[w.heap.size]?=some (.deferred (some [])):=fun jump W3 h3=>by
   have qD:=h3.same _ _ oz hlV rfl;have hr:=run_endRound (P:=P) jump qD;refine⟨_,rfl,?_,qD,World.putObj_heap_same (gE qD).1,(World.putObj_heap_other oz).trans (h3.same _ _ nL hkV rfl)⟩;rw[jL]at hr ⊢;exact hr
  rintro e a3 W3 hp
  cases e with
  | normal=>
   obtain⟨h3,zo,hi3⟩:=hp;obtain⟨W4,rfl,hr,qD,Xk,hk4⟩:=fin none W3 h3;exact⟨_,_,hr,.inl ⟨rfl,⟨hI.putObj _ hi3 oz qD rfl,Xk,hk4⟩,hKt hkp (hKt (hKt hKV zo) (hKb _ _ _ _ oz qD rfl rfl))⟩⟩
  | ret=>
   obtain⟨h3,hi3⟩:=hp;obtain⟨W4,rfl,hr,qD,Xk,hk4⟩:=fin (some .ret) W3 h3;exact⟨_,_,hr,.inr ⟨rfl,.ret,(hIx _).putObj _ hi3 oz qD rfl,Xk,hk4⟩⟩
  | exit id=>
   obtain⟨h3,hi3⟩:=hp;obtain⟨W4,rfl,hr,qD,Xk,hk4⟩:=fin (some (.exit id)) W3 h3;exact⟨_,_,hr,.inr ⟨rfl,.exit id,(hIx _).putObj _ hi3 oz qD rfl,Xk,hk4⟩⟩
  | goto t=>
   obtain⟨h3,hi3⟩:=hp;obtain⟨W4,rfl,hr,qD,Xk,hk4⟩:=fin (some (.goto t)) W3 h3;exact⟨_,_,hr,.inr ⟨rfl,.goto t,(hIx _).putObj _ hi3 oz qD rfl,Xk,hk4⟩⟩
  | panic ch=>exact hp.elim
  | outgrown=>exact hp.elim
 ·rintro e W2 ⟨⟨v,rfl⟩,(⟨xs,hS,hi,hl,hk⟩ | ⟨pre,hSp,c,hi,hl,hk⟩)⟩
  ·exact⟨none,_,by have:=run_endLoop (P:=P) hl (by rw[jL];simp);rw[jL]at this;exact this,uK _ xs _ nL hS (hI.putObj _ hi oz hl rfl) ((World.putObj_heap_other oz).trans hk)⟩
  ·exact⟨some c,_,by have:=run_endLoop (P:=P) hl (by rw[jL];simp);rw[jL]at this;exact this,aKt _ c pre _ nL hSp ((hIx c).putObj _ hi oz hl rfl) ((World.putObj_heap_other oz).trans hk)⟩
end
section
open Go.ChangeShapes Go.WideShapes Go.ChangeAt Go.RowKit Go.Sort
attribute [local go_sem] Oper.semAt_some
open Go.Act renaming put → zP
open List renaming setIfInBounds_toArray → zA, set_cons_zero → zB, set_cons_succ → zC
structure Gv(mk ob:Nat)(A B:World):Prop where
 size:A.heap.size≤B.heap.size
 blk:∀k t cs,ah A k t cs→t≠53→k≠mk→k≠ob→ah B k t cs
theorem Gv.trans{mk ob:Nat}{A B C:World}(h:Gv mk ob A B)(k:Gv mk ob B C):Gv mk ob A C:=⟨nT h.size k.size,fun j t cs hj h1 h2 h3=>k.blk j t cs (h.blk j t cs hj h1 h2 h3) h1 h2 h3⟩
theorem Gv.put{mk ob:Nat}(W:World)(l:Nat)(o o':Obj)(hl:W.heap[l]?=some o)(ho:o.isCells=false):Gv mk ob W (W.putObj l o'):=
 ⟨qz,fun k t cs hk _ _ _=>by
  have:k≠l:=fun e=>by
   subst e;unfold ah at hk;rw[hl]at hk;cases hk;cases ho
  exact(World.putObj_heap_other this).trans hk⟩
theorem Gv.below{mk ob:Nat}{A B:World}(h:Below A.heap.size A B):Gv mk ob A B:=⟨h.size,fun k t cs hk _ _ _=>hk.below h hk.lt⟩
def Oj(s:aQ)(nb:Nat)(w:World):Nat:=match w.cell? ⟨nb,0,none⟩with | some (.int _ v)=>(s.at v.toNat).toNat | _=>0
theorem YJ{E:List aI}{src n:Nat}{s:aQ}(aGF:aQ.Inv E 12 src s)(qv:Value)(aKu nb sb b mk ob M m:Nat)(hM:1≤M)(hm:0≤s.at m)(aCU:m<12)(hE:∀e∈E,e.f<12∧e.t<12)(cs:Array Value)(w:World)
 (hmk:mk<w.heap.size) (Cc:ob<w.heap.size) (hn:ah w nb 3 #[.int .i64 m]) (hs:ah w sb 98 #[.pointer (some ⟨b,0,none⟩)]) (hb:sB w b aKu qv src n s.d s.p cs) (h1:nb≠mk) (h2:nb≠ob) (h3:sb≠mk) (h4:sb≠ob) (h5:b≠mk) (h6:b≠ob):
 aKs Fence.wide M pG 108 #[.pointer (some ⟨nb,0,none⟩),.pointer (some ⟨sb,0,none⟩)] (fun e:jx=> #[e.1.val]) (Gv mk ob) (fun xs=>xs.map (·.1)=s.chain src m) (fun pre=>pre.map (·.1) <+: s.chain src m) (s.chain src m).length nb w:=by
 intro l J Jx W hW hJg hJc hY h0;have hnW:=hn.below hW hn.lt;have hsW:=hs.below hW hs.lt;have Pq:=hb.move (hb.blk.below hW hb.blk.lt);have aKv:=hW.size;have aGG:nb≠sb:=hn.Fu hs dz;have aPO:nb≠b:=hn.Fu hb.blk dz;refine callsIn_of_wp Tryz.func108 rfl trivial ?_ rfl;simp only[Tryz.ntmps108,List.size_toArray,List.length_cons,List.length_nil,Nat.reduceAdd,Nat.reduceSub,Array.replicate_succ,Array.replicate_zero,List.push_toArray,List.append_toArray,List.nil_append,List.cons_append];gi_wp2;gi_loopw [5] (fun t wr=>∃(k:Nat) (pre:List jx),k<12∧0≤s.at k∧s.chain src m=pre.map (·.1)++s.chain src k∧J pre wr∧ah wr nb 3 #[.int .i64 k]∧ah wr sb 98 #[.pointer (some ⟨b,0,none⟩)]∧sB wr b aKu qv src n s.d s.p cs∧w.heap.size≤wr.heap.size) (fun t wr=>Oj s nb wr)
 case atStart=>exact⟨m,[],aCU,hm,rfl,h0,hnW,hsW,Pq,aKv⟩
 case round=>
  clear h0 hnW hsW Pq aKv;obtain⟨k,pre,aGH,Vt,hch,hJ,hnr,K2,I8,hsz⟩:=hrel;have c1:wr.cell? ⟨nb,0,none⟩=some (.int .i64 k):=hnr.cell 0;have Hm:=lz (show Oj s nb wr=(s.at k).toNat by unfold Oj;rw[c1];rfl);have c2:wr.cell? ⟨sb,0,none⟩=some (.pointer (some ⟨b,0,none⟩)):=K2.cell 0;have c3:wr.cell? ⟨b,2,none⟩=some (.int .i64 src):=I8.k2;have HJ:=lz (ai hJ (ai hnr (ai K2 (ai I8 hch))));have HY:=lz hY;have HJg:=lz hJg;have HJc:=lz hJc;clear hJ hnr K2 I8 hch hY hJg hJc hn hs hb hW;by_cases hks:k=src
  ·have hne:((k:Int) !=(src:Int))=false:=by simp[hks]
   gi_wp2;refine wpIn_wide.2 ?_;go_quiet (fail);gi_wp2;refine bodyPost_end (results_none rfl _ _ _) rfl ?_;have h9:=HJ.out.2.2.2.2;rw[hks,show s.chain src src= []from IW s src _,List.append_nil]at h9;refine⟨⟨_,rfl⟩,.inl ⟨pre,h9.symm,?_⟩⟩;exact HJg.out _ _ _ HJ.out.1 ⟨rfl,rfl,rfl,nL,fun _ _ _=>rfl⟩
  ·have hne:((k:Int) !=(src:Int))=true:=by simp;omega
   gi_wp2;refine wpIn_wide.2 ?_;go_quiet (fail);gi_wp2;obtain⟨V,hV⟩:=ez (wr.drewN nq);rw[←hV];have hat:s.at k≠0:=fun h=>hks ((aGF.zero k).1 h)
   have DE:0<s.at k:=by omega
   obtain⟨p1,p2,p3,p4⟩:=aQ.kR aGF DE;have Mh:=iT aGF DE;obtain⟨e,he⟩:=ez (s.par k);rw[←he]at p1 p2 p3 p4 Mh;have hbV:Below wr.heap.size wr V:=by rw[hV];exact aD (Below.refl _ _)
   have hnV:=HJ.out.2.1.below hbV HJ.out.2.1.lt;have hsV:=HJ.out.2.2.1.below hbV HJ.out.2.2.1.lt;have hrV:=HJ.out.2.2.2.1.move (HJ.out.2.2.2.1.blk.below hbV HJ.out.2.2.2.1.blk.lt);have hJV:J pre V:=HJg.out _ _ _ HJ.out.1 (by rw[hV];exact⟨rfl,rfl,rfl,nL,fun _ _ _=>rfl⟩);have Yy:w.heap.size≤V.heap.size:=nT hsz hbV.size;have q0:V.cell? ⟨b,15+k*3,none⟩=some (.int .i64 e.f):=by rw[he];exact(hrV.blk.cell _).trans (hrV.pc k aGH 0 oz)
   have q1:V.cell? ⟨b,15+k*3+1,none⟩=some (.int .i64 e.t):=by rw[he];exact(hrV.blk.cell _).trans (hrV.pc k aGH 1 oz)
   have q2:V.cell? ⟨b,15+k*3+2,none⟩=some (.int .i64 e.l):=by rw[he];exact(hrV.blk.cell _).trans (hrV.pc k aGH 2 oz)
   have hHeld:(fun W=>W.cell? ⟨sb,0,none⟩=some (.pointer (some ⟨b,0,none⟩))∧W.cell? ⟨nb,0,none⟩=some (.int .i64 k)∧W.cell? ⟨b,15+k*3,none⟩=some (.int .i64 e.f)∧W.cell? ⟨b,15+k*3+1,none⟩=some (.int .i64 e.t)∧W.cell? ⟨b,15+k*3+2,none⟩=some (.int .i64 e.l)) V.drew:=⟨hsV.cell 0,hnV.cell 0,q0,q1,q2⟩;have HV:=lz (ai hJV (ai hnV (ai hsV hrV)));have Hch:Hid (s.chain src m=pre.map (·.1)++e :: s.chain src e.f):=lz (by rw[HJ.out.2.2.2.2,Mh]);have Hp:=lz (ai p1 (ai p2 (ai p3 p4)));have hki:(k:Int)<12:=by omega
   have aGI:b<V.heap.size:=hrV.blk.lt;clear hV hbV hnV hsV hrV hJV q0 q1 q2 p1 p2 p3 p4 Mh he c1 c2 c3 HJ;refine wpIn_wide.2 ?_;refine aT (fun W=>W.cell? ⟨sb,0,none⟩=some (.pointer (some ⟨b,0,none⟩))∧W.cell? ⟨nb,0,none⟩=some (.int .i64 k)∧W.cell? ⟨b,15+k*3,none⟩=some (.int .i64 e.f)∧W.cell? ⟨b,15+k*3+1,none⟩=some (.int .i64 e.t)∧W.cell? ⟨b,15+k*3+2,none⟩=some (.int .i64 e.l)) 7 kz hHeld (fun hHeld=> ?_);refine TS 0 rfl hHeld ?_;simp only[zP,zA,zB,zC];refine TS 1 rfl hHeld ?_;simp only[zP,zA,zB,zC];refine TS 2 rfl hHeld ?_;simp only[zP,zA,zB,zC];refine TS 3 rfl hHeld ?_;simp only[zP,zA,zB,zC];refine TS 4 rfl hHeld ?_;simp only[zP,zA,zB,zC];refine TS 5 rfl hHeld ?_;simp only[zP,zA,zB,zC];refine RQ 6 rfl fun K hK=> ?_
   go_simp;have yU:Below V.heap.size V (V.alloc (.cells #[.int .i64 0,.int .i64 0,.int .i64 0] 107)).drew:=(bN).drew;have hr6:=HV.out.2.2.2.move (HV.out.2.2.2.blk.below yU HV.out.2.2.2.blk.lt);refine hK.out _ _ (fun _=>⟨(HV.out.2.2.1.below yU HV.out.2.2.1.lt).cell 0,(HV.out.2.1.below yU HV.out.2.1.lt).cell 0,(yU.cell (p:=⟨b,15+k*3,none⟩) aGI).trans hHeld.2.2.1,(yU.cell (p:=⟨b,15+k*3+1,none⟩) aGI).trans hHeld.2.2.2.1,(yU.cell (p:=⟨b,15+k*3+2,none⟩) aGI).trans hHeld.2.2.2.2⟩) ?_;clear hK hHeld yU hr6;refine RQ 7 rfl fun K hK=> ?_
   go_simp;refine hK.out _ _ (fun h=>absurd h dz) ?_;clear hK;refine aL kz ?_ _;have QV:ah (V.alloc (.cells #[.int .i64 e.f,.int .i64 e.t,.int .i64 e.l] 107)).drew V.heap.size 107 #[.int .i64 e.f,.int .i64 e.t,.int .i64 e.l]:=(ah.new V _ _).drew;have aCW:Below V.heap.size V (V.alloc (.cells #[.int .i64 e.f,.int .i64 e.t,.int .i64 e.l] 107)).drew:=(bN).drew;have aEB:=aCW;obtain⟨W1,hW1⟩:=ez ((V.alloc (.cells #[.int .i64 e.f,.int .i64 e.t,.int .i64 e.l] 107)).drew);obtain⟨eb,Uo⟩:=ez V.heap.size;rw[←hW1]at QV aCW ⊢;rw[←Uo]at QV ⊢;have z0:W1.cell? ⟨eb,0,none⟩=some (.int .i64 e.f):=QV.cell 0;have z1:W1.cell? ⟨eb,1,none⟩=some (.int .i64 e.t):=QV.cell 1;have z2:W1.cell? ⟨eb,2,none⟩=some (.int .i64 e.l):=QV.cell 2;have HW:=lz (ai QV aCW);have HJ1:=lz (show J pre W1 from HJg.out _ _ _ HV.out.1 (by rw[hW1];exact⟨rfl,rfl,rfl,qz,fun i hi _=>aEB.block i hi⟩));have aPU:=lz (show pre.length<(s.chain src m).length by rw[Hch.out,List.length_append,List.length_map,List.length_cons];omega);have Heb:=lz (show w.heap.size≤eb by rw[Uo];exact Yy);clear QV aCW aEB hW1 Uo;have aKy:e.t<12:=(hE e Hp.out.1).2;obtain⟨fn,tmps,assign,body,hy,hR⟩:=HY.out pre ⟨e,aKy⟩ W1 HJ1.out aPU.out;dsimp only at hy;gi_wp2;refine hR.mono ?_;rintro e' W3 (⟨rfl,WK,zn⟩ | ⟨rfl,Gf⟩)
   ·have hn3:=zn.blk _ _ _ (HV.out.2.1.below HW.out.2 HV.out.2.1.lt) dz h1 h2
    have QM:=zn.blk _ _ _ (HV.out.2.2.1.below HW.out.2 HV.out.2.2.1.lt) dz h3 h4;have kq:=zn.blk _ _ _ (HV.out.2.2.2.blk.below HW.out.2 HV.out.2.2.2.blk.lt) dz h5 h6;have aPV:eb≠mk:=by have:=Heb.out;omega
    have aPW:eb≠ob:=by have:=Heb.out;omega
    have he3:=zn.blk _ _ _ HW.out.1 dz aPV aPW;have aXG:eb≠nb:=he3.Fu hn3 dz;have aPY:w.heap.size≤W3.heap.size:=nT Yy (nT HW.out.2.size zn.size);have e0:W3.cell? ⟨eb,0,none⟩=some (.int .i64 e.f):=he3.cell 0;have n0:W3.cell? ⟨nb,0,none⟩=some (.int .i64 k):=hn3.cell 0;have f0:W3.frozen? ⟨nb,0,none⟩=false:=hn3.frozen 0;have HF:=lz (ai WK (ai hn3 (ai QM kq)));clear WK hn3 QM kq he3 zn hy hR;gi_wp2;go_roundw
    case rel=>
     obtain⟨p1,p2,p3,p4⟩:=Hp.out;refine⟨e.f,pre++ [⟨e,aKy⟩],(hE e p1).1,p3,by rw[Hch.out,List.map_append,List.append_assoc];rfl,HJc.out _ _ _ HF.out.1,by simpa using HF.out.2.1.bX 0 (.int .i64 e.f),HF.out.2.2.1.far aGG.symm _,HV.out.2.2.2.move (HF.out.2.2.2.far aPO.symm _),?_⟩;simpa using aPY
    case measure=>
     obtain⟨p1,p2,p3,p4⟩:=Hp.out;have hc:(W3.setCell ⟨nb,0,none⟩ (.int .i64 e.f)).cell? ⟨nb,0,none⟩=some (.int .i64 e.f):=(HF.out.2.1.bX 0 (.int .i64 e.f)).cell 0;have Vq:Oj s nb (W3.setCell ⟨nb,0,none⟩ (.int .i64 e.f))=(s.at e.f).toNat:=by unfold Oj;rw[hc];rfl
     rw[Vq,Hm.out];omega
   ·gi_wp2
    refine bodyPost_ret (results_none rfl _ _ _) rfl ?_;exact⟨⟨_,rfl⟩,.inr ⟨_,by rw[Hch.out];exact⟨s.chain src e.f,qz⟩,Gf⟩⟩
theorem aGJ(b:Nat)(m:Int)(w:World):Calls pG 38 #[.pointer (some ⟨b,0,none⟩),.int .i64 m] w fun e w'=>
 e= .returned (.func (.func 108) #[] #[.pointer (some ⟨w.heap.size+1,0,none⟩),.pointer (some ⟨w.heap.size,0,none⟩)])∧Below w.heap.size w w'∧ah w' w.heap.size 98 #[.pointer (some ⟨b,0,none⟩)]∧ah w' (w.heap.size+1) 3 #[.int .i64 m]:=by
 go_enter Tryz.func38,Tryz.ntmps38;go_wp2;go_ret;refine⟨rfl,(bN).alloc qz _,(ah.new w _ _).alloc _,?_⟩;have:=ah.new (w.alloc (.cells #[.pointer (some ⟨b,0,none⟩)] 98)) 3 #[.int .i64 m]
 rwa[World.size_alloc]at this
structure jV(cnt:List Int)(T:List Nat)(B:Nat):Prop where
 len:cnt.length=12
 met:∀t,t<12→(0<cnt.getD t 0↔t∈T)
 lo:∀t,0≤cnt.getD t 0
 hi:∀t,cnt.getD t 0≤B
theorem jV.start:jV (List.replicate 12 0) [] 0:=by
 have h:∀t,(List.replicate 12 (0:Int)).getD t 0=0:=fun t=>by
  rw[List.getD_eq_getElem?_getD,List.getElem?_replicate];split<;>rfl
 exact⟨rfl,fun t _=>by rw[h];simp,fun t=>by rw[h];exact Int.le_refl _,fun t=>by rw[h];exact Int.le_refl _⟩
theorem jV.mark{cnt:List Int}{T:List Nat}{B:Nat}(h:jV cnt T B){t:Nat}(ht:t<12):jV (cnt.set t (cnt.getD t 0+1)) (t :: T) (B+1):=by
 have hg:∀j,(cnt.set t (cnt.getD t 0+1)).getD j 0=if j=t then cnt.getD t 0+1 else cnt.getD j 0:=fun j=>gQ _ _ _ _ _ (by rw[h.len];exact ht)
 have h1:=h.lo t;have h2:=h.hi t;refine⟨by simpa using h.len,fun j hj=> ?_,fun j=> ?_,fun j=> ?_⟩
 ·rw[hg]
  by_cases e:j=t
  ·rw[if_pos e]
   exact⟨fun _=>by simp[e],fun _=>by omega⟩
  ·rw[if_neg e,h.met j hj];simp[e]
 ·rw[hg];split
  ·omega
  ·exact h.lo j
 ·rw[hg];split
  ·omega
  ·have:=h.hi j;omega
theorem jV.same{cnt:List Int}{T T':List Nat}{B:Nat}(h:jV cnt T B)(hT:∀t,t∈T↔t∈T'):jV cnt T' B:=⟨h.len,fun t ht=>(h.met t ht).trans (hT t),h.lo,h.hi⟩
structure Ad(w0 W:World)(base gc sb b mk ob mb:Nat)(qv:Value)(bs:Array Value)(src n:Nat)(s:aQ)(x:ay)(v:Value)(L:List aI)(cnt:List Int)(Ds:List Nat):Prop where
 box:sB W b mb qv src n s.d s.p bs
 sbk:ah W sb 98 #[.pointer (some ⟨b,0,none⟩)]
 Mq:ah W mk 105 (cnt.map (Value.int .i64)).toArray
 VE:ah W ob 49 #[v]
 row:W.ownsRow base 53 3 v L.length (L.flatMap aI.cells)
 cfg:ah W gc 31 x.arr
 lE:Below base w0 W
 sz:base≤W.heap.size
 hmk:base≤mk
 Cc:base≤ob
 nod:Ds.Nodup
 YK:∀D∈Ds,base≤D∧W.heap[D]?=some (.deferred (some []))
theorem j8{X:Nat→Prop}{base:Nat}{w0 W W':World}(h:Below base w0 W)(hs:base≤W.heap.size)(hG:Gr X W W')(hX:∀k,X k→base≤k):Below base w0 W':=
 ⟨hG.os.trans h.os,hG.tape.trans h.tape,hG.output.trans h.output,nT h.size hG.size,fun k hk=>(hG.block k oz (fun e=>by have:=hX k e;omega)).trans (h.block k hk)⟩
section
variable {w0 W W':World} {base gc sb b mk ob mb src n:Nat} {qv:Value} {bs:Array Value} {s:aQ} {x:ay} {v:Value} {L:List aI} {cnt:List Int} {Ds:List Nat}
theorem ah.ud{W:World}{k k':Nat}{t:TypeId}{cs:Array Value}{o:Obj}(h:ah W k t cs)(h':W.heap[k']?=some o)(ho:o.isCells=false):k≠k':=fun e=>by
 subst e;unfold ah at h;rw[h]at h';cases h';cases ho
theorem Ad.gr{X:Nat→Prop}(h:Ad w0 W base gc sb b mk ob mb qv bs src n s x v L cnt Ds)(hg:Gr X W W')(hX:∀k,X k→base≤k∧((∃cs,ah W k 3 cs)∨(∃o,W.heap[k]?=some o∧o.isCells=false∧k∉Ds))):Ad w0 W' base gc sb b mk ob mb qv bs src n s x v L cnt Ds:=by
 have hn:∀{k t cs},ah W k t cs→t≠3→¬X k:=fun{k t cs} hb ht hx=>by
  obtain⟨-,⟨cs',h'⟩ | ⟨o,ho,hc,-⟩⟩:=hX k hx
  ·exact hb.Fu h' ht rfl
  ·exact hb.ud ho hc rfl
 refine⟨h.box.move (hg.blk h.box.blk (hn h.box.blk dz)),hg.blk h.sbk (hn h.sbk dz),hg.blk h.Mq (hn h.Mq dz),hg.blk h.VE (hn h.VE dz),cO h.row hg (fun k hk hx=> ?_),hg.blk h.cfg (hn h.cfg dz),j8 h.lE h.sz hg (fun k hx=>(hX k hx).1),nT h.sz hg.size,h.hmk,h.Cc,h.nod,fun D hD=>⟨(h.YK D hD).1,?_⟩⟩
 ·obtain⟨-,⟨cs',h'⟩ | ⟨o,ho,hc,-⟩⟩:=hX k hx
  ·exact aW h.row h' dz hk
  ·exact iQ h.row ho hc hk
 ·have hd:=(h.YK D hD).2
  refine(hg.block D (gE hd).1 (fun hx=> ?_)).trans hd;obtain⟨-,⟨cs',h'⟩ | ⟨o,ho,hc,hnd⟩⟩:=hX D hx
  ·exact h'.ud hd rfl rfl
  ·exact hnd hD
theorem Ad.below(h:Ad w0 W base gc sb b mk ob mb qv bs src n s x v L cnt Ds)(hb:Below W.heap.size W W'):Ad w0 W' base gc sb b mk ob mb qv bs src n s x v L cnt Ds:=
 h.gr (X:=fun _=>False) (Gr.ak hb) (fun k hk=>hk.elim)
theorem Ad.YL{nb:Nat}(h:Ad w0 W base gc sb b mk ob mb qv bs src n s x v L cnt Ds)(hn:∃u,ah W nb 3 #[u])(hb:base≤nb)(u:Value):Ad w0 (W.setCell ⟨nb,0,none⟩ u) base gc sb b mk ob mb qv bs src n s x v L cnt Ds:=by
 obtain⟨u0,hn⟩:=hn;exact h.gr (X:=(· =nb)) (Gr.setCell _ _ _ rfl) (fun k e=>by subst e;exact⟨hb,.inl ⟨_,hn⟩⟩)
theorem Ad.oth{B:Nat}{row:Option Nat}(h:Ad w0 W base gc sb b mk ob mb qv bs src n s x v L cnt Ds)(hB:base≤B)(hD:∀D∈Ds,D<B)(hg:W.grownBy W' row)(hr:∀r,row=some r→B≤r∧∃o:Obj,W.heap[r]?=some o∧o.isCells=false):Ad w0 W' base gc sb b mk ob mb qv bs src n s x v L cnt Ds:=
 h.gr (X:=fun k=>row=some k) (Gr.eO hg (fun k e=>e)) (fun k e=>by
  obtain⟨h1,o,h2,h3⟩:=hr k e;exact⟨oz,.inr ⟨o,h2,h3,fun hd=>by have:=hD k hd;omega⟩⟩)
theorem Ad.mark(h:Ad w0 W base gc sb b mk ob mb qv bs src n s x v L cnt Ds)(t:Nat)(c:Int):Ad w0 (W.setCell ⟨mk,t,none⟩ (.int .i64 c)) base gc sb b mk ob mb qv bs src n s x v L (cnt.set t c) Ds:=by
 have hg:Gr (· =mk) W (W.setCell ⟨mk,t,none⟩ (.int .i64 c)):=Gr.setCell _ _ _ rfl;refine⟨h.box.move (hg.blk h.box.blk (h.box.blk.Fu h.Mq dz)),hg.blk h.sbk (h.sbk.Fu h.Mq dz),?_,hg.blk h.VE (h.VE.Fu h.Mq dz),cO h.row hg (fun k hk e=>aW h.row h.Mq dz (e▸hk)),hg.blk h.cfg (h.cfg.Fu h.Mq dz),j8 h.lE h.sz hg (fun k e=>by rw[e];exact h.hmk),nT h.sz hg.size,h.hmk,h.Cc,h.nod,fun D hD=>⟨(h.YK D hD).1,?_⟩⟩
 ·have:=h.Mq.bX t (.int .i64 c)
  simpa [List.map_set]using this
 ·have hd:=(h.YK D hD).2
  exact(hg.block D (gE hd).1 (fun e=>h.Mq.ud hd rfl e.symm)).trans hd
theorem Ad.kmk(h:Ad w0 W base gc sb b mk ob mb qv bs src n s x v L cnt Ds)(hc:cnt.length=12)(t:Nat)(ht:t<12):W.cell? ⟨mk,t,none⟩=some (.int .i64 (cnt.getD t 0))∧W.frozen? ⟨mk,t,none⟩=false:=by
 refine⟨(h.Mq.cell t).trans ?_,h.Mq.frozen t⟩;rw[List.getD_eq_getElem?_getD];simp[hc,ht]
theorem Gv.set(W:World)(c i:Nat)(u:Value)(hc:c=mk∨c=ob):Gv mk ob W (W.setCell ⟨c,i,none⟩ u):=
 ⟨by simp[World.setCell],fun k t cs hk _ h2 h3=>hk.far (p:=⟨c,i,none⟩) (fun e=>by
  have e:k=c:=e;rcases hc with hc | hc
  ·exact h2 (e.trans hc)
  ·exact h3 (e.trans hc)) u⟩
theorem Gv.grow{base' sz k:Nat}{v:Value}{xs:List Value}(h:W.ownsRow base' 53 sz v k xs)(hG:W.grownBy W' v.ownBlock):Gv mk ob W W':=
 ⟨hG.size,fun j t cs hj h1 _ _=>hj.grown hG (fun e=>aW h hj (Ne.symm h1) e.symm)⟩
theorem Ad.hop{W1:World}{e:aI}{v':Value}{o:Obj}(h:Ad w0 W base gc sb b mk ob mb qv bs src n s x v L cnt Ds)(hown:W1.ownsRow base 53 3 v' (L.length+1) (L.flatMap aI.cells++e.cells))(hG:(W.alloc o).grownBy W1 v.ownBlock):
 Ad w0 (W1.setCell ⟨ob,0,none⟩ v') base gc sb b mk ob mb qv bs src n s x v' (L++ [e]) cnt Ds∧KeepsOthers W (W1.setCell ⟨ob,0,none⟩ v')∧Gv mk ob W (W1.setCell ⟨ob,0,none⟩ v')∧ah W1 ob 49 #[v]:=by
 have h0:=h.below (W':=W.alloc o) (bN);have hg:Gr (fun k=>v.ownBlock=some k) (W.alloc o) W1:=Gr.eO hG (fun k e=>e);have K7:ah W1 ob 49 #[v]:=hg.blk h0.VE (aW h0.row h0.VE dz);have aK0:=hg.blk h0.sbk (aW h0.row h0.sbk dz);have aK1:=hg.blk h0.Mq (aW h0.row h0.Mq dz);have aK2:=hg.blk h0.cfg (aW h0.row h0.cfg dz);have aGL:=h0.box.move (hg.blk h0.box.blk (aW h0.row h0.box.blk dz));have eG:Gr (· =ob) W1 (W1.setCell ⟨ob,0,none⟩ v'):=Gr.setCell _ _ _ rfl;have Xz:Below base w0 W1:=j8 h0.lE h0.sz hg (fun k e=>(h0.row.lt k e).1);have KD:base≤W1.heap.size:=nT h0.sz hg.size;refine⟨⟨aGL.move (eG.blk aGL.blk (aGL.blk.Fu K7 dz)),eG.blk aK0 (aK0.Fu K7 dz),eG.blk aK1 (aK1.Fu K7 dz),by simpa using K7.bX 0 v',cO (by simpa using hown) eG (fun k hk e=>aW hown K7 dz (e▸hk)),eG.blk aK2 (aK2.Fu K7 dz),j8 Xz KD eG (fun k e=>by rw[e];exact h.Cc),nT KD eG.size,h.hmk,h.Cc,h.nod,fun D hD=>⟨(h.YK D hD).1,?_⟩⟩,(KeepsOthers.alloc _ _).trans ((Dz h0.row hG).trans (nW K7 _)),(Gv.below (bN)).trans ((Gv.grow h0.row hG).trans (Gv.set _ _ _ _ (.inr rfl))),K7⟩;have hd:=(h0.YK D hD).2;have TD:=(hg.block D (gE hd).1 (iQ h0.row hd rfl)).trans hd;exact(eG.block D (gE TD).1 (fun e=>K7.ud TD rfl e.symm)).trans TD
theorem Ad.aEC{D:Nat}(h:Ad w0 W base gc sb b mk ob mb qv bs src n s x v L cnt Ds)(hD:base≤D)(hN:∀E∈Ds,E<D)(hK:W.heap[D]?=some (.deferred (some []))):Ad w0 W base gc sb b mk ob mb qv bs src n s x v L cnt (D :: Ds):=
 {h with
  nod:=List.nodup_cons.2 ⟨fun hd=>by have:=hN D hd;omega,h.nod⟩
  YK:=fun E hE=>by
   rcases List.mem_cons.1 hE with rfl | hE
   ·exact⟨hD,hK⟩
   ·exact h.YK E hE}
end
theorem vU:∀(pre:List aI) (met:List Nat) (e:aI) (rest:List aI),dM met pre=pre→dM met (pre++e :: rest)=if e.t∈met∨e.t∈pre.map (·.t)then pre else pre++e :: dM (e.t :: ((pre.map (·.t)).reverse++met)) rest
 | [],met,e,rest,_=>by
  by_cases h:e.t∈met
  ·simp[dM,h]
  ·simp[dM,h]
 | a :: pre,met,e,rest,hp=>by
  unfold dM at hp;by_cases ha:a.t∈met
  ·rw[if_pos ha]at hp;cases hp
  ·rw[if_neg ha]at hp
   have zO:dM (a.t :: met) pre=pre:=by injection hp
   have ih:=vU pre (a.t :: met) e rest zO;rw[List.cons_append,dM,if_neg ha,ih];by_cases h:e.t∈met∨e.t∈(a :: pre).map (·.t)
   ·have h':e.t∈a.t :: met∨e.t∈pre.map (·.t):=by
     simp only[List.map_cons,List.mem_cons]at h ⊢;rcases h with h | h | h
     ·exact .inl (.inr h)
     ·exact .inl (.inl h)
     ·exact .inr h
    rw[if_pos h',if_pos h]
   ·have h':¬(e.t∈a.t :: met∨e.t∈pre.map (·.t)):=fun q=>h (by
     simp only[List.map_cons,List.mem_cons]at q ⊢;rcases q with(q | q) | q
     ·exact .inr (.inl q)
     ·exact .inl q
     ·exact .inr (.inr q))
    rw[if_neg h',if_neg h];simp
theorem Gw{pre ch:List aI}{met:List Nat}{e:aI}(hp:dM met pre=pre)(hc:pre++ [e] <+: ch)(he:e.t∈met∨e.t∈pre.map (·.t)):dM met ch=pre:=by
 obtain⟨r,rfl⟩:=hc;rw[List.append_assoc,List.singleton_append,vU pre met e r hp,if_pos he]
theorem K8{pre:List aI}{met:List Nat}{e:aI}(hp:dM met pre=pre)(he:¬(e.t∈met∨e.t∈pre.map (·.t))):dM met (pre++ [e])=pre++ [e]:=by
 rw[vU pre met e [] hp,if_neg he];rfl
theorem EA(s:aQ)(src:Nat):∀(ms:List Nat) (m:Nat) (out:List aI),jj s src (ms++ [m]) out=jj s src ms out++dM ((jj s src ms out).map (·.t)) (s.chain src m)
 | [],m,out=>rfl
 | k :: ms,m,out=>EA s src ms m _
theorem SX:(pG.info? 53).map (fun i=>(i.zero,i.size,i.bytes))=some (some (.agg #[.int .i64 0,.int .i64 0,.int .i64 0]),3,24):=by kernel_rfl
structure FRt(gc sb mk ob:Nat)(dv:Value)(nd i:Nat)(Ds:List Nat)(a:Act):Prop where
 size:a.tmps.size=77
 s3:a.tmps.getD 3 undef= .pointer (some ⟨gc,0,none⟩)
 s8:a.tmps.getD 8 undef= .pointer (some ⟨sb,0,none⟩)
 s10:a.tmps.getD 10 undef= .pointer (some ⟨mk,0,none⟩)
 s11:a.tmps.getD 11 undef= .pointer (some ⟨ob,0,none⟩)
 s30:a.tmps.getD 30 undef=dv
 s31:a.tmps.getD 31 undef= .int .i64 nd
 s32:a.tmps.getD 32 undef= .int .i64 i
 defers:a.defers=Ds.map sM
theorem FRt.lit{gc sb mk ob:Nat}{dv:Value}{nd i:Nat}{Ds:List Nat}{a:Act}(h:FRt gc sb mk ob dv nd i Ds a):∃z:Nat→Value,a={tmps:=List.toArray [z 0,z 1,z 2,.pointer (some ⟨gc,0,none⟩),z 4,z 5,z 6,z 7,.pointer (some ⟨sb,0,none⟩),z 9,.pointer (some ⟨mk,0,none⟩),.pointer (some ⟨ob,0,none⟩),z 12,z 13,z 14,z 15,z 16,z 17,z 18,z 19,z 20,z 21,z 22,z 23,z 24,z 25,z 26,z 27,z 28,z 29,dv,.int .i64 nd,.int .i64 i,z 33,z 34,z 35,z 36,z 37,z 38,z 39,z 40,z 41,z 42,z 43,z 44,z 45,z 46,z 47,z 48,z 49,z 50,z 51,z 52,z 53,z 54,z 55,z 56,z 57,z 58,z 59,z 60,z 61,z 62,z 63,z 64,z 65,z 66,z 67,z 68,z 69,z 70,z 71,z 72,z 73,z 74,z 75,z 76],defers:=Ds.map sM}:=by
 obtain⟨T,d⟩:=a;obtain⟨h0,h1,h2,h3,h4,h5,h6,h7,h8⟩:=h;simp only at h0 h1 h2 h3 h4 h5 h6 h7 h8;obtain⟨z,hz,hg⟩:=qy 77 T h0;refine⟨z,?_⟩;rw[←hg]at h1 h2 h3 h4 h5 h6 h7;rw[h8,hz];simp only[←h1,←h2,←h3,←h4,←h6,←h7];rw[←h5];rfl
structure FBt(mk ob Bx:Nat)(a:Act):Prop where
 size:a.tmps.size=77
 s10:a.tmps.getD 10 undef= .pointer (some ⟨mk,0,none⟩)
 s11:a.tmps.getD 11 undef= .pointer (some ⟨ob,0,none⟩)
 s15:a.tmps.getD 15 undef= .pointer (some ⟨Bx,0,none⟩)
 defers:a.defers= []
theorem FBt.lit{mk ob Bx:Nat}{a:Act}(h:FBt mk ob Bx a):∃z:Nat→Value,a={tmps:=List.toArray [z 0,z 1,z 2,z 3,z 4,z 5,z 6,z 7,z 8,z 9,.pointer (some ⟨mk,0,none⟩),.pointer (some ⟨ob,0,none⟩),z 12,z 13,z 14,.pointer (some ⟨Bx,0,none⟩),z 16,z 17,z 18,z 19,z 20,z 21,z 22,z 23,z 24,z 25,z 26,z 27,z 28,z 29,z 30,z 31,z 32,z 33,z 34,z 35,z 36,z 37,z 38,z 39,z 40,z 41,z 42,z 43,z 44,z 45,z 46,z 47,z 48,z 49,z 50,z 51,z 52,z 53,z 54,z 55,z 56,z 57,z 58,z 59,z 60,z 61,z 62,z 63,z 64,z 65,z 66,z 67,z 68,z 69,z 70,z 71,z 72,z 73,z 74,z 75,z 76],defers:= []}:=by
 obtain⟨T,d⟩:=a;obtain⟨h0,h1,h2,h3,h8⟩:=h;simp only at h0 h1 h2 h3 h8;obtain⟨z,hz,hg⟩:=qy 77 T h0;refine⟨z,?_⟩;rw[←hg]at h1 h2 h3;rw[h8,hz];simp only[←h1,←h2,←h3];rfl
theorem jV.le{cnt:List Int}{T:List Nat}{B C:Nat}(h:jV cnt T B)(hB:B≤C):jV cnt T C:=⟨h.len,h.met,h.lo,fun t=>by have:=h.hi t;omega⟩
theorem Jw(p:List aI)(src:Nat):∀k n,(uQ p src k n).length≤k
 | 0,_=>Nat.le_refl _
 | k+1,n=>by
  unfold uQ;split
  ·simp
  ·have:=Jw p src k (p.getD n aI.zero).f
   rw[List.length_cons];omega
theorem Jy{E:List aI}{src:Nat}{s:aQ}(h:aQ.Inv E 12 src s)(m:Nat):(s.chain src m).length≤12:=by
 have h1:=Jw s.p src (s.at m).toNat m;have h2:=aQ.tX h oz m;have h3:(s.chain src m).length≤(s.at m).toNat:=h1;omega
section
variable (y0:World) (base gc sb b mk ob mb:Nat) (qv:Value) (bs:Array Value) (src n:Nat) (s:aQ) (x:ay) (L:List aI) (Ds:List Nat) (B0 nb:Nat)
def RoI(pre:List jx)(W:World):Prop:=∃v cnt,Ad y0 W base gc sb b mk ob mb qv bs src n s x v (L++pre.map (·.1)) cnt Ds∧jV cnt ((L++pre.map (·.1)).map (·.t)) (B0+pre.length)∧dM (L.map (·.t)) (pre.map (·.1))=pre.map (·.1)∧∃u,ah W nb 3 #[u]
def RoX(c:Code)(pre:List jx)(W:World):Prop:=c= .exit 2∧∃v cnt,∃(yG:List jx) (e:jx),pre=yG++ [e]∧dM (L.map (·.t)) (yG.map (·.1))=yG.map (·.1)∧(e.1.t∈L.map (·.t)∨e.1.t∈(yG.map (·.1)).map (·.t))∧Ad y0 W base gc sb b mk ob mb qv bs src n s x v (L++yG.map (·.1)) cnt Ds∧jV cnt ((L++yG.map (·.1)).map (·.t)) (B0+pre.length)
end
section
variable {y0:World} {base gc sb b mk ob mb:Nat} {qv:Value} {bs:Array Value} {src n:Nat} {s:aQ} {x:ay} {L:List aI} {Ds:List Nat} {B0 nb:Nat}
theorem aGM{W:World}{nb r B:Nat}{u:Value}(hn:ah W nb 3 #[u])(h:B≤r∧∃o:Obj,W.heap[r]?=some o∧o.isCells=false):nb≠r:=by
 obtain⟨-,o,h2,h3⟩:=h;exact hn.ud h2 h3
theorem RoI.own{B:Nat}(hB:base≤B)(hD:∀D∈Ds,D<B):OwnFrom B (RoI y0 base gc sb b mk ob mb qv bs src n s x L Ds B0 nb):=fun pre W W' row h hg hr=>by
 obtain⟨v,cnt,h1,h2,h3,u,h4⟩:=h;exact⟨v,cnt,h1.oth hB hD hg hr,h2,h3,u,h4.grown hg (fun e=>aGM h4 (hr nb e.symm) rfl)⟩
theorem RoI.YL(hb:base≤nb)(pre:List jx)(A:World)(u:Value)(h:RoI y0 base gc sb b mk ob mb qv bs src n s x L Ds B0 nb pre A):RoI y0 base gc sb b mk ob mb qv bs src n s x L Ds B0 nb pre (A.setCell ⟨nb,0,none⟩ u):=by
 obtain⟨v,cnt,h1,h2,h3,u',h4⟩:=h;exact⟨v,cnt,h1.YL ⟨u',h4⟩ hb u,h2,h3,u,by simpa using h4.bX 0 u⟩
theorem RoX.own{B:Nat}(hB:base≤B)(hD:∀D∈Ds,D<B)(c:Code):OwnFrom B (RoX y0 base gc sb b mk ob mb qv bs src n s x L Ds B0 c):=fun pre W W' row h hg hr=>by
 obtain⟨hc,v,cnt,yG,e,h0,h1,h2,h3,h4⟩:=h;exact⟨hc,v,cnt,yG,e,h0,h1,h2,h3.oth hB hD hg hr,h4⟩
theorem YM{B Bx:Nat}{cs:Array Value}:OwnFrom B (fun(_:Unit) W=>ah W Bx 107 cs):=fun _ W W' row h hg hr=>h.grown hg (fun e=>by
 obtain⟨-,o,h2,h3⟩:=hr Bx e.symm;exact h.ud h2 h3 rfl)
end
theorem U1{W W':World}{B b e s n:Nat}{v:Value}{xs:List Value}(h:W.ownsRow b e s v n xs)(hs:Shut B W W'):W'.ownsRow b e s v n xs:=by
 refine⟨h.1,?_⟩;rcases h.2 with h2 | ⟨g,cap,cur,h1,h2,h3,h4⟩
 ·exact .inl h2
 ·exact .inr ⟨g,cap,cur,h1,h2,hs.cells _ _ h3 rfl,h4⟩
theorem Gx{s:aQ}{l:List jx}(h:l.Pairwise fun x y=>Go.Proofs.ltOf (Ey s.d) y x=false)(nd:((l.map (·.1)).map (·.t)).Nodup):(l.map (·.1)).Pairwise (aI.before s):=by
 rw[List.pairwise_map];have nd':l.Pairwise fun x y=>x.1.t≠y.1.t:=by
  rw[List.map_map]at nd;exact List.pairwise_map.1 nd
 refine(h.and nd').imp ?_;rintro a c ⟨h1,h2⟩;have h3:¬(Go.Proofs.ltOf (Ey s.d) c a=true):=by rw[h1];simp
 rw[QT]at h3;unfold aI.before aQ.at;omega
theorem aGN{L:List aI}(h:∀e∈L,e.t<12):∃l:List jx,l.map (·.1)=L:=⟨L.attach.map fun e=>(⟨e.1,h e.1 e.2⟩:jx),qz⟩
def RtL(y0:World)(base gc sb b mk ob mb:Nat)(qv:Value)(bs:Array Value)(src n:Nat)(s:aQ)(x:ay)(y:fU)(a:Act)(wr:World):Prop:=
 ∃(i:Nat) (Ds:List Nat) (v:Value) (cnt:List Int) (L:List aI),i≤y.dst.l.length∧FRt gc sb mk ob (.slice y.dst.a y.dst.l.length y.dst.c) y.dst.l.length i Ds a∧L=jj s src ((bV x y).take i) []∧Ad y0 wr base gc sb b mk ob mb qv bs src n s x v L cnt Ds∧jV cnt (L.map (·.t)) (13*i)∧(∀m∈(bV x y).take i,0≤s.at m)∧L.length≤13*i
end
end Go.Proofs.YtmdgooofdmpcjaaGreatDoor
