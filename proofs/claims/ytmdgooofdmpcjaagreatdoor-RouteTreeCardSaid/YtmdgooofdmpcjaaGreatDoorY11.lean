import Derived.Test.YtmdgooofdmpcjaaGreatDoorY10
import Derived.Test.YtmdgooofdmpcjaaGreatDoorY7
import Derived.Test.YtmdgooofdmpcjaaGreatDoorY0
set_option maxRecDepth 100000
set_option maxHeartbeats 8000000
set_option linter.unusedSimpArgs false
set_option linter.unusedVariables false
set_option linter.unusedSectionVars false
open Go.Proofs.Tryz renaming prog → pG
namespace Go.Proofs.YtmdgooofdmpcjaaGreatDoor
section
open Go.ChangeShapes Go.WideShapes Go.ChangeAt Go.RowKit
attribute [local go_sem] Oper.semAt_some
theorem kN{X:Nat→Prop}{w w':World}{B:Nat}(h:Gr X w w')(hB:B≤w.heap.size)(hX:∀k,X k→B≤k):∀b o,b<B→w'.cell? ⟨b,o,none⟩=w.cell? ⟨b,o,none⟩:=fun b o hb=>
 World.cell?_of_block (h.block b (Nat.lt_of_lt_of_le hb hB) fun hx=>absurd (hX b hx) oz)
def jh{α:Type}(vl:α→Value)(X:Nat→Prop)(g:Nat)(lb:Array Value)(q:Nat→Bool)(l:List α)(R:α→World→Prop)(J:Nat→World→Prop):Prop:=
 ∀k (hk:k<l.length) W,J k W→R l[k] W→Calls pG g (#[vl l[k]]++lb) W fun e w'=>e= .returned (.bool (q k))∧J (k+1) w'∧Gr X W w'
theorem nX{q:Nat→Bool}{n k:Nat}(hk:k<n)(hq:q k=true)(h:∀j,j<n→j<k→q j=false):cV q (List.range n)=k:=
 nR (by simpa using hk) (by simpa using hq) (fun j hj hjk=>by simpa using h j (by simpa using hj) hjk)
theorem lG{q:Nat→Bool}{n:Nat}(h:∀j,j<n→q j=false):cV q (List.range n)= -1:=
 nM fun j hj=>by simpa using h j (by simpa using hj)
theorem ru{q:Nat→Bool}{n k:Nat}(h:∀j,j<n→j<k→q j=false)(hq:q k=false):∀j,j<n→j<k+1→q j=false:=fun j hj hk=>by
 by_cases e:j=k
 ·subst e;exact hq
 ·exact h j hj oz
theorem MZ(g:Nat)(lb:Array Value)(q:Nat→Bool)(J:Nat→World→Prop)(X:Nat→Prop)(B:Nat)(eg:∀args w,(callFunc g args).run pG w= .ok (.enter g args) w)(l:List aC)(A:Option Addr)(c:Nat)(w:World)
 (hp:jh aC.val X g lb q l (fun x W=>x.rd W B) J) (h0:J 0 w) (h:fW w B A l) (bW:B≤w.heap.size) (hX:∀k,X k→B≤k) (hl:l.length≤9223372036854775807):
 Calls pG 231 #[.slice A l.length c,.func (.func g) #[] lb] w fun e w'=>e= .returned (.int .i64 (cV q (List.range l.length)))∧Gr X w w'∧∃k,J k w':=by
 go_enter Tryz.func231,Tryz.ntmps231;go_wp2;go_loopw [5,8] (fun _ i wr=>∃k:Nat,k≤l.length∧i= .int .i64 k∧Gr X w wr∧J k wr∧Hid (∀j,j<l.length→j<k→q j=false)) (fun _ i _=>l.length-(intOf i).toNat)
 case atStart=>exact⟨0,nZ,rfl,Gr.refl _ _,h0,fun j _ h=>absurd h oz⟩
 case round=>
  clear h0;obtain⟨k,hk,rfl,hB,hJ,aJ⟩:=hrel;have HG:=lz hB;by_cases hlt:k<l.length
  ·have hh:=h.dn nL (kN hB bW hX)
   obtain⟨b,o,rfl,hb,hc⟩:=hh oz;have gH:=hc k hlt;have au:=hp k hlt wr hJ (gH.2.2.2.2.2.2.2.2.2.2);have hs:=hB.size;have M0:=lz (show∃k,J (k+1) wr∨True from⟨0,.inr trivial⟩);clear hc hp h hh hJ hB;have cD:q k=true→cV q (List.range l.length)=k:=fun hq=>nX hlt hq aJ.out
   have cQ:q k=false→∀j,j<l.length→j<k+1→q j=false:=fun hq=>ru aJ.out hq
   have dU:=lz cD;have dH:=lz cQ;clear cD cQ aJ;generalize l[k]=r at gH au;obtain⟨c0,c1,c2,c3,c4,c5,c6,c7,c8,c9,_⟩:=gH;have aN:=lz au;clear au
   cases hq:q k with
   | true=>
    have cD:=lz (dU.out hq);rw[hq]at aN;clear dU dH hq;go_wp2_with (go_at_fn g;refine aN.out.mono ?_;rintro e w' ⟨rfl,hj',hb'⟩);go_ret;exact⟨eT cD.out.symm,HG.out.trans hb',⟨_,hj'⟩⟩
   | false=>
    have cQ:=lz (dH.out hq);rw[hq]at aN;clear dU dH hq;go_wp2_with (go_at_fn g;refine aN.out.mono ?_;rintro e w' ⟨rfl,hj',hb'⟩);go_roundw
    case rel=>exact⟨k+1,oz,by go_num,HG.out.trans hb',hj',cQ⟩
    case measure=>simp[intOf];omega
  ·go_wp2
   go_ret;exact⟨eT (lG fun j hj=>aJ.out j hj oz).symm,HG.out,⟨_,hJ⟩⟩
theorem DN(g:Nat)(lb:Array Value)(q:Nat→Bool)(J:Nat→World→Prop)(X:Nat→Prop)(B:Nat)(eg:∀args w,(callFunc g args).run pG w= .ok (.enter g args) w)(l:List aC)(A:Option Addr)(c:Nat)(w:World)
 (hp:jh aC.val X g lb q l (fun x W=>x.rd W B) J) (h0:J 0 w) (h:fW w B A l) (bW:B≤w.heap.size) (hX:∀k,X k→B≤k) (hl:l.length≤9223372036854775807):
 Calls pG 139 #[.slice A l.length c,.func (.func g) #[] lb] w fun e w'=>e= .returned (.bool ((List.range l.length).any q))∧Gr X w w'∧∃k,J k w':=by
 have hI:=MZ g lb q J X B eg l A c w hp h0 h bW hX hl;rw[←eZ];generalize cV q (List.range l.length)=r at hI ⊢;clear h hp h0;go_enter Tryz.func139,Tryz.ntmps139;go_wp2_with fail;refine hI.mono ?_;rintro e w1 ⟨rfl,aU⟩;clear hI;go_wp2;go_ret;exact⟨rfl,aU⟩
theorem TH(g:Nat)(lb:Array Value)(eg:∀args w,(callFunc g args).run pG w= .ok (.enter g args) w)(Bx:Nat)(b:Bool)(x:aC)(W:World)(X:Nat→Prop)(J':World→Prop)(hb:ah W Bx 137 #[.func (.func g) #[] lb])
 (au:Calls pG g (#[x.val]++lb) (W.alloc (.cells #[.string x.nm,.int .i64 x.pe,.int .i64 x.le,.int .i64 x.mem,.slice x.aG.a x.aG.l.length x.aG.c,.int .i64 x.ev,.int .i64 x.bo,.slice x.aX.a x.aX.l.length x.aX.c,.slice x.aq.a x.aq.l.length x.aq.c,.slice x.procs.a x.procs.l.length x.procs.c] 71)) fun e w'=>e= .returned (.bool b)∧J' w'∧Gr X (W.alloc (.cells #[.string x.nm,.int .i64 x.pe,.int .i64 x.le,.int .i64 x.mem,.slice x.aG.a x.aG.l.length x.aG.c,.int .i64 x.ev,.int .i64 x.bo,.slice x.aX.a x.aX.l.length x.aX.c,.slice x.aq.a x.aq.l.length x.aq.c,.slice x.procs.a x.procs.l.length x.procs.c] 71)) w'):
 Calls pG 140 #[x.val,.pointer (some ⟨Bx,0,none⟩)] W fun e w'=>e= .returned (.bool (!b))∧J' w'∧Gr X W w':=by
 have hc:=au;have c0:(W.alloc (.cells #[.string x.nm,.int .i64 x.pe,.int .i64 x.le,.int .i64 x.mem,.slice x.aG.a x.aG.l.length x.aG.c,.int .i64 x.ev,.int .i64 x.bo,.slice x.aX.a x.aX.l.length x.aX.c,.slice x.aq.a x.aq.l.length x.aq.c,.slice x.procs.a x.procs.l.length x.procs.c] 71)).cell? ⟨Bx,0,none⟩=some (.func (.func g) #[] lb):=(hb.alloc _).cell 0;dsimp only[aC.val]at hc;have Hc:=lz hc;have hlt:=hb.lt;clear au hb hc;go_enter Tryz.func140,Tryz.ntmps140;go_wp2_with (go_at_fn g;refine Hc.out.mono ?_;rintro e w' ⟨rfl,hj',hb'⟩);go_ret;exact⟨rfl,hj',(Gr.alloc X W _).trans hb'⟩
theorem PU(g:Nat)(lb:Array Value)(q:Nat→Bool)(J:Nat→World→Prop)(X:Nat→Prop)(B:Nat)(eg:∀args w,(callFunc g args).run pG w= .ok (.enter g args) w)(l:List aC)(A:Option Addr)(c:Nat)(w:World)
 (hp:jh aC.val X g lb q l (fun x W=>x.rd W B) J) (zu:∀k W o,J k W→J k (W.alloc o)) (h0:J 0 w) (h:fW w B A l) (bW:B≤w.heap.size) (hX:∀k,X k→B≤k∧k<w.heap.size) (hl:l.length≤9223372036854775807):
 Calls pG 59 #[.slice A l.length c,.func (.func g) #[] lb] w fun e w'=>e= .returned (.bool ((List.range l.length).all q))∧Gr X w w'∧∃k,J k w':=by
 have h1:=ah.new w 137 #[.func (.func g) #[] lb];have aZ:=DN 140 #[.pointer (some ⟨w.heap.size,0,none⟩)] (fun k=> !q k) (fun k W=>J k W∧ah W w.heap.size 137 #[.func (.func g) #[] lb]) X B (enters_of Tryz.func140 kz rfl) l A c (w.alloc (.cells #[.func (.func g) #[] lb] 137))
  (fun k hk W hJ hr=>(TH g lb eg w.heap.size (q k) l[k] W X (J (k+1)) hJ.2 (hp k hk _ (zu _ _ _ hJ.1) (hr.dn nL fun b o hb=>World.cell?_alloc_lt W _ ⟨b,o,none⟩ (by have:=hJ.2.lt;simp only;omega)))).mono fun e w' ⟨e1,e2,e3⟩=>⟨e1,⟨e2,e3.blk hJ.2 fun hx=>absurd (hX _ hx).2 oz⟩,e3⟩)
  ⟨zu _ _ _ h0,h1⟩ (h.dn nL fun b o hb=>World.cell?_alloc_lt w _ ⟨b,o,none⟩ (by simp only;omega)) qo (fun k hk=>(hX k hk).1) hl
 rw[cB]at aZ;have eP:=lz aZ;generalize (List.range l.length).all q=r at *;clear h1 aZ hp h hX zu h0;go_enter Tryz.func59,Tryz.ntmps59;go_wp2_with fail;refine eP.out.mono ?_;rintro e w1 ⟨rfl,hg1,k,M4,_⟩;have HG:=lz ((Gr.alloc X w (.cells #[.func (.func g) #[] lb] 137)).trans hg1);have HJ:=lz M4;clear eP hg1 M4;go_wp2;go_ret;exact⟨by cases r<;>rfl,HG.out,⟨k,HJ.out⟩⟩
theorem M6(g:Nat)(lb:Array Value)(q:Nat→Bool)(J:Nat→World→Prop)(X:Nat→Prop)(B:Nat)(eg:∀args w,(callFunc g args).run pG w= .ok (.enter g args) w)(l:List aM)(A:Option Addr)(c:Nat)(w:World)
 (hp:jh aM.val X g lb q l (fun x W=>x.rd W B) J) (h0:J 0 w) (h:fu w B A l) (bW:B≤w.heap.size) (hX:∀k,X k→B≤k) (hl:l.length≤9223372036854775807):
 Calls pG 229 #[.slice A l.length c,.func (.func g) #[] lb] w fun e w'=>e= .returned (.int .i64 (cV q (List.range l.length)))∧Gr X w w'∧∃k,J k w':=by
 go_enter Tryz.func229,Tryz.ntmps229;go_wp2;go_loopw [5,8] (fun _ i wr=>∃k:Nat,k≤l.length∧i= .int .i64 k∧Gr X w wr∧J k wr∧Hid (∀j,j<l.length→j<k→q j=false)) (fun _ i _=>l.length-(intOf i).toNat)
 case atStart=>exact⟨0,nZ,rfl,Gr.refl _ _,h0,fun j _ h=>absurd h oz⟩
 case round=>
  clear h0;obtain⟨k,hk,rfl,hB,hJ,aJ⟩:=hrel;have HG:=lz hB;by_cases hlt:k<l.length
  ·have hh:=h.dn nL (kN hB bW hX)
   obtain⟨b,o,rfl,hb,hc⟩:=hh oz;have gH:=hc k hlt;have au:=hp k hlt wr hJ (gH.2.2.2.2.2.2);have hs:=hB.size;have M0:=lz (show∃k,J (k+1) wr∨True from⟨0,.inr trivial⟩);clear hc hp h hh hJ hB;have cD:q k=true→cV q (List.range l.length)=k:=fun hq=>nX hlt hq aJ.out
   have cQ:q k=false→∀j,j<l.length→j<k+1→q j=false:=fun hq=>ru aJ.out hq
   have dU:=lz cD;have dH:=lz cQ;clear cD cQ aJ;generalize l[k]=r at gH au;obtain⟨c0,c1,c2,c3,c4,c5,_⟩:=gH;have aN:=lz au;clear au
   cases hq:q k with
   | true=>
    have cD:=lz (dU.out hq);rw[hq]at aN;clear dU dH hq;go_wp2_with (go_at_fn g;refine aN.out.mono ?_;rintro e w' ⟨rfl,hj',hb'⟩);go_ret;exact⟨eT cD.out.symm,HG.out.trans hb',⟨_,hj'⟩⟩
   | false=>
    have cQ:=lz (dH.out hq);rw[hq]at aN;clear dU dH hq;go_wp2_with (go_at_fn g;refine aN.out.mono ?_;rintro e w' ⟨rfl,hj',hb'⟩);go_roundw
    case rel=>exact⟨k+1,oz,by go_num,HG.out.trans hb',hj',cQ⟩
    case measure=>simp[intOf];omega
  ·go_wp2
   go_ret;exact⟨eT (lG fun j hj=>aJ.out j hj oz).symm,HG.out,⟨_,hJ⟩⟩
theorem DP(g:Nat)(lb:Array Value)(q:Nat→Bool)(J:Nat→World→Prop)(X:Nat→Prop)(B:Nat)(eg:∀args w,(callFunc g args).run pG w= .ok (.enter g args) w)(l:List aM)(A:Option Addr)(c:Nat)(w:World)
 (hp:jh aM.val X g lb q l (fun x W=>x.rd W B) J) (h0:J 0 w) (h:fu w B A l) (bW:B≤w.heap.size) (hX:∀k,X k→B≤k) (hl:l.length≤9223372036854775807):
 Calls pG 135 #[.slice A l.length c,.func (.func g) #[] lb] w fun e w'=>e= .returned (.bool ((List.range l.length).any q))∧Gr X w w'∧∃k,J k w':=by
 have hI:=M6 g lb q J X B eg l A c w hp h0 h bW hX hl;rw[←eZ];generalize cV q (List.range l.length)=r at hI ⊢;clear h hp h0;go_enter Tryz.func135,Tryz.ntmps135;go_wp2_with fail;refine hI.mono ?_;rintro e w1 ⟨rfl,aU⟩;clear hI;go_wp2;go_ret;exact⟨rfl,aU⟩
theorem TI(g:Nat)(lb:Array Value)(eg:∀args w,(callFunc g args).run pG w= .ok (.enter g args) w)(Bx:Nat)(b:Bool)(x:aM)(W:World)(X:Nat→Prop)(J':World→Prop)(hb:ah W Bx 133 #[.func (.func g) #[] lb])
 (au:Calls pG g (#[x.val]++lb) (W.alloc (.cells #[.string x.nm,.int .u8 x.kd,.bool x.out,.int .i64 x.sz,.int .i64 x.dp,.int .i64 x.rf] 73)) fun e w'=>e= .returned (.bool b)∧J' w'∧Gr X (W.alloc (.cells #[.string x.nm,.int .u8 x.kd,.bool x.out,.int .i64 x.sz,.int .i64 x.dp,.int .i64 x.rf] 73)) w'):
 Calls pG 136 #[x.val,.pointer (some ⟨Bx,0,none⟩)] W fun e w'=>e= .returned (.bool (!b))∧J' w'∧Gr X W w':=by
 have hc:=au;have c0:(W.alloc (.cells #[.string x.nm,.int .u8 x.kd,.bool x.out,.int .i64 x.sz,.int .i64 x.dp,.int .i64 x.rf] 73)).cell? ⟨Bx,0,none⟩=some (.func (.func g) #[] lb):=(hb.alloc _).cell 0;dsimp only[aM.val]at hc;have Hc:=lz hc;have hlt:=hb.lt;clear au hb hc;go_enter Tryz.func136,Tryz.ntmps136;go_wp2_with (go_at_fn g;refine Hc.out.mono ?_;rintro e w' ⟨rfl,hj',hb'⟩);go_ret;exact⟨rfl,hj',(Gr.alloc X W _).trans hb'⟩
theorem PV(g:Nat)(lb:Array Value)(q:Nat→Bool)(J:Nat→World→Prop)(X:Nat→Prop)(B:Nat)(eg:∀args w,(callFunc g args).run pG w= .ok (.enter g args) w)(l:List aM)(A:Option Addr)(c:Nat)(w:World)
 (hp:jh aM.val X g lb q l (fun x W=>x.rd W B) J) (zu:∀k W o,J k W→J k (W.alloc o)) (h0:J 0 w) (h:fu w B A l) (bW:B≤w.heap.size) (hX:∀k,X k→B≤k∧k<w.heap.size) (hl:l.length≤9223372036854775807):
 Calls pG 56 #[.slice A l.length c,.func (.func g) #[] lb] w fun e w'=>e= .returned (.bool ((List.range l.length).all q))∧Gr X w w'∧∃k,J k w':=by
 have h1:=ah.new w 133 #[.func (.func g) #[] lb];have aZ:=DP 136 #[.pointer (some ⟨w.heap.size,0,none⟩)] (fun k=> !q k) (fun k W=>J k W∧ah W w.heap.size 133 #[.func (.func g) #[] lb]) X B (enters_of Tryz.func136 kz rfl) l A c (w.alloc (.cells #[.func (.func g) #[] lb] 133))
  (fun k hk W hJ hr=>(TI g lb eg w.heap.size (q k) l[k] W X (J (k+1)) hJ.2 (hp k hk _ (zu _ _ _ hJ.1) (hr.dn nL fun b o hb=>World.cell?_alloc_lt W _ ⟨b,o,none⟩ (by have:=hJ.2.lt;simp only;omega)))).mono fun e w' ⟨e1,e2,e3⟩=>⟨e1,⟨e2,e3.blk hJ.2 fun hx=>absurd (hX _ hx).2 oz⟩,e3⟩)
  ⟨zu _ _ _ h0,h1⟩ (h.dn nL fun b o hb=>World.cell?_alloc_lt w _ ⟨b,o,none⟩ (by simp only;omega)) qo (fun k hk=>(hX k hk).1) hl
 rw[cB]at aZ;have eP:=lz aZ;generalize (List.range l.length).all q=r at *;clear h1 aZ hp h hX zu h0;go_enter Tryz.func56,Tryz.ntmps56;go_wp2_with fail;refine eP.out.mono ?_;rintro e w1 ⟨rfl,hg1,k,M4,_⟩;have HG:=lz ((Gr.alloc X w (.cells #[.func (.func g) #[] lb] 133)).trans hg1);have HJ:=lz M4;clear eP hg1 M4;go_wp2;go_ret;exact⟨by cases r<;>rfl,HG.out,⟨k,HJ.out⟩⟩
theorem M7(g:Nat)(lb:Array Value)(q:Nat→Bool)(J:Nat→World→Prop)(X:Nat→Prop)(B:Nat)(eg:∀args w,(callFunc g args).run pG w= .ok (.enter g args) w)(l:List cT)(A:Option Addr)(c:Nat)(w:World)
 (hp:jh cT.val X g lb q l (fun x W=>x.rd W B) J) (h0:J 0 w) (h:gI w B A l) (bW:B≤w.heap.size) (hX:∀k,X k→B≤k) (hl:l.length≤9223372036854775807):
 Calls pG 230 #[.slice A l.length c,.func (.func g) #[] lb] w fun e w'=>e= .returned (.int .i64 (cV q (List.range l.length)))∧Gr X w w'∧∃k,J k w':=by
 go_enter Tryz.func230,Tryz.ntmps230;go_wp2;go_loopw [5,8] (fun _ i wr=>∃k:Nat,k≤l.length∧i= .int .i64 k∧Gr X w wr∧J k wr∧Hid (∀j,j<l.length→j<k→q j=false)) (fun _ i _=>l.length-(intOf i).toNat)
 case atStart=>exact⟨0,nZ,rfl,Gr.refl _ _,h0,fun j _ h=>absurd h oz⟩
 case round=>
  clear h0;obtain⟨k,hk,rfl,hB,hJ,aJ⟩:=hrel;have HG:=lz hB;by_cases hlt:k<l.length
  ·have hh:=h.dn nL (kN hB bW hX)
   obtain⟨b,o,rfl,hb,hc⟩:=hh oz;have gH:=hc k hlt;have au:=hp k hlt wr hJ (gH.2.2.2.2.2);have hs:=hB.size;have M0:=lz (show∃k,J (k+1) wr∨True from⟨0,.inr trivial⟩);clear hc hp h hh hJ hB;have cD:q k=true→cV q (List.range l.length)=k:=fun hq=>nX hlt hq aJ.out
   have cQ:q k=false→∀j,j<l.length→j<k+1→q j=false:=fun hq=>ru aJ.out hq
   have dU:=lz cD;have dH:=lz cQ;clear cD cQ aJ;generalize l[k]=r at gH au;obtain⟨c0,c1,c2,c3,c4,_⟩:=gH;have aN:=lz au;clear au
   cases hq:q k with
   | true=>
    have cD:=lz (dU.out hq);rw[hq]at aN;clear dU dH hq;go_wp2_with (go_at_fn g;refine aN.out.mono ?_;rintro e w' ⟨rfl,hj',hb'⟩);go_ret;exact⟨eT cD.out.symm,HG.out.trans hb',⟨_,hj'⟩⟩
   | false=>
    have cQ:=lz (dH.out hq);rw[hq]at aN;clear dU dH hq;go_wp2_with (go_at_fn g;refine aN.out.mono ?_;rintro e w' ⟨rfl,hj',hb'⟩);go_roundw
    case rel=>exact⟨k+1,oz,by go_num,HG.out.trans hb',hj',cQ⟩
    case measure=>simp[intOf];omega
  ·go_wp2
   go_ret;exact⟨eT (lG fun j hj=>aJ.out j hj oz).symm,HG.out,⟨_,hJ⟩⟩
theorem DQ(g:Nat)(lb:Array Value)(q:Nat→Bool)(J:Nat→World→Prop)(X:Nat→Prop)(B:Nat)(eg:∀args w,(callFunc g args).run pG w= .ok (.enter g args) w)(l:List cT)(A:Option Addr)(c:Nat)(w:World)
 (hp:jh cT.val X g lb q l (fun x W=>x.rd W B) J) (h0:J 0 w) (h:gI w B A l) (bW:B≤w.heap.size) (hX:∀k,X k→B≤k) (hl:l.length≤9223372036854775807):
 Calls pG 137 #[.slice A l.length c,.func (.func g) #[] lb] w fun e w'=>e= .returned (.bool ((List.range l.length).any q))∧Gr X w w'∧∃k,J k w':=by
 have hI:=M7 g lb q J X B eg l A c w hp h0 h bW hX hl;rw[←eZ];generalize cV q (List.range l.length)=r at hI ⊢;clear h hp h0;go_enter Tryz.func137,Tryz.ntmps137;go_wp2_with fail;refine hI.mono ?_;rintro e w1 ⟨rfl,aU⟩;clear hI;go_wp2;go_ret;exact⟨rfl,aU⟩
theorem TJ(g:Nat)(lb:Array Value)(eg:∀args w,(callFunc g args).run pG w= .ok (.enter g args) w)(Bx:Nat)(b:Bool)(x:cT)(W:World)(X:Nat→Prop)(J':World→Prop)(hb:ah W Bx 134 #[.func (.func g) #[] lb])
 (au:Calls pG g (#[x.val]++lb) (W.alloc (.cells #[.string x.nm,.int .i64 x.pr,.int .i64 x.pe,.int .i64 x.li,.slice x.code.a x.code.l.length x.code.c] 76)) fun e w'=>e= .returned (.bool b)∧J' w'∧Gr X (W.alloc (.cells #[.string x.nm,.int .i64 x.pr,.int .i64 x.pe,.int .i64 x.li,.slice x.code.a x.code.l.length x.code.c] 76)) w'):
 Calls pG 138 #[x.val,.pointer (some ⟨Bx,0,none⟩)] W fun e w'=>e= .returned (.bool (!b))∧J' w'∧Gr X W w':=by
 have hc:=au;have c0:(W.alloc (.cells #[.string x.nm,.int .i64 x.pr,.int .i64 x.pe,.int .i64 x.li,.slice x.code.a x.code.l.length x.code.c] 76)).cell? ⟨Bx,0,none⟩=some (.func (.func g) #[] lb):=(hb.alloc _).cell 0;dsimp only[cT.val]at hc;have Hc:=lz hc;have hlt:=hb.lt;clear au hb hc;go_enter Tryz.func138,Tryz.ntmps138;go_wp2_with (go_at_fn g;refine Hc.out.mono ?_;rintro e w' ⟨rfl,hj',hb'⟩);go_ret;exact⟨rfl,hj',(Gr.alloc X W _).trans hb'⟩
theorem PW(g:Nat)(lb:Array Value)(q:Nat→Bool)(J:Nat→World→Prop)(X:Nat→Prop)(B:Nat)(eg:∀args w,(callFunc g args).run pG w= .ok (.enter g args) w)(l:List cT)(A:Option Addr)(c:Nat)(w:World)
 (hp:jh cT.val X g lb q l (fun x W=>x.rd W B) J) (zu:∀k W o,J k W→J k (W.alloc o)) (h0:J 0 w) (h:gI w B A l) (bW:B≤w.heap.size) (hX:∀k,X k→B≤k∧k<w.heap.size) (hl:l.length≤9223372036854775807):
 Calls pG 57 #[.slice A l.length c,.func (.func g) #[] lb] w fun e w'=>e= .returned (.bool ((List.range l.length).all q))∧Gr X w w'∧∃k,J k w':=by
 have h1:=ah.new w 134 #[.func (.func g) #[] lb];have aZ:=DQ 138 #[.pointer (some ⟨w.heap.size,0,none⟩)] (fun k=> !q k) (fun k W=>J k W∧ah W w.heap.size 134 #[.func (.func g) #[] lb]) X B (enters_of Tryz.func138 kz rfl) l A c (w.alloc (.cells #[.func (.func g) #[] lb] 134))
  (fun k hk W hJ hr=>(TJ g lb eg w.heap.size (q k) l[k] W X (J (k+1)) hJ.2 (hp k hk _ (zu _ _ _ hJ.1) (hr.dn nL fun b o hb=>World.cell?_alloc_lt W _ ⟨b,o,none⟩ (by have:=hJ.2.lt;simp only;omega)))).mono fun e w' ⟨e1,e2,e3⟩=>⟨e1,⟨e2,e3.blk hJ.2 fun hx=>absurd (hX _ hx).2 oz⟩,e3⟩)
  ⟨zu _ _ _ h0,h1⟩ (h.dn nL fun b o hb=>World.cell?_alloc_lt w _ ⟨b,o,none⟩ (by simp only;omega)) qo (fun k hk=>(hX k hk).1) hl
 rw[cB]at aZ;have eP:=lz aZ;generalize (List.range l.length).all q=r at *;clear h1 aZ hp h hX zu h0;go_enter Tryz.func57,Tryz.ntmps57;go_wp2_with fail;refine eP.out.mono ?_;rintro e w1 ⟨rfl,hg1,k,M4,_⟩;have HG:=lz ((Gr.alloc X w (.cells #[.func (.func g) #[] lb] 134)).trans hg1);have HJ:=lz M4;clear eP hg1 M4;go_wp2;go_ret;exact⟨by cases r<;>rfl,HG.out,⟨k,HJ.out⟩⟩
theorem F4(g:Nat)(lb:Array Value)(q:Nat→Bool)(J:Nat→World→Prop)(X:Nat→Prop)(B:Nat)(eg:∀args w,(callFunc g args).run pG w= .ok (.enter g args) w)(l:List bT)(A:Option Addr)(c:Nat)(w:World)
 (hp:jh bT.val X g lb q l (fun x W=>x.rd W B) J) (h0:J 0 w) (h:dK w B A l) (bW:B≤w.heap.size) (hX:∀k,X k→B≤k) (hl:l.length≤9223372036854775807):
 Calls pG 104 #[.slice A l.length c,.func (.func g) #[] lb] w fun e w'=>e= .returned (.int .i64 (cV q (List.range l.length)))∧Gr X w w'∧∃k,J k w':=by
 go_enter Tryz.func104,Tryz.ntmps104;go_wp2;go_loopw [5,8] (fun _ i wr=>∃k:Nat,k≤l.length∧i= .int .i64 k∧Gr X w wr∧J k wr∧Hid (∀j,j<l.length→j<k→q j=false)) (fun _ i _=>l.length-(intOf i).toNat)
 case atStart=>exact⟨0,nZ,rfl,Gr.refl _ _,h0,fun j _ h=>absurd h oz⟩
 case round=>
  clear h0;obtain⟨k,hk,rfl,hB,hJ,aJ⟩:=hrel;have HG:=lz hB;by_cases hlt:k<l.length
  ·have hh:=h.dn nL (kN hB bW hX)
   obtain⟨b,o,rfl,hb,hc⟩:=hh oz;have gH:=hc k hlt;have au:=hp k hlt wr hJ (gH.2.2.2.2);have hs:=hB.size;have M0:=lz (show∃k,J (k+1) wr∨True from⟨0,.inr trivial⟩);clear hc hp h hh hJ hB;have cD:q k=true→cV q (List.range l.length)=k:=fun hq=>nX hlt hq aJ.out
   have cQ:q k=false→∀j,j<l.length→j<k+1→q j=false:=fun hq=>ru aJ.out hq
   have dU:=lz cD;have dH:=lz cQ;clear cD cQ aJ;generalize l[k]=r at gH au;obtain⟨c0,c1,c2,c3,_⟩:=gH;have aN:=lz au;clear au
   cases hq:q k with
   | true=>
    have cD:=lz (dU.out hq);rw[hq]at aN;clear dU dH hq;go_wp2_with (go_at_fn g;refine aN.out.mono ?_;rintro e w' ⟨rfl,hj',hb'⟩);go_ret;exact⟨eT cD.out.symm,HG.out.trans hb',⟨_,hj'⟩⟩
   | false=>
    have cQ:=lz (dH.out hq);rw[hq]at aN;clear dU dH hq;go_wp2_with (go_at_fn g;refine aN.out.mono ?_;rintro e w' ⟨rfl,hj',hb'⟩);go_roundw
    case rel=>exact⟨k+1,oz,by go_num,HG.out.trans hb',hj',cQ⟩
    case measure=>simp[intOf];omega
  ·go_wp2
   go_ret;exact⟨eT (lG fun j hj=>aJ.out j hj oz).symm,HG.out,⟨_,hJ⟩⟩
theorem zw(g:Nat)(lb:Array Value)(q:Nat→Bool)(J:Nat→World→Prop)(X:Nat→Prop)(B:Nat)(eg:∀args w,(callFunc g args).run pG w= .ok (.enter g args) w)(l:List bT)(A:Option Addr)(c:Nat)(w:World)
 (hp:jh bT.val X g lb q l (fun x W=>x.rd W B) J) (h0:J 0 w) (h:dK w B A l) (bW:B≤w.heap.size) (hX:∀k,X k→B≤k) (hl:l.length≤9223372036854775807):
 Calls pG 144 #[.slice A l.length c,.func (.func g) #[] lb] w fun e w'=>e= .returned (.bool ((List.range l.length).any q))∧Gr X w w'∧∃k,J k w':=by
 have hI:=F4 g lb q J X B eg l A c w hp h0 h bW hX hl;rw[←eZ];generalize cV q (List.range l.length)=r at hI ⊢;clear h hp h0;go_enter Tryz.func144,Tryz.ntmps144;go_wp2_with fail;refine hI.mono ?_;rintro e w1 ⟨rfl,aU⟩;clear hI;go_wp2;go_ret;exact⟨rfl,aU⟩
theorem M8(g:Nat)(lb:Array Value)(eg:∀args w,(callFunc g args).run pG w= .ok (.enter g args) w)(Bx:Nat)(b:Bool)(x:bT)(W:World)(X:Nat→Prop)(J':World→Prop)(hb:ah W Bx 139 #[.func (.func g) #[] lb])
 (au:Calls pG g (#[x.val]++lb) (W.alloc (.cells #[.string x.nm,.int .i64 x.mem,.int .i64 x.fr,.slice x.parts.a x.parts.l.length x.parts.c] 67)) fun e w'=>e= .returned (.bool b)∧J' w'∧Gr X (W.alloc (.cells #[.string x.nm,.int .i64 x.mem,.int .i64 x.fr,.slice x.parts.a x.parts.l.length x.parts.c] 67)) w'):
 Calls pG 145 #[x.val,.pointer (some ⟨Bx,0,none⟩)] W fun e w'=>e= .returned (.bool (!b))∧J' w'∧Gr X W w':=by
 have hc:=au;have c0:(W.alloc (.cells #[.string x.nm,.int .i64 x.mem,.int .i64 x.fr,.slice x.parts.a x.parts.l.length x.parts.c] 67)).cell? ⟨Bx,0,none⟩=some (.func (.func g) #[] lb):=(hb.alloc _).cell 0;dsimp only[bT.val]at hc;have Hc:=lz hc;have hlt:=hb.lt;clear au hb hc;go_enter Tryz.func145,Tryz.ntmps145;go_wp2_with (go_at_fn g;refine Hc.out.mono ?_;rintro e w' ⟨rfl,hj',hb'⟩);go_ret;exact⟨rfl,hj',(Gr.alloc X W _).trans hb'⟩
theorem Kh(g:Nat)(lb:Array Value)(q:Nat→Bool)(J:Nat→World→Prop)(X:Nat→Prop)(B:Nat)(eg:∀args w,(callFunc g args).run pG w= .ok (.enter g args) w)(l:List bT)(A:Option Addr)(c:Nat)(w:World)
 (hp:jh bT.val X g lb q l (fun x W=>x.rd W B) J) (zu:∀k W o,J k W→J k (W.alloc o)) (h0:J 0 w) (h:dK w B A l) (bW:B≤w.heap.size) (hX:∀k,X k→B≤k∧k<w.heap.size) (hl:l.length≤9223372036854775807):
 Calls pG 66 #[.slice A l.length c,.func (.func g) #[] lb] w fun e w'=>e= .returned (.bool ((List.range l.length).all q))∧Gr X w w'∧∃k,J k w':=by
 have h1:=ah.new w 139 #[.func (.func g) #[] lb];have aZ:=zw 145 #[.pointer (some ⟨w.heap.size,0,none⟩)] (fun k=> !q k) (fun k W=>J k W∧ah W w.heap.size 139 #[.func (.func g) #[] lb]) X B (enters_of Tryz.func145 kz rfl) l A c (w.alloc (.cells #[.func (.func g) #[] lb] 139))
  (fun k hk W hJ hr=>(M8 g lb eg w.heap.size (q k) l[k] W X (J (k+1)) hJ.2 (hp k hk _ (zu _ _ _ hJ.1) (hr.dn nL fun b o hb=>World.cell?_alloc_lt W _ ⟨b,o,none⟩ (by have:=hJ.2.lt;simp only;omega)))).mono fun e w' ⟨e1,e2,e3⟩=>⟨e1,⟨e2,e3.blk hJ.2 fun hx=>absurd (hX _ hx).2 oz⟩,e3⟩)
  ⟨zu _ _ _ h0,h1⟩ (h.dn nL fun b o hb=>World.cell?_alloc_lt w _ ⟨b,o,none⟩ (by simp only;omega)) qo (fun k hk=>(hX k hk).1) hl
 rw[cB]at aZ;have eP:=lz aZ;generalize (List.range l.length).all q=r at *;clear h1 aZ hp h hX zu h0;go_enter Tryz.func66,Tryz.ntmps66;go_wp2_with fail;refine eP.out.mono ?_;rintro e w1 ⟨rfl,hg1,k,M4,_⟩;have HG:=lz ((Gr.alloc X w (.cells #[.func (.func g) #[] lb] 139)).trans hg1);have HJ:=lz M4;clear eP hg1 M4;go_wp2;go_ret;exact⟨by cases r<;>rfl,HG.out,⟨k,HJ.out⟩⟩
theorem F5(g:Nat)(lb:Array Value)(q:Nat→Bool)(J:Nat→World→Prop)(X:Nat→Prop)(B:Nat)(eg:∀args w,(callFunc g args).run pG w= .ok (.enter g args) w)(l:List iI)(A:Option Addr)(c:Nat)(w:World)
 (hp:jh iI.val X g lb q l (fun _ _=>True) J) (h0:J 0 w) (h:dL w B A l) (bW:B≤w.heap.size) (hX:∀k,X k→B≤k) (hl:l.length≤9223372036854775807):
 Calls pG 106 #[.slice A l.length c,.func (.func g) #[] lb] w fun e w'=>e= .returned (.int .i64 (cV q (List.range l.length)))∧Gr X w w'∧∃k,J k w':=by
 go_enter Tryz.func106,Tryz.ntmps106;go_wp2;go_loopw [5,8] (fun _ i wr=>∃k:Nat,k≤l.length∧i= .int .i64 k∧Gr X w wr∧J k wr∧Hid (∀j,j<l.length→j<k→q j=false)) (fun _ i _=>l.length-(intOf i).toNat)
 case atStart=>exact⟨0,nZ,rfl,Gr.refl _ _,h0,fun j _ h=>absurd h oz⟩
 case round=>
  clear h0;obtain⟨k,hk,rfl,hB,hJ,aJ⟩:=hrel;have HG:=lz hB;by_cases hlt:k<l.length
  ·have hh:=h.dn nL (kN hB bW hX)
   obtain⟨b,o,rfl,hb,hc⟩:=hh oz;have gH:=hc k hlt;have au:=hp k hlt wr hJ (trivial);have hs:=hB.size;have M0:=lz (show∃k,J (k+1) wr∨True from⟨0,.inr trivial⟩);clear hc hp h hh hJ hB;have cD:q k=true→cV q (List.range l.length)=k:=fun hq=>nX hlt hq aJ.out
   have cQ:q k=false→∀j,j<l.length→j<k+1→q j=false:=fun hq=>ru aJ.out hq
   have dU:=lz cD;have dH:=lz cQ;clear cD cQ aJ;generalize l[k]=r at gH au;obtain⟨c0,c1,c2,c3⟩:=gH;have aN:=lz au;clear au
   cases hq:q k with
   | true=>
    have cD:=lz (dU.out hq);rw[hq]at aN;clear dU dH hq;go_wp2_with (go_at_fn g;refine aN.out.mono ?_;rintro e w' ⟨rfl,hj',hb'⟩);go_ret;exact⟨eT cD.out.symm,HG.out.trans hb',⟨_,hj'⟩⟩
   | false=>
    have cQ:=lz (dH.out hq);rw[hq]at aN;clear dU dH hq;go_wp2_with (go_at_fn g;refine aN.out.mono ?_;rintro e w' ⟨rfl,hj',hb'⟩);go_roundw
    case rel=>exact⟨k+1,oz,by go_num,HG.out.trans hb',hj',cQ⟩
    case measure=>simp[intOf];omega
  ·go_wp2
   go_ret;exact⟨eT (lG fun j hj=>aJ.out j hj oz).symm,HG.out,⟨_,hJ⟩⟩
theorem zx(g:Nat)(lb:Array Value)(q:Nat→Bool)(J:Nat→World→Prop)(X:Nat→Prop)(B:Nat)(eg:∀args w,(callFunc g args).run pG w= .ok (.enter g args) w)(l:List iI)(A:Option Addr)(c:Nat)(w:World)
 (hp:jh iI.val X g lb q l (fun _ _=>True) J) (h0:J 0 w) (h:dL w B A l) (bW:B≤w.heap.size) (hX:∀k,X k→B≤k) (hl:l.length≤9223372036854775807):
 Calls pG 146 #[.slice A l.length c,.func (.func g) #[] lb] w fun e w'=>e= .returned (.bool ((List.range l.length).any q))∧Gr X w w'∧∃k,J k w':=by
 have hI:=F5 g lb q J X B eg l A c w hp h0 h bW hX hl;rw[←eZ];generalize cV q (List.range l.length)=r at hI ⊢;clear h hp h0;go_enter Tryz.func146,Tryz.ntmps146;go_wp2_with fail;refine hI.mono ?_;rintro e w1 ⟨rfl,aU⟩;clear hI;go_wp2;go_ret;exact⟨rfl,aU⟩
theorem M9(g:Nat)(lb:Array Value)(eg:∀args w,(callFunc g args).run pG w= .ok (.enter g args) w)(Bx:Nat)(b:Bool)(x:iI)(W:World)(X:Nat→Prop)(J':World→Prop)(hb:ah W Bx 140 #[.func (.func g) #[] lb])
 (au:Calls pG g (#[x.val]++lb) (W.alloc (.cells #[.string x.nm,.int .i64 x.net,.int .i64 x.dl,.int .i64 x.st] 87)) fun e w'=>e= .returned (.bool b)∧J' w'∧Gr X (W.alloc (.cells #[.string x.nm,.int .i64 x.net,.int .i64 x.dl,.int .i64 x.st] 87)) w'):
 Calls pG 147 #[x.val,.pointer (some ⟨Bx,0,none⟩)] W fun e w'=>e= .returned (.bool (!b))∧J' w'∧Gr X W w':=by
 have hc:=au;have c0:(W.alloc (.cells #[.string x.nm,.int .i64 x.net,.int .i64 x.dl,.int .i64 x.st] 87)).cell? ⟨Bx,0,none⟩=some (.func (.func g) #[] lb):=(hb.alloc _).cell 0;dsimp only[iI.val]at hc;have Hc:=lz hc;have hlt:=hb.lt;clear au hb hc;go_enter Tryz.func147,Tryz.ntmps147;go_wp2_with (go_at_fn g;refine Hc.out.mono ?_;rintro e w' ⟨rfl,hj',hb'⟩);go_ret;exact⟨rfl,hj',(Gr.alloc X W _).trans hb'⟩
theorem Ki(g:Nat)(lb:Array Value)(q:Nat→Bool)(J:Nat→World→Prop)(X:Nat→Prop)(B:Nat)(eg:∀args w,(callFunc g args).run pG w= .ok (.enter g args) w)(l:List iI)(A:Option Addr)(c:Nat)(w:World)
 (hp:jh iI.val X g lb q l (fun _ _=>True) J) (zu:∀k W o,J k W→J k (W.alloc o)) (h0:J 0 w) (h:dL w B A l) (bW:B≤w.heap.size) (hX:∀k,X k→B≤k∧k<w.heap.size) (hl:l.length≤9223372036854775807):
 Calls pG 67 #[.slice A l.length c,.func (.func g) #[] lb] w fun e w'=>e= .returned (.bool ((List.range l.length).all q))∧Gr X w w'∧∃k,J k w':=by
 have h1:=ah.new w 140 #[.func (.func g) #[] lb];have aZ:=zx 147 #[.pointer (some ⟨w.heap.size,0,none⟩)] (fun k=> !q k) (fun k W=>J k W∧ah W w.heap.size 140 #[.func (.func g) #[] lb]) X B (enters_of Tryz.func147 kz rfl) l A c (w.alloc (.cells #[.func (.func g) #[] lb] 140))
  (fun k hk W hJ hr=>(M9 g lb eg w.heap.size (q k) l[k] W X (J (k+1)) hJ.2 (hp k hk _ (zu _ _ _ hJ.1) (trivial))).mono fun e w' ⟨e1,e2,e3⟩=>⟨e1,⟨e2,e3.blk hJ.2 fun hx=>absurd (hX _ hx).2 oz⟩,e3⟩)
  ⟨zu _ _ _ h0,h1⟩ (h.dn nL fun b o hb=>World.cell?_alloc_lt w _ ⟨b,o,none⟩ (by simp only;omega)) qo (fun k hk=>(hX k hk).1) hl
 rw[cB]at aZ;have eP:=lz aZ;generalize (List.range l.length).all q=r at *;clear h1 aZ hp h hX zu h0;go_enter Tryz.func67,Tryz.ntmps67;go_wp2_with fail;refine eP.out.mono ?_;rintro e w1 ⟨rfl,hg1,k,M4,_⟩;have HG:=lz ((Gr.alloc X w (.cells #[.func (.func g) #[] lb] 140)).trans hg1);have HJ:=lz M4;clear eP hg1 M4;go_wp2;go_ret;exact⟨by cases r<;>rfl,HG.out,⟨k,HJ.out⟩⟩
theorem TK(g:Nat)(lb:Array Value)(q:Nat→Bool)(J:Nat→World→Prop)(X:Nat→Prop)(B:Nat)(eg:∀args w,(callFunc g args).run pG w= .ok (.enter g args) w)(l:List fU)(A:Option Addr)(c:Nat)(w:World)
 (hp:jh fU.val X g lb q l (fun x W=>x.rd W B) J) (h0:J 0 w) (h:mV w B A l) (bW:B≤w.heap.size) (hX:∀k,X k→B≤k) (hl:l.length≤9223372036854775807):
 Calls pG 243 #[.slice A l.length c,.func (.func g) #[] lb] w fun e w'=>e= .returned (.int .i64 (cV q (List.range l.length)))∧Gr X w w'∧∃k,J k w':=by
 go_enter Tryz.func243,Tryz.ntmps243;go_wp2;go_loopw [5,8] (fun _ i wr=>∃k:Nat,k≤l.length∧i= .int .i64 k∧Gr X w wr∧J k wr∧Hid (∀j,j<l.length→j<k→q j=false)) (fun _ i _=>l.length-(intOf i).toNat)
 case atStart=>exact⟨0,nZ,rfl,Gr.refl _ _,h0,fun j _ h=>absurd h oz⟩
 case round=>
  clear h0;obtain⟨k,hk,rfl,hB,hJ,aJ⟩:=hrel;have HG:=lz hB;by_cases hlt:k<l.length
  ·have hh:=h.dn nL (kN hB bW hX)
   obtain⟨b,o,rfl,hb,hc⟩:=hh oz;have gH:=hc k hlt;have au:=hp k hlt wr hJ (gH.2.2.2.2.2.2.2);have hs:=hB.size;have M0:=lz (show∃k,J (k+1) wr∨True from⟨0,.inr trivial⟩);clear hc hp h hh hJ hB;have cD:q k=true→cV q (List.range l.length)=k:=fun hq=>nX hlt hq aJ.out
   have cQ:q k=false→∀j,j<l.length→j<k+1→q j=false:=fun hq=>ru aJ.out hq
   have dU:=lz cD;have dH:=lz cQ;clear cD cQ aJ;generalize l[k]=r at gH au;obtain⟨c0,c1,c2,c3,c4,c5,c6,_⟩:=gH;have aN:=lz au;clear au
   cases hq:q k with
   | true=>
    have cD:=lz (dU.out hq);rw[hq]at aN;clear dU dH hq;go_wp2_with (go_at_fn g;refine aN.out.mono ?_;rintro e w' ⟨rfl,hj',hb'⟩);go_ret;exact⟨eT cD.out.symm,HG.out.trans hb',⟨_,hj'⟩⟩
   | false=>
    have cQ:=lz (dH.out hq);rw[hq]at aN;clear dU dH hq;go_wp2_with (go_at_fn g;refine aN.out.mono ?_;rintro e w' ⟨rfl,hj',hb'⟩);go_roundw
    case rel=>exact⟨k+1,oz,by go_num,HG.out.trans hb',hj',cQ⟩
    case measure=>simp[intOf];omega
  ·go_wp2
   go_ret;exact⟨eT (lG fun j hj=>aJ.out j hj oz).symm,HG.out,⟨_,hJ⟩⟩
theorem Kj(g:Nat)(lb:Array Value)(q:Nat→Bool)(J:Nat→World→Prop)(X:Nat→Prop)(B:Nat)(eg:∀args w,(callFunc g args).run pG w= .ok (.enter g args) w)(l:List fU)(A:Option Addr)(c:Nat)(w:World)
 (hp:jh fU.val X g lb q l (fun x W=>x.rd W B) J) (h0:J 0 w) (h:mV w B A l) (bW:B≤w.heap.size) (hX:∀k,X k→B≤k) (hl:l.length≤9223372036854775807):
 Calls pG 169 #[.slice A l.length c,.func (.func g) #[] lb] w fun e w'=>e= .returned (.bool ((List.range l.length).any q))∧Gr X w w'∧∃k,J k w':=by
 have hI:=TK g lb q J X B eg l A c w hp h0 h bW hX hl;rw[←eZ];generalize cV q (List.range l.length)=r at hI ⊢;clear h hp h0;go_enter Tryz.func169,Tryz.ntmps169;go_wp2_with fail;refine hI.mono ?_;rintro e w1 ⟨rfl,aU⟩;clear hI;go_wp2;go_ret;exact⟨rfl,aU⟩
theorem aA2(g:Nat)(lb:Array Value)(eg:∀args w,(callFunc g args).run pG w= .ok (.enter g args) w)(Bx:Nat)(b:Bool)(x:fU)(W:World)(X:Nat→Prop)(J':World→Prop)(hb:ah W Bx 179 #[.func (.func g) #[] lb])
 (au:Calls pG g (#[x.val]++lb) (W.alloc (.cells #[.string x.nm,.string x.src.m,.string x.src.p,.string x.src.o,.int .i64 x.lQ,.int .i64 x.mx,.slice x.dst.a x.dst.l.length x.dst.c] 44)) fun e w'=>e= .returned (.bool b)∧J' w'∧Gr X (W.alloc (.cells #[.string x.nm,.string x.src.m,.string x.src.p,.string x.src.o,.int .i64 x.lQ,.int .i64 x.mx,.slice x.dst.a x.dst.l.length x.dst.c] 44)) w'):
 Calls pG 170 #[x.val,.pointer (some ⟨Bx,0,none⟩)] W fun e w'=>e= .returned (.bool (!b))∧J' w'∧Gr X W w':=by
 have hc:=au;have c0:(W.alloc (.cells #[.string x.nm,.string x.src.m,.string x.src.p,.string x.src.o,.int .i64 x.lQ,.int .i64 x.mx,.slice x.dst.a x.dst.l.length x.dst.c] 44)).cell? ⟨Bx,0,none⟩=some (.func (.func g) #[] lb):=(hb.alloc _).cell 0;dsimp only[fU.val]at hc;have Hc:=lz hc;have hlt:=hb.lt;clear au hb hc;go_enter Tryz.func170,Tryz.ntmps170;go_wp2_with (go_at_fn g;refine Hc.out.mono ?_;rintro e w' ⟨rfl,hj',hb'⟩);go_ret;exact⟨rfl,hj',(Gr.alloc X W _).trans hb'⟩
theorem Wo(g:Nat)(lb:Array Value)(q:Nat→Bool)(J:Nat→World→Prop)(X:Nat→Prop)(B:Nat)(eg:∀args w,(callFunc g args).run pG w= .ok (.enter g args) w)(l:List fU)(A:Option Addr)(c:Nat)(w:World)
 (hp:jh fU.val X g lb q l (fun x W=>x.rd W B) J) (zu:∀k W o,J k W→J k (W.alloc o)) (h0:J 0 w) (h:mV w B A l) (bW:B≤w.heap.size) (hX:∀k,X k→B≤k∧k<w.heap.size) (hl:l.length≤9223372036854775807):
 Calls pG 88 #[.slice A l.length c,.func (.func g) #[] lb] w fun e w'=>e= .returned (.bool ((List.range l.length).all q))∧Gr X w w'∧∃k,J k w':=by
 have h1:=ah.new w 179 #[.func (.func g) #[] lb];have aZ:=Kj 170 #[.pointer (some ⟨w.heap.size,0,none⟩)] (fun k=> !q k) (fun k W=>J k W∧ah W w.heap.size 179 #[.func (.func g) #[] lb]) X B (enters_of Tryz.func170 kz rfl) l A c (w.alloc (.cells #[.func (.func g) #[] lb] 179))
  (fun k hk W hJ hr=>(aA2 g lb eg w.heap.size (q k) l[k] W X (J (k+1)) hJ.2 (hp k hk _ (zu _ _ _ hJ.1) (hr.dn nL fun b o hb=>World.cell?_alloc_lt W _ ⟨b,o,none⟩ (by have:=hJ.2.lt;simp only;omega)))).mono fun e w' ⟨e1,e2,e3⟩=>⟨e1,⟨e2,e3.blk hJ.2 fun hx=>absurd (hX _ hx).2 oz⟩,e3⟩)
  ⟨zu _ _ _ h0,h1⟩ (h.dn nL fun b o hb=>World.cell?_alloc_lt w _ ⟨b,o,none⟩ (by simp only;omega)) qo (fun k hk=>(hX k hk).1) hl
 rw[cB]at aZ;have eP:=lz aZ;generalize (List.range l.length).all q=r at *;clear h1 aZ hp h hX zu h0;go_enter Tryz.func88,Tryz.ntmps88;go_wp2_with fail;refine eP.out.mono ?_;rintro e w1 ⟨rfl,hg1,k,M4,_⟩;have HG:=lz ((Gr.alloc X w (.cells #[.func (.func g) #[] lb] 179)).trans hg1);have HJ:=lz M4;clear eP hg1 M4;go_wp2;go_ret;exact⟨by cases r<;>rfl,HG.out,⟨k,HJ.out⟩⟩
theorem TL(g:Nat)(lb:Array Value)(eg:∀args w,(callFunc g args).run pG w= .ok (.enter g args) w)(Bx:Nat)(b:Bool)(x:aO)(W:World)(X:Nat→Prop)(J':World→Prop)(hb:ah W Bx 141 #[.func (.func g) #[] lb])
 (au:Calls pG g (#[x.val]++lb) (W.alloc (.cells #[.string x.a,.string x.b,.int .i64 x.net,.int .i64 x.slow] 46)) fun e w'=>e= .returned (.bool b)∧J' w'∧Gr X (W.alloc (.cells #[.string x.a,.string x.b,.int .i64 x.net,.int .i64 x.slow] 46)) w'):
 Calls pG 149 #[x.val,.pointer (some ⟨Bx,0,none⟩)] W fun e w'=>e= .returned (.bool (!b))∧J' w'∧Gr X W w':=by
 have hc:=au;have c0:(W.alloc (.cells #[.string x.a,.string x.b,.int .i64 x.net,.int .i64 x.slow] 46)).cell? ⟨Bx,0,none⟩=some (.func (.func g) #[] lb):=(hb.alloc _).cell 0;dsimp only[aO.val]at hc;have Hc:=lz hc;have hlt:=hb.lt;clear au hb hc;go_enter Tryz.func149,Tryz.ntmps149;go_wp2_with (go_at_fn g;refine Hc.out.mono ?_;rintro e w' ⟨rfl,hj',hb'⟩);go_ret;exact⟨rfl,hj',(Gr.alloc X W _).trans hb'⟩
def F6(L:List (List UInt8))(n:Int):ByteArray:=if n<1∨n>L.length then⟨#[]⟩else⟨(L.getD (n-1).toNat []).toArray⟩
def nY(v:ByteArray)(n:Int):ByteArray:=F6 (Lib.fields v.data.toList) n
def PX(v:ByteArray):Bool:=v.data.toList.all fun b=>decide (b.toNat<128)
theorem Wp{v:ByteArray}(h:PX v=true):∀(j:Nat) b,v.data.toList[j]?=some b→b.toNat<128:=fun j b hj=>by
 unfold PX at h;rw[List.all_eq_true]at h;exact of_decide_eq_true (h b (List.mem_of_getElem? hj))
theorem RV(v:ByteArray)(n:Int)(w:World)(hL:ct w)(hv:v.size≤100000)(ha:PX v=true)(h0:0≤n)(h1:n≤255):
 CU 274 #[.string v,.int .u8 n] w (.string (nY v n)):=by
 have hf:Calls pG 303 #[.string v] w fun e w'=>e= .returned (.slice (some ⟨w.heap.size,0,none⟩) (Lib.fields v.data.toList).length (Lib.fields v.data.toList).length)∧w'=w.alloc (.cells ((Lib.fields v.data.toList).map fun l=>Value.string ⟨l.toArray⟩).toArray 9):=Any.strings_Fields_laid Tryz.PY v w oz (Wp ha) hL.asc
 unfold nY;obtain⟨L,hLL⟩:=ez (Lib.fields v.data.toList);rw[←hLL]at hf ⊢;have Hf:=lz hf;clear hf hLL ha hL;by_cases hlt:n<1
 ·have hr:F6 L n=⟨#[]⟩:=if_pos (.inl hlt)
  have Hr:=lz hr;have hd:decide (n<1)=true:=dT hlt;clear hr;go_enter Tryz.func274,Tryz.ntmps274;go_wp2_with (go_at_call 303;refine Hf.out.mono ?_;rintro e w' ⟨rfl,rfl⟩);go_ret;exact⟨by rw[Hr.out];rfl,bN⟩
 ·by_cases og:n>L.length
  ·have hr:F6 L n=⟨#[]⟩:=if_pos (.inr og)
   have Hr:=lz hr;have hd:decide (n<1)=false:=dF hlt;have hd2:decide (n>(L.length:Int))=true:=dT og;have hw:IntKind.i64.wrap n=n:=by unfold IntKind.wrap;simp[IntKind.bits];omega
   clear hr;go_enter Tryz.func274,Tryz.ntmps274;go_wp2_with (go_at_call 303;refine Hf.out.mono ?_;rintro e w' ⟨rfl,rfl⟩);go_ret;exact⟨by rw[Hr.out];rfl,bN⟩
  ·have hr:F6 L n=⟨(L.getD (n-1).toNat []).toArray⟩:=if_neg (by rintro(h | h)<;>omega)
   have Hr:=lz hr;have hd:decide (n<1)=false:=dF hlt;have hd2:decide (n>(L.length:Int))=false:=dF og;have hw:IntKind.i64.wrap n=n:=by unfold IntKind.wrap;simp[IntKind.bits];omega
   have hw8:IntKind.u8.wrap (n-1)=n-1:=by unfold IntKind.wrap;simp[IntKind.bits,IntKind.signed];omega
   have lX:0≤n-1:=by omega
   have Wq:n-1<(L.length:Int):=by omega
   have c0:(w.alloc (.cells (L.map fun l=>Value.string ⟨l.toArray⟩).toArray 9)).cell? ⟨w.heap.size,n.toNat-1,none⟩=some (.string (F6 L n)):=by
    rw[(ah.new w 9 _).cell,hr,show n.toNat-1=(n-1).toNat by omega];have ht:(n-1).toNat<L.length:=by omega
    simp only[List.getElem?_toArray,List.getElem?_map,List.getD_eq_getElem?_getD,List.getElem?_eq_getElem ht];rfl
   clear hr;go_enter Tryz.func274,Tryz.ntmps274;go_wp2_with (go_at_call 303;refine Hf.out.mono ?_;rintro e w' ⟨rfl,rfl⟩);go_ret;exact⟨rfl,bN⟩
theorem TM{L:List (List UInt8)}{m:Nat}(h:(L.all fun l=>decide (l.length≤m))=true)(n:Int):(F6 L n).size≤m:=by
 unfold F6;split
 ·exact Nat.zero_le _
 ·rename_i hn
  have ht:(n-1).toNat<L.length:=by omega
  rw[List.all_eq_true]at h;have:=of_decide_eq_true (h _ (List.getElem_mem ht));simp only[List.getD_eq_getElem?_getD,List.getElem?_eq_getElem ht,Option.getD_some];simpa [ByteArray.size]using this
theorem Wr{v:ByteArray}{m:Nat}(h:((Lib.fields v.data.toList).all fun l=>decide (l.length≤m))=true)(n:Int):(nY v n).size≤m:=TM h n
def xw:ByteArray:=⟨#[100,101,97,100,108,105,110,101,32,109,101,109,111,114,121,32,114,97,105,115,101,100,32,110,117,109,101,114,105,99,32,115,116,97,99,107,32,112,111,119,101,114,32,119,105,110,100,111,119]⟩
def xO:ByteArray:=⟨#[112,114,111,99,101,115,115,32,112,97,114,116,32,109,111,100,117,108,101]⟩
def oh:ByteArray:=⟨#[105,103,110,111,114,101,32,115,116,111,112,32,114,101,115,116,97,114,116,32,119,97,114,109,32,99,111,108,100,32,105,100,108,101,32,114,101,115,101,116,32,104,97,108,116]⟩
theorem aA3(n:Int)(w:World)(hL:ct w)(h0:0≤n)(h1:n≤255):CU 221 #[.int .u8 n] w (.string (nY xw n)):=by
 have Hc:=lz (RV xw n w hL dz kz h0 h1);go_enter Tryz.func221,Tryz.ntmps221;go_wp2_with (go_at_call 274;refine Hc.out.mono ?_;rintro e w' ⟨rfl,hb⟩);go_ret;exact⟨rfl,hb⟩
theorem aA4(n:Int)(w:World)(hL:ct w)(h0:0≤n)(h1:n≤255):CU 222 #[.int .u8 n] w (.string (nY xO n)):=by
 have Hc:=lz (RV xO n w hL dz kz h0 h1);go_enter Tryz.func222,Tryz.ntmps222;go_wp2_with (go_at_call 274;refine Hc.out.mono ?_;rintro e w' ⟨rfl,hb⟩);go_ret;exact⟨rfl,hb⟩
theorem Ws(n:Int)(w:World)(hL:ct w)(h0:0≤n)(h1:n≤255):CU 223 #[.int .u8 n] w (.string (nY oh n)):=by
 have Hc:=lz (RV oh n w hL dz kz h0 h1);go_enter Tryz.func223,Tryz.ntmps223;go_wp2_with (go_at_call 274;refine Hc.out.mono ?_;rintro e w' ⟨rfl,hb⟩);go_ret;exact⟨rfl,hb⟩
def TN:ByteArray:=⟨(([119,111,114,107,58,119,32,115,101,116,58,114,118,32,97,100,100,58,114,114,32,115,117,98,58,114,114,32,108,111,97,100,58,114,97,114,32,115,116,111,114,101,58,114,97,114,32,115].append [101,110,100,58,111,114,108,32,114,101,99,118,58,105,114,114,32,119,97,105,116,58,115,32,115,105,103,110,97,108,58,115,32,114,97,105,115,101,58,101,32,108,111,119,101,114,58,101]).append ([32,117,110,116,105,108,58,101,32,112,117,116,58,98,114,32,103,101,116,58,98,114,32,115,104,111,119,58,100,114,32,108,111,111,107,58,100,114,32,99,108,101,97,114,58,100,32,110].append [101,120,116,58,32,106,117,109,112,58,106,32,122,101,114,111,58,114,106,32,108,101,115,115,58,114,114,106,32,100,105,118,58,114,114,32,102,97,117,108,116,58,99,32,115,116,111,112,58])).toArray⟩
def xP(n:Int):ByteArray:=⟨(Lib.cut (nY TN n).data.toList [58]).1.toArray⟩
def mX(n:Int):ByteArray:=⟨(Lib.cut (nY TN n).data.toList [58]).2.1.toArray⟩
theorem uP(n:Int)(w:World)(hL:ct w)(h0:0≤n)(h1:n≤255):CU 240 #[.int .u8 n] w (.tuple #[.string (xP n),.string (mX n)]):=by
 have hc:=RV TN n w hL (of_decide_eq_true kz) kz h0 h1;have hz:(nY TN n).size<4294967281:=Nat.lt_of_le_of_lt (Wr (m:=10) kz n) dz;obtain⟨m,hm⟩:=hL.mx;have hx:=fun(W:World) (hb:Below w.heap.size w W)=>Any.strings_Cut Tryz.aA5 (nY TN n) ⟨#[58]⟩ m W hz ((hb.cell (p:=⟨_,0,none⟩) (World.block_lt_of_cell? w _ hm)).trans hm)
 have Hc:=lz hc;have Hx:=lz hx;clear hc hx hm;go_enter Tryz.func240,Tryz.ntmps240;go_wp2_with (first | (go_at_call 274;refine Hc.out.mono ?_;rintro e w1 ⟨rfl,hb⟩) | (go_at_call 285;refine(Hx.out _ hb).mono ?_;rintro e w2 ⟨rfl,k,rfl⟩));go_ret2;exact⟨rfl,aD hb⟩
def fH(n:Int):Bool:=decide (0≤n)&&decide (n≤1073741824)
def dJ(lo hi n:Int):Bool:=decide (lo≤n)&&decide (n≤hi)
theorem aEd(n:Int)(w:World):CU 264 #[.int .i64 n] w (.bool (!fH n)):=by
 by_cases h1:n<0
 ·have hr:fH n=false:=by unfold fH;rw[dF oz];rfl
  have d1:decide (n<0)=true:=dT h1;rw[hr];clear hr;go_enter Tryz.func264,Tryz.ntmps264;go_wp2;go_ret;exact⟨rfl,Below.refl _ _⟩
 ·have d1:decide (n<0)=false:=dF h1
  by_cases h2:n>1073741824
  ·have hr:fH n=false:=by unfold fH;rw[dF (p:=n≤1073741824) oz,Bool.and_false]
   have d2:decide (n>1073741824)=true:=dT h2;rw[hr];clear hr;go_enter Tryz.func264,Tryz.ntmps264;go_wp2;go_ret;exact⟨rfl,Below.refl _ _⟩
  ·have hr:fH n=true:=by unfold fH;rw[dT (p:=n≤1073741824) oz,dT (p:=0≤n) oz];rfl
   have d2:decide (n>1073741824)=false:=dF h2;rw[hr];clear hr;go_enter Tryz.func264,Tryz.ntmps264;go_wp2;go_ret;exact⟨rfl,Below.refl _ _⟩
theorem sS(l:List Int)(A:Option Addr)(c:Nat)(w:World)(h:fV w w.heap.size A l)(hl:l.length≤9223372036854775807):
 CU 209 #[.slice A l.length c] w (.bool (l.all fH)):=by
 have aZ:=sU 264 #[] (fun n=> !fH n) (enters_of Tryz.func264 kz rfl) l A c w (fun W r hr hW=>aEd r W) h hl;rw[cB]at aZ;have eP:=lz aZ;generalize l.all fH=q at *;clear aZ h;go_enter Tryz.func209,Tryz.ntmps209;go_wp2_with fail;refine eP.out.mono ?_;rintro e w1 ⟨rfl,aU⟩;go_wp2;go_ret;exact⟨by cases q<;>rfl,aU⟩
theorem aEe(lo hi n:Int)(B1 B2:Nat)(w:World)(b1:ah w B1 3 #[.int .i64 lo])(b2:ah w B2 3 #[.int .i64 hi]):CU 134 #[.int .i64 n,.pointer (some ⟨B1,0,none⟩),.pointer (some ⟨B2,0,none⟩)] w (.bool (!dJ lo hi n)):=by
 have c1:=b1.cell 0;have c2:=b2.cell 0;clear b1 b2;by_cases h1:n<lo
 ·have hr:dJ lo hi n=false:=by unfold dJ;rw[dF oz];rfl
  have d1:decide (n<lo)=true:=dT h1;rw[hr];clear hr;go_enter Tryz.func134,Tryz.ntmps134;go_wp2;go_ret;exact⟨rfl,Below.refl _ _⟩
 ·have d1:decide (n<lo)=false:=dF h1
  by_cases h2:n>hi
  ·have hr:dJ lo hi n=false:=by unfold dJ;rw[dF (p:=n≤hi) oz,Bool.and_false]
   have d2:decide (n>hi)=true:=dT h2;rw[hr];clear hr;go_enter Tryz.func134,Tryz.ntmps134;go_wp2;go_ret;exact⟨rfl,Below.refl _ _⟩
  ·have hr:dJ lo hi n=true:=by unfold dJ;rw[dT (p:=n≤hi) oz,dT (p:=lo≤n) oz];rfl
   have d2:decide (n>hi)=false:=dF h2;rw[hr];clear hr;go_enter Tryz.func134,Tryz.ntmps134;go_wp2;go_ret;exact⟨rfl,Below.refl _ _⟩
theorem lY(lo hi:Int)(l:List Int)(A:Option Addr)(c:Nat)(w:World)(h:fV w w.heap.size A l)(hl:l.length≤9223372036854775807):
 CU 53 #[.int .i64 lo,.int .i64 hi,.slice A l.length c] w (.bool (l.all (dJ lo hi))):=by
 obtain⟨w1,cN⟩:=ez ((w.alloc (.cells #[.int .i64 lo] 3)).alloc (.cells #[.int .i64 hi] 3));have bY:Below w.heap.size w w1:=by rw[cN];exact(bN).alloc qz _
 have b1:ah w1 w.heap.size 3 #[.int .i64 lo]:=by rw[cN];exact(ah.new w _ _).alloc _
 have b2:ah w1 (w.heap.size+1) 3 #[.int .i64 hi]:=by rw[cN];have:=ah.new (w.alloc (.cells #[.int .i64 lo] 3)) 3 #[.int .i64 hi];rwa[World.size_alloc]at this
 have aZ:=sU 134 #[.pointer (some ⟨w.heap.size,0,none⟩),.pointer (some ⟨w.heap.size+1,0,none⟩)] (fun n=> !dJ lo hi n) (enters_of Tryz.func134 kz rfl) l A c w1
  (fun W r hr hW=>aEe lo hi r _ _ W (b1.below hW b1.lt) (b2.below hW b2.lt)) (h.below bY) hl
 rw[cB]at aZ;have eP:=lz aZ;have cU:=lz bY;have lH:=lz cN;generalize l.all (dJ lo hi)=q at *;clear aZ h bY b1 b2 cN;go_enter Tryz.func53,Tryz.ntmps53;go_wp2_with fail;rw[←lH.out];refine eP.out.mono ?_;rintro e w2 ⟨rfl,dI⟩;have HB:=lz (cU.out.trans (dI.mono cU.out.size));clear dI;go_wp2;go_ret;exact⟨by cases q<;>rfl,HB.out⟩
theorem aA6(s:ByteArray)(w:World)(hL:ct w):CU 273 #[.string s] w (.bool (!dh s)):=by
 have Hw:=lz (om s w hL);generalize dh s=q at *;clear hL;go_enter Tryz.func273,Tryz.ntmps273;go_wp2_with fail;refine Hw.out.mono ?_;rintro e w1 ⟨rfl,aU⟩;go_wp2;go_ret;exact⟨rfl,aU⟩
theorem Kk(l:List ByteArray)(A:Option Addr)(c:Nat)(w:World)(hL:ct w)(h:iB w w.heap.size A l)(hl:l.length≤9223372036854775807):
 CU 217 #[.slice A l.length c] w (.bool (l.all dh)):=by
 have aZ:=uF 273 #[] (fun s=> !dh s) (enters_of Tryz.func273 kz rfl) l A c w (fun W r hr hW=>aA6 r W (hL.below hW)) h hl;rw[cB]at aZ;have eP:=lz aZ;generalize l.all dh=q at *;clear aZ h hL;go_enter Tryz.func217,Tryz.ntmps217;go_wp2_with fail;refine eP.out.mono ?_;rintro e w1 ⟨rfl,aU⟩;go_wp2;go_ret;exact⟨by cases q<;>rfl,aU⟩
theorem iZ{w:World}{B o:Nat}{l:List Int}(hB:B<w.heap.size)(h:∀i (hi:i<l.length),w.cell? ⟨B,o+i,none⟩=some (.int .i64 l[i])):fV w w.heap.size (some ⟨B,o,none⟩) l:=
 fun _=>⟨B,o,rfl,hB,h⟩
theorem RW(n:Int)(w:World):CU 280 (#[.int .i64 n]++ #[]) w (.bool (decide (n=0))):=by
 by_cases h:n=0
 ·subst h
  go_enter Tryz.func280,Tryz.ntmps280;go_wp2;go_ret;exact⟨rfl,Below.refl _ _⟩
 ·have d:(n==0)=false:=by simpa using h
  rw[dF h];go_enter Tryz.func280,Tryz.ntmps280;go_wp2;go_ret;exact⟨rfl,Below.refl _ _⟩
theorem Wt(g:Nat)(lb:Array Value)(eg:∀args w,(callFunc g args).run pG w= .ok (.enter g args) w)(Bx:Nat)(b:Bool)(x:Int)(W:World)(hb:ah W Bx 206 #[.func (.func g) #[] lb])
 (au:CU g (#[.int .i64 x]++lb) W (.bool b)):
 CU 304 #[.int .i64 x,.pointer (some ⟨Bx,0,none⟩)] W (.bool (!b)):=by
 have c0:=hb.cell 0;have Hc:=lz au;clear au hb;go_enter Tryz.func304,Tryz.ntmps304;go_wp2_with (go_at_fn g;refine Hc.out.mono ?_;rintro e w' ⟨rfl,hb'⟩);go_ret;exact⟨rfl,hb'⟩
theorem Na(g:Nat)(lb:Array Value)(p:Int→Bool)(eg:∀args w,(callFunc g args).run pG w= .ok (.enter g args) w)(l:List Int)(A:Option Addr)(c:Nat)(w:World)
 (hp:Kl g lb p l w) (h:fV w w.heap.size A l) (hl:l.length≤9223372036854775807):
 CU 279 #[.slice A l.length c,.func (.func g) #[] lb] w (.bool (l.all p)):=by
 have h1:=ah.new w 206 #[.func (.func g) #[] lb];have bY:Below w.heap.size w (w.alloc (.cells #[.func (.func g) #[] lb] 206)):=bN;have aZ:=sU 304 #[.pointer (some ⟨w.heap.size,0,none⟩)] (fun x=> !p x) (enters_of Tryz.func304 kz rfl) l A c (w.alloc (.cells #[.func (.func g) #[] lb] 206))
  (fun W x hx hW=>Wt g lb eg _ (p x) x W (h1.below hW h1.lt) (hp W x hx (bY.trans (hW.mono bY.size)))) (h.below bY) hl
 rw[cB]at aZ;have eP:=lz aZ;generalize l.all p=q at *;clear h1 bY aZ hp h;go_enter Tryz.func279,Tryz.ntmps279;go_wp2_with fail;refine eP.out.mono ?_;rintro e w1 ⟨rfl,aU⟩;have HB:=lz (((Below.refl _ w).alloc nL (.cells #[.func (.func g) #[] lb] 206)).trans (aU.mono qz));clear eP aU;go_wp2;go_ret;exact⟨by cases q<;>rfl,HB.out⟩
theorem vC(n:Int)(w:World)(hL:ct w)(h0:0≤n)(h1:n≤255):CU 277 #[.int .u8 n] w (.string (xP n)):=by
 have Hc:=lz (uP n w hL h0 h1);clear hL;go_enter Tryz.func277,Tryz.ntmps277;go_wp2_with (go_at_call 240;refine Hc.out.mono ?_;rintro e w' ⟨rfl,hb⟩);go_ret;exact⟨rfl,hb⟩
theorem oq(n:Int)(w:World)(hL:ct w)(h0:0≤n)(h1:n≤255):CU 167 #[.int .u8 n] w (.string (mX n)):=by
 have Hc:=lz (uP n w hL h0 h1);clear hL;go_enter Tryz.func167,Tryz.ntmps167;go_wp2_with (go_at_call 240;refine Hc.out.mono ?_;rintro e w' ⟨rfl,hb⟩);go_ret;exact⟨rfl,hb⟩
theorem Nb:(Lib.fields TN.data.toList).length=25:=by kernel_rfl
def aIP:List Nat:=(List.range 26).map fun(n:Nat)=>(mX (n:Int)).size
theorem Wu:(aIP.all fun k=>decide (k≤3))=true:=by kernel_rfl
theorem Nc{n:Int}(h:n<1∨n>25):mX n=⟨#[]⟩:=by
 unfold mX nY F6;rw[Nb,if_pos (show n<1∨n>((25:Nat):Int)from h)];rfl
theorem qE(n:Int):(mX n).size≤3:=by
 by_cases h:n<1∨n>25
 ·rw[Nc h];decide
 ·have hn:n.toNat<26:=by omega
  have h1:=List.all_eq_true.1 Wu (mX n.toNat).size (List.mem_map.2 ⟨n.toNat,List.mem_range.2 hn,rfl⟩);rw[Int.toNat_of_nonneg oz]at h1;exact of_decide_eq_true h1
theorem Cl:pK bT.val 207 139:=by
 intro g lb eg Bx b x W hb au;go_enter Tryz.func207,Tryz.ntmps207;exact pI
theorem Nd:jF 117 qX dK:=by
 intro g lb p eg l A c w hp h hl;obtain⟨h1,bY⟩:=fF w 139 #[.func (.func g) #[] lb];have aZ:=rW 207 #[.pointer (some ⟨w.heap.size,0,none⟩)] (fun x=> !p x) (enters_of Tryz.func207 kz rfl) l A c _ (fun W x hx hW fK=>Cl g lb eg _ (p x) x W (h1.below hW h1.lt) fun W' hW'=>hp W' x hx (Fx bY hW hW') (fK.below hW')) (h.below bY) hl;rw[cB]at aZ;go_enter Tryz.func117,Tryz.ntmps117;exact pJ
theorem zy:pK gq.val 213 204:=by
 intro g lb eg Bx b x W hb au;go_enter Tryz.func213,Tryz.ntmps213;exact pI
theorem Km:jF 119 sR dY:=by
 intro g lb p eg l A c w hp h hl;obtain⟨h1,bY⟩:=fF w 204 #[.func (.func g) #[] lb];have aZ:=zl 213 #[.pointer (some ⟨w.heap.size,0,none⟩)] (fun x=> !p x) (enters_of Tryz.func213 kz rfl) l A c _ (fun W x hx hW fK=>zy g lb eg _ (p x) x W (h1.below hW h1.lt) fun W' hW'=>hp W' x hx (Fx bY hW hW') (fK.below hW')) (h.below bY) hl;rw[cB]at aZ;go_enter Tryz.func119,Tryz.ntmps119;exact pJ
theorem Cm:pK iI.val 215 140:=by
 intro g lb eg Bx b x W hb au;go_enter Tryz.func215,Tryz.ntmps215;exact pI
theorem Nf:jF 121 qY dL:=by
 intro g lb p eg l A c w hp h hl;obtain⟨h1,bY⟩:=fF w 140 #[.func (.func g) #[] lb];have aZ:=rX 215 #[.pointer (some ⟨w.heap.size,0,none⟩)] (fun x=> !p x) (enters_of Tryz.func215 kz rfl) l A c _ (fun W x hx hW=>Cm g lb eg _ (p x) x W (h1.below hW h1.lt) fun W' hW'=>hp W' x hx (Fx bY hW hW')) (h.below bY) hl;rw[cB]at aZ;go_enter Tryz.func121,Tryz.ntmps121;exact pJ
theorem F7:pK aO.val 216 141:=by
 intro g lb eg Bx b x W hb au;go_enter Tryz.func216,Tryz.ntmps216;exact pI
theorem TP:jF 123 xu fZ:=by
 intro g lb p eg l A c w hp h hl;obtain⟨h1,bY⟩:=fF w 141 #[.func (.func g) #[] lb];have aZ:=uO 216 #[.pointer (some ⟨w.heap.size,0,none⟩)] (fun x=> !p x) (enters_of Tryz.func216 kz rfl) l A c _ (fun W x hx hW=>F7 g lb eg _ (p x) x W (h1.below hW h1.lt) fun W' hW'=>hp W' x hx (Fx bY hW hW')) (h.below bY) hl;rw[cB]at aZ;go_enter Tryz.func123,Tryz.ntmps123;exact pJ
theorem Ng:pK fU.val 218 179:=by
 intro g lb eg Bx b x W hb au;go_enter Tryz.func218,Tryz.ntmps218;exact pI
theorem aA7:jF 125 J9 mV:=by
 intro g lb p eg l A c w hp h hl;obtain⟨h1,bY⟩:=fF w 179 #[.func (.func g) #[] lb];have aZ:=AJ 218 #[.pointer (some ⟨w.heap.size,0,none⟩)] (fun x=> !p x) (enters_of Tryz.func218 kz rfl) l A c _ (fun W x hx hW fK=>Ng g lb eg _ (p x) x W (h1.below hW h1.lt) fun W' hW'=>hp W' x hx (Fx bY hW hW') (fK.below hW')) (h.below bY) hl;rw[cB]at aZ;go_enter Tryz.func125,Tryz.ntmps125;exact pJ
theorem Cn:pK iK.val 219 181:=by
 intro g lb eg Bx b x W hb au;go_enter Tryz.func219,Tryz.ntmps219;exact pI
theorem Nh:jF 127 qZ fA:=by
 intro g lb p eg l A c w hp h hl;obtain⟨h1,bY⟩:=fF w 181 #[.func (.func g) #[] lb];have aZ:=rY 219 #[.pointer (some ⟨w.heap.size,0,none⟩)] (fun x=> !p x) (enters_of Tryz.func219 kz rfl) l A c _ (fun W x hx hW fK=>Cn g lb eg _ (p x) x W (h1.below hW h1.lt) fun W' hW'=>hp W' x hx (Fx bY hW hW') (fK.below hW')) (h.below bY) hl;rw[cB]at aZ;go_enter Tryz.func127,Tryz.ntmps127;exact pJ
theorem zD:pK lF.val 227 182:=by
 intro g lb eg Bx b x W hb au;go_enter Tryz.func227,Tryz.ntmps227;exact pI
theorem Kn:jF 131 pS dS:=by
 intro g lb p eg l A c w hp h hl;obtain⟨h1,bY⟩:=fF w 182 #[.func (.func g) #[] lb];have aZ:=qC 227 #[.pointer (some ⟨w.heap.size,0,none⟩)] (fun x=> !p x) (enters_of Tryz.func227 kz rfl) l A c _ (fun W x hx hW=>zD g lb eg _ (p x) x W (h1.below hW h1.lt) fun W' hW'=>hp W' x hx (Fx bY hW hW')) (h.below bY) hl;rw[cB]at aZ;go_enter Tryz.func131,Tryz.ntmps131;exact pJ
theorem F8:pK aC.val 265 137:=by
 intro g lb eg Bx b x W hb au;go_enter Tryz.func265,Tryz.ntmps265;exact pI
theorem TQ:jF 210 xg fW:=by
 intro g lb p eg l A c w hp h hl;obtain⟨h1,bY⟩:=fF w 137 #[.func (.func g) #[] lb];have aZ:=uN 265 #[.pointer (some ⟨w.heap.size,0,none⟩)] (fun x=> !p x) (enters_of Tryz.func265 kz rfl) l A c _ (fun W x hx hW fK=>F8 g lb eg _ (p x) x W (h1.below hW h1.lt) fun W' hW'=>hp W' x hx (Fx bY hW hW') (fK.below hW')) (h.below bY) hl;rw[cB]at aZ;go_enter Tryz.func210,Tryz.ntmps210;exact pJ
theorem Ko:pK gu.val 276 171:=by
 intro g lb eg Bx b x W hb au;go_enter Tryz.func276,Tryz.ntmps276;exact pI
theorem Ni:jF 235 CK ku:=by
 intro g lb p eg l A c w hp h hl;obtain⟨h1,bY⟩:=fF w 171 #[.func (.func g) #[] lb];have aZ:=wX 276 #[.pointer (some ⟨w.heap.size,0,none⟩)] (fun x=> !p x) (enters_of Tryz.func276 kz rfl) l A c _ (fun W x hx hW fK=>Ko g lb eg _ (p x) x W (h1.below hW h1.lt) fun W' hW'=>hp W' x hx (Fx bY hW hW') (fK.below hW')) (h.below bY) hl;rw[cB]at aZ;go_enter Tryz.func235,Tryz.ntmps235;exact pJ
theorem F9:pK aM.val 299 133:=by
 intro g lb eg Bx b x W hb au;go_enter Tryz.func299,Tryz.ntmps299;exact pI
theorem TR:jF 266 wY fu:=by
 intro g lb p eg l A c w hp h hl;obtain⟨h1,bY⟩:=fF w 133 #[.func (.func g) #[] lb];have aZ:=uL 299 #[.pointer (some ⟨w.heap.size,0,none⟩)] (fun x=> !p x) (enters_of Tryz.func299 kz rfl) l A c _ (fun W x hx hW fK=>F9 g lb eg _ (p x) x W (h1.below hW h1.lt) fun W' hW'=>hp W' x hx (Fx bY hW hW') (fK.below hW')) (h.below bY) hl;rw[cB]at aZ;go_enter Tryz.func266,Tryz.ntmps266;exact pJ
theorem Ga:pK cT.val 300 134:=by
 intro g lb eg Bx b x W hb au;go_enter Tryz.func300,Tryz.ntmps300;exact pI
theorem TT:jF 268 wZ gI:=by
 intro g lb p eg l A c w hp h hl;obtain⟨h1,bY⟩:=fF w 134 #[.func (.func g) #[] lb];have aZ:=uM 300 #[.pointer (some ⟨w.heap.size,0,none⟩)] (fun x=> !p x) (enters_of Tryz.func300 kz rfl) l A c _ (fun W x hx hW fK=>Ga g lb eg _ (p x) x W (h1.below hW h1.lt) fun W' hW'=>hp W' x hx (Fx bY hW hW') (fK.below hW')) (h.below bY) hl;rw[cB]at aZ;go_enter Tryz.func268,Tryz.ntmps268;exact pJ
theorem Kq:pK bw.val 302 292:=by
 intro g lb eg Bx b x W hb au;go_enter Tryz.func302,Tryz.ntmps302;exact pI
theorem Wv:jF 272 J7 jo:=by
 intro g lb p eg l A c w hp h hl;obtain⟨h1,bY⟩:=fF w 292 #[.func (.func g) #[] lb];have aZ:=J8 302 #[.pointer (some ⟨w.heap.size,0,none⟩)] (fun x=> !p x) (enters_of Tryz.func302 kz rfl) l A c _ (fun W x hx hW=>Kq g lb eg _ (p x) x W (h1.below hW h1.lt) fun W' hW'=>hp W' x hx (Fx bY hW hW')) (h.below bY) hl;rw[cB]at aZ;go_enter Tryz.func272,Tryz.ntmps272;exact pJ
end
end Go.Proofs.YtmdgooofdmpcjaaGreatDoor
