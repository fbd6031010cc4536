import Derived.Test.YtchfcgilpjkmhaaGreatDoorY17
import Derived.Test.YtchfcgilpjkmhaaGreatDoorY18
import Derived.Test.YtchfcgilpjkmhaaGreatDoorY0
set_option maxRecDepth 100000
set_option linter.unusedSimpArgs false
set_option linter.unusedVariables false
set_option linter.unusedSectionVars false
namespace Go.Proofs.YtchfcgilpjkmhaaGreatDoor
open Go.ChangeShapes Go.WideShapes Go.ChangeAt Go.RowKit
attribute [local go_sem] Oper.semAt_some
theorem gr_cell{X:Nat→Prop}{w w':World}{B:Nat}(h:Gr X w w')(hB:B≤w.heap.size)(hX:∀k,X k→B≤k):∀b o,b<B→w'.cell? ⟨b,o,none⟩=w.cell? ⟨b,o,none⟩:=fun b o hb=>
 World.cell?_of_block (h.block b (Nat.lt_of_lt_of_le hb hB) fun hx=>absurd (hX b hx) (by omega))
def PredSt{α:Type}(vl:α→Value)(X:Nat→Prop)(g:Nat)(lb:Array Value)(q:Nat→Bool)(l:List α)(R:α→World→Prop)(J:Nat→World→Prop):Prop:=
 ∀k (hk:k<l.length) W,J k W→R l[k] W→Calls Tryz.prog g (#[vl l[k]]++lb) W fun e w'=>e= .returned (.bool (q k))∧J (k+1) w'∧Gr X W w'
theorem idxR_hit{q:Nat→Bool}{n k:Nat}(hk:k<n)(hq:q k=true)(h:∀j,j<n→j<k→q j=false):idxI q (List.range n)=k:=
 idxI_hit (by simpa using hk) (by simpa using hq) (fun j hj hjk=>by simpa using h j (by simpa using hj) hjk)
theorem idxR_miss{q:Nat→Bool}{n:Nat}(h:∀j,j<n→q j=false):idxI q (List.range n)= -1:=
 idxI_miss fun j hj=>by simpa using h j (by simpa using hj)
theorem succ_no{q:Nat→Bool}{n k:Nat}(h:∀j,j<n→j<k→q j=false)(hq:q k=false):∀j,j<n→j<k+1→q j=false:=fun j hj hk=>by
 by_cases e:j=k
 ·subst e;exact hq
 ·exact h j hj (by omega)
theorem indexS_Part(g:Nat)(lb:Array Value)(q:Nat→Bool)(J:Nat→World→Prop)(X:Nat→Prop)(B:Nat)(eg:∀args w,(callFunc g args).run Tryz.prog w= .ok (.enter g args) w)(l:List PartV)(A:Option Addr)(c:Nat)(w:World)
 (hp:PredSt PartV.val X g lb q l (fun x W=>x.rd W B) J) (h0:J 0 w) (h:RdPart w B A l) (hB0:B≤w.heap.size) (hX:∀k,X k→B≤k) (hl:l.length≤9223372036854775807):
 Calls Tryz.prog 226 #[.slice A l.length c,.func (.func g) #[] lb] w fun e w'=>e= .returned (.int .i64 (idxI q (List.range l.length)))∧Gr X w w'∧∃k,J k w':=by
 go_enter Tryz.func226,Tryz.ntmps226;go_wp2;go_loopw [5,8] (fun _ i wr=>∃k:Nat,k≤l.length∧i= .int .i64 k∧Gr X w wr∧J k wr∧Hid (∀j,j<l.length→j<k→q j=false)) (fun _ i _=>l.length-(intOf i).toNat)
 case atStart=>exact⟨0,Nat.zero_le _,rfl,Gr.refl _ _,h0,fun j _ h=>absurd h (by omega)⟩
 case round=>
  clear h0;obtain⟨k,hk,rfl,hB,hJ,hall⟩:=hrel;have HG:=lz hB;by_cases hlt:k<l.length
  ·have hh:=h.to_ (Nat.le_refl _) (gr_cell hB hB0 hX)
   obtain⟨b,o,rfl,hb,hc⟩:=hh (by omega);have hck:=hc k hlt;have hcall:=hp k hlt wr hJ (hck.2.2.2.2.2.2.2.2.2.2);have hs:=hB.size;have hJk:=lz (show∃k,J (k+1) wr∨True from⟨0,.inr trivial⟩);clear hc hp h hh hJ hB;have hfin:q k=true→idxI q (List.range l.length)=k:=fun hq=>idxR_hit hlt hq hall.out
   have hnext:q k=false→∀j,j<l.length→j<k+1→q j=false:=fun hq=>succ_no hall.out hq
   have Hfin:=lz hfin;have Hnext:=lz hnext;clear hfin hnext hall;generalize l[k]=r at hck hcall;obtain⟨c0,c1,c2,c3,c4,c5,c6,c7,c8,c9,_⟩:=hck;have Hcall:=lz hcall;clear hcall
   cases hq:q k with
   | true=>
    have hfin:=lz (Hfin.out hq);rw[hq]at Hcall;clear Hfin Hnext hq;go_wp2_with (go_at_fn g;refine Hcall.out.mono ?_;rintro e w' ⟨rfl,hj',hb'⟩);go_ret;exact⟨ret_int hfin.out.symm,HG.out.trans hb',⟨_,hj'⟩⟩
   | false=>
    have hnext:=lz (Hnext.out hq);rw[hq]at Hcall;clear Hfin Hnext hq;go_wp2_with (go_at_fn g;refine Hcall.out.mono ?_;rintro e w' ⟨rfl,hj',hb'⟩);go_roundw
    case rel=>exact⟨k+1,by omega,by go_num,HG.out.trans hb',hj',hnext⟩
    case measure=>simp[intOf];omega
  ·go_wp2
   go_ret;exact⟨ret_int (idxR_miss fun j hj=>hall.out j hj (by omega)).symm,HG.out,⟨_,hJ⟩⟩
theorem containsS_Part(g:Nat)(lb:Array Value)(q:Nat→Bool)(J:Nat→World→Prop)(X:Nat→Prop)(B:Nat)(eg:∀args w,(callFunc g args).run Tryz.prog w= .ok (.enter g args) w)(l:List PartV)(A:Option Addr)(c:Nat)(w:World)
 (hp:PredSt PartV.val X g lb q l (fun x W=>x.rd W B) J) (h0:J 0 w) (h:RdPart w B A l) (hB0:B≤w.heap.size) (hX:∀k,X k→B≤k) (hl:l.length≤9223372036854775807):
 Calls Tryz.prog 141 #[.slice A l.length c,.func (.func g) #[] lb] w fun e w'=>e= .returned (.bool ((List.range l.length).any q))∧Gr X w w'∧∃k,J k w':=by
 have hI:=indexS_Part g lb q J X B eg l A c w hp h0 h hB0 hX hl;rw[←idxI_ge];generalize idxI q (List.range l.length)=r at hI ⊢;clear h hp h0;go_enter Tryz.func141,Tryz.ntmps141;go_wp2_with fail;refine hI.mono ?_;rintro e w1 ⟨rfl,hb1⟩;clear hI;go_wp2;go_ret;exact⟨rfl,hb1⟩
theorem notS_Part(g:Nat)(lb:Array Value)(eg:∀args w,(callFunc g args).run Tryz.prog w= .ok (.enter g args) w)(Bx:Nat)(b:Bool)(x:PartV)(W:World)(X:Nat→Prop)(J':World→Prop)(hb:Blk W Bx 133 #[.func (.func g) #[] lb])
 (hcall:Calls Tryz.prog g (#[x.val]++lb) (W.alloc (.cells #[.string x.nm,.int .i64 x.pe,.int .i64 x.le,.int .i64 x.mem,.slice x.semas.a x.semas.l.length x.semas.c,.int .i64 x.ev,.int .i64 x.bo,.slice x.bufs.a x.bufs.l.length x.bufs.c,.slice x.ports.a x.ports.l.length x.ports.c,.slice x.procs.a x.procs.l.length x.procs.c] 75)) fun e w'=>e= .returned (.bool b)∧J' w'∧Gr X (W.alloc (.cells #[.string x.nm,.int .i64 x.pe,.int .i64 x.le,.int .i64 x.mem,.slice x.semas.a x.semas.l.length x.semas.c,.int .i64 x.ev,.int .i64 x.bo,.slice x.bufs.a x.bufs.l.length x.bufs.c,.slice x.ports.a x.ports.l.length x.ports.c,.slice x.procs.a x.procs.l.length x.procs.c] 75)) w'):
 Calls Tryz.prog 142 #[x.val,.pointer (some ⟨Bx,0,none⟩)] W fun e w'=>e= .returned (.bool (!b))∧J' w'∧Gr X W w':=by
 have hc:=hcall;have c0:(W.alloc (.cells #[.string x.nm,.int .i64 x.pe,.int .i64 x.le,.int .i64 x.mem,.slice x.semas.a x.semas.l.length x.semas.c,.int .i64 x.ev,.int .i64 x.bo,.slice x.bufs.a x.bufs.l.length x.bufs.c,.slice x.ports.a x.ports.l.length x.ports.c,.slice x.procs.a x.procs.l.length x.procs.c] 75)).cell? ⟨Bx,0,none⟩=some (.func (.func g) #[] lb):=(hb.alloc _).cell 0;dsimp only[PartV.val]at hc;have Hc:=lz hc;have hlt:=hb.lt;clear hcall hb hc;go_enter Tryz.func142,Tryz.ntmps142;go_wp2_with (go_at_fn g;refine Hc.out.mono ?_;rintro e w' ⟨rfl,hj',hb'⟩);go_ret;exact⟨rfl,hj',(Gr.alloc X W _).trans hb'⟩
theorem callS_Part(g:Nat)(lb:Array Value)(q:Nat→Bool)(J:Nat→World→Prop)(X:Nat→Prop)(B:Nat)(eg:∀args w,(callFunc g args).run Tryz.prog w= .ok (.enter g args) w)(l:List PartV)(A:Option Addr)(c:Nat)(w:World)
 (hp:PredSt PartV.val X g lb q l (fun x W=>x.rd W B) J) (hJa:∀k W o,J k W→J k (W.alloc o)) (h0:J 0 w) (h:RdPart w B A l) (hB0:B≤w.heap.size) (hX:∀k,X k→B≤k∧k<w.heap.size) (hl:l.length≤9223372036854775807):
 Calls Tryz.prog 54 #[.slice A l.length c,.func (.func g) #[] lb] w fun e w'=>e= .returned (.bool ((List.range l.length).all q))∧Gr X w w'∧∃k,J k w':=by
 have h1:=Blk.new w 133 #[.func (.func g) #[] lb];have hcon:=containsS_Part 142 #[.pointer (some ⟨w.heap.size,0,none⟩)] (fun k=> !q k) (fun k W=>J k W∧Blk W w.heap.size 133 #[.func (.func g) #[] lb]) X B (enters_of Tryz.func142 kz rfl) l A c (w.alloc (.cells #[.func (.func g) #[] lb] 133))
  (fun k hk W hJ hr=>(notS_Part g lb eg w.heap.size (q k) l[k] W X (J (k+1)) hJ.2 (hp k hk _ (hJa _ _ _ hJ.1) (hr.to_ (Nat.le_refl _) fun b o hb=>World.cell?_alloc_lt W _ ⟨b,o,none⟩ (by have:=hJ.2.lt;simp only;omega)))).mono fun e w' ⟨e1,e2,e3⟩=>⟨e1,⟨e2,e3.blk hJ.2 fun hx=>absurd (hX _ hx).2 (by omega)⟩,e3⟩)
  ⟨hJa _ _ _ h0,h1⟩ (h.to_ (Nat.le_refl _) fun b o hb=>World.cell?_alloc_lt w _ ⟨b,o,none⟩ (by simp only;omega)) (by simp;omega) (fun k hk=>(hX k hk).1) hl
 rw[any_not]at hcon;have Hcon:=lz hcon;generalize (List.range l.length).all q=r at *;clear h1 hcon hp h hX hJa h0;go_enter Tryz.func54,Tryz.ntmps54;go_wp2_with fail;refine Hcon.out.mono ?_;rintro e w1 ⟨rfl,hg1,k,hj1,_⟩;have HG:=lz ((Gr.alloc X w (.cells #[.func (.func g) #[] lb] 133)).trans hg1);have HJ:=lz hj1;clear Hcon hg1 hj1;go_wp2;go_ret;exact⟨by cases r<;>rfl,HG.out,⟨k,HJ.out⟩⟩
theorem indexS_Port(g:Nat)(lb:Array Value)(q:Nat→Bool)(J:Nat→World→Prop)(X:Nat→Prop)(B:Nat)(eg:∀args w,(callFunc g args).run Tryz.prog w= .ok (.enter g args) w)(l:List PortV)(A:Option Addr)(c:Nat)(w:World)
 (hp:PredSt PortV.val X g lb q l (fun x W=>x.rd W B) J) (h0:J 0 w) (h:RdPort w B A l) (hB0:B≤w.heap.size) (hX:∀k,X k→B≤k) (hl:l.length≤9223372036854775807):
 Calls Tryz.prog 224 #[.slice A l.length c,.func (.func g) #[] lb] w fun e w'=>e= .returned (.int .i64 (idxI q (List.range l.length)))∧Gr X w w'∧∃k,J k w':=by
 go_enter Tryz.func224,Tryz.ntmps224;go_wp2;go_loopw [5,8] (fun _ i wr=>∃k:Nat,k≤l.length∧i= .int .i64 k∧Gr X w wr∧J k wr∧Hid (∀j,j<l.length→j<k→q j=false)) (fun _ i _=>l.length-(intOf i).toNat)
 case atStart=>exact⟨0,Nat.zero_le _,rfl,Gr.refl _ _,h0,fun j _ h=>absurd h (by omega)⟩
 case round=>
  clear h0;obtain⟨k,hk,rfl,hB,hJ,hall⟩:=hrel;have HG:=lz hB;by_cases hlt:k<l.length
  ·have hh:=h.to_ (Nat.le_refl _) (gr_cell hB hB0 hX)
   obtain⟨b,o,rfl,hb,hc⟩:=hh (by omega);have hck:=hc k hlt;have hcall:=hp k hlt wr hJ (hck.2.2.2.2.2.2);have hs:=hB.size;have hJk:=lz (show∃k,J (k+1) wr∨True from⟨0,.inr trivial⟩);clear hc hp h hh hJ hB;have hfin:q k=true→idxI q (List.range l.length)=k:=fun hq=>idxR_hit hlt hq hall.out
   have hnext:q k=false→∀j,j<l.length→j<k+1→q j=false:=fun hq=>succ_no hall.out hq
   have Hfin:=lz hfin;have Hnext:=lz hnext;clear hfin hnext hall;generalize l[k]=r at hck hcall;obtain⟨c0,c1,c2,c3,c4,c5,_⟩:=hck;have Hcall:=lz hcall;clear hcall
   cases hq:q k with
   | true=>
    have hfin:=lz (Hfin.out hq);rw[hq]at Hcall;clear Hfin Hnext hq;go_wp2_with (go_at_fn g;refine Hcall.out.mono ?_;rintro e w' ⟨rfl,hj',hb'⟩);go_ret;exact⟨ret_int hfin.out.symm,HG.out.trans hb',⟨_,hj'⟩⟩
   | false=>
    have hnext:=lz (Hnext.out hq);rw[hq]at Hcall;clear Hfin Hnext hq;go_wp2_with (go_at_fn g;refine Hcall.out.mono ?_;rintro e w' ⟨rfl,hj',hb'⟩);go_roundw
    case rel=>exact⟨k+1,by omega,by go_num,HG.out.trans hb',hj',hnext⟩
    case measure=>simp[intOf];omega
  ·go_wp2
   go_ret;exact⟨ret_int (idxR_miss fun j hj=>hall.out j hj (by omega)).symm,HG.out,⟨_,hJ⟩⟩
theorem containsS_Port(g:Nat)(lb:Array Value)(q:Nat→Bool)(J:Nat→World→Prop)(X:Nat→Prop)(B:Nat)(eg:∀args w,(callFunc g args).run Tryz.prog w= .ok (.enter g args) w)(l:List PortV)(A:Option Addr)(c:Nat)(w:World)
 (hp:PredSt PortV.val X g lb q l (fun x W=>x.rd W B) J) (h0:J 0 w) (h:RdPort w B A l) (hB0:B≤w.heap.size) (hX:∀k,X k→B≤k) (hl:l.length≤9223372036854775807):
 Calls Tryz.prog 137 #[.slice A l.length c,.func (.func g) #[] lb] w fun e w'=>e= .returned (.bool ((List.range l.length).any q))∧Gr X w w'∧∃k,J k w':=by
 have hI:=indexS_Port g lb q J X B eg l A c w hp h0 h hB0 hX hl;rw[←idxI_ge];generalize idxI q (List.range l.length)=r at hI ⊢;clear h hp h0;go_enter Tryz.func137,Tryz.ntmps137;go_wp2_with fail;refine hI.mono ?_;rintro e w1 ⟨rfl,hb1⟩;clear hI;go_wp2;go_ret;exact⟨rfl,hb1⟩
theorem notS_Port(g:Nat)(lb:Array Value)(eg:∀args w,(callFunc g args).run Tryz.prog w= .ok (.enter g args) w)(Bx:Nat)(b:Bool)(x:PortV)(W:World)(X:Nat→Prop)(J':World→Prop)(hb:Blk W Bx 129 #[.func (.func g) #[] lb])
 (hcall:Calls Tryz.prog g (#[x.val]++lb) (W.alloc (.cells #[.string x.nm,.int .u8 x.kd,.bool x.out,.int .i64 x.sz,.int .i64 x.dp,.int .i64 x.rf] 77)) fun e w'=>e= .returned (.bool b)∧J' w'∧Gr X (W.alloc (.cells #[.string x.nm,.int .u8 x.kd,.bool x.out,.int .i64 x.sz,.int .i64 x.dp,.int .i64 x.rf] 77)) w'):
 Calls Tryz.prog 138 #[x.val,.pointer (some ⟨Bx,0,none⟩)] W fun e w'=>e= .returned (.bool (!b))∧J' w'∧Gr X W w':=by
 have hc:=hcall;have c0:(W.alloc (.cells #[.string x.nm,.int .u8 x.kd,.bool x.out,.int .i64 x.sz,.int .i64 x.dp,.int .i64 x.rf] 77)).cell? ⟨Bx,0,none⟩=some (.func (.func g) #[] lb):=(hb.alloc _).cell 0;dsimp only[PortV.val]at hc;have Hc:=lz hc;have hlt:=hb.lt;clear hcall hb hc;go_enter Tryz.func138,Tryz.ntmps138;go_wp2_with (go_at_fn g;refine Hc.out.mono ?_;rintro e w' ⟨rfl,hj',hb'⟩);go_ret;exact⟨rfl,hj',(Gr.alloc X W _).trans hb'⟩
theorem callS_Port(g:Nat)(lb:Array Value)(q:Nat→Bool)(J:Nat→World→Prop)(X:Nat→Prop)(B:Nat)(eg:∀args w,(callFunc g args).run Tryz.prog w= .ok (.enter g args) w)(l:List PortV)(A:Option Addr)(c:Nat)(w:World)
 (hp:PredSt PortV.val X g lb q l (fun x W=>x.rd W B) J) (hJa:∀k W o,J k W→J k (W.alloc o)) (h0:J 0 w) (h:RdPort w B A l) (hB0:B≤w.heap.size) (hX:∀k,X k→B≤k∧k<w.heap.size) (hl:l.length≤9223372036854775807):
 Calls Tryz.prog 51 #[.slice A l.length c,.func (.func g) #[] lb] w fun e w'=>e= .returned (.bool ((List.range l.length).all q))∧Gr X w w'∧∃k,J k w':=by
 have h1:=Blk.new w 129 #[.func (.func g) #[] lb];have hcon:=containsS_Port 138 #[.pointer (some ⟨w.heap.size,0,none⟩)] (fun k=> !q k) (fun k W=>J k W∧Blk W w.heap.size 129 #[.func (.func g) #[] lb]) X B (enters_of Tryz.func138 kz rfl) l A c (w.alloc (.cells #[.func (.func g) #[] lb] 129))
  (fun k hk W hJ hr=>(notS_Port g lb eg w.heap.size (q k) l[k] W X (J (k+1)) hJ.2 (hp k hk _ (hJa _ _ _ hJ.1) (hr.to_ (Nat.le_refl _) fun b o hb=>World.cell?_alloc_lt W _ ⟨b,o,none⟩ (by have:=hJ.2.lt;simp only;omega)))).mono fun e w' ⟨e1,e2,e3⟩=>⟨e1,⟨e2,e3.blk hJ.2 fun hx=>absurd (hX _ hx).2 (by omega)⟩,e3⟩)
  ⟨hJa _ _ _ h0,h1⟩ (h.to_ (Nat.le_refl _) fun b o hb=>World.cell?_alloc_lt w _ ⟨b,o,none⟩ (by simp only;omega)) (by simp;omega) (fun k hk=>(hX k hk).1) hl
 rw[any_not]at hcon;have Hcon:=lz hcon;generalize (List.range l.length).all q=r at *;clear h1 hcon hp h hX hJa h0;go_enter Tryz.func51,Tryz.ntmps51;go_wp2_with fail;refine Hcon.out.mono ?_;rintro e w1 ⟨rfl,hg1,k,hj1,_⟩;have HG:=lz ((Gr.alloc X w (.cells #[.func (.func g) #[] lb] 129)).trans hg1);have HJ:=lz hj1;clear Hcon hg1 hj1;go_wp2;go_ret;exact⟨by cases r<;>rfl,HG.out,⟨k,HJ.out⟩⟩
theorem indexS_Proc(g:Nat)(lb:Array Value)(q:Nat→Bool)(J:Nat→World→Prop)(X:Nat→Prop)(B:Nat)(eg:∀args w,(callFunc g args).run Tryz.prog w= .ok (.enter g args) w)(l:List ProcV)(A:Option Addr)(c:Nat)(w:World)
 (hp:PredSt ProcV.val X g lb q l (fun x W=>x.rd W B) J) (h0:J 0 w) (h:RdProc w B A l) (hB0:B≤w.heap.size) (hX:∀k,X k→B≤k) (hl:l.length≤9223372036854775807):
 Calls Tryz.prog 225 #[.slice A l.length c,.func (.func g) #[] lb] w fun e w'=>e= .returned (.int .i64 (idxI q (List.range l.length)))∧Gr X w w'∧∃k,J k w':=by
 go_enter Tryz.func225,Tryz.ntmps225;go_wp2;go_loopw [5,8] (fun _ i wr=>∃k:Nat,k≤l.length∧i= .int .i64 k∧Gr X w wr∧J k wr∧Hid (∀j,j<l.length→j<k→q j=false)) (fun _ i _=>l.length-(intOf i).toNat)
 case atStart=>exact⟨0,Nat.zero_le _,rfl,Gr.refl _ _,h0,fun j _ h=>absurd h (by omega)⟩
 case round=>
  clear h0;obtain⟨k,hk,rfl,hB,hJ,hall⟩:=hrel;have HG:=lz hB;by_cases hlt:k<l.length
  ·have hh:=h.to_ (Nat.le_refl _) (gr_cell hB hB0 hX)
   obtain⟨b,o,rfl,hb,hc⟩:=hh (by omega);have hck:=hc k hlt;have hcall:=hp k hlt wr hJ (hck.2.2.2.2.2);have hs:=hB.size;have hJk:=lz (show∃k,J (k+1) wr∨True from⟨0,.inr trivial⟩);clear hc hp h hh hJ hB;have hfin:q k=true→idxI q (List.range l.length)=k:=fun hq=>idxR_hit hlt hq hall.out
   have hnext:q k=false→∀j,j<l.length→j<k+1→q j=false:=fun hq=>succ_no hall.out hq
   have Hfin:=lz hfin;have Hnext:=lz hnext;clear hfin hnext hall;generalize l[k]=r at hck hcall;obtain⟨c0,c1,c2,c3,c4,_⟩:=hck;have Hcall:=lz hcall;clear hcall
   cases hq:q k with
   | true=>
    have hfin:=lz (Hfin.out hq);rw[hq]at Hcall;clear Hfin Hnext hq;go_wp2_with (go_at_fn g;refine Hcall.out.mono ?_;rintro e w' ⟨rfl,hj',hb'⟩);go_ret;exact⟨ret_int hfin.out.symm,HG.out.trans hb',⟨_,hj'⟩⟩
   | false=>
    have hnext:=lz (Hnext.out hq);rw[hq]at Hcall;clear Hfin Hnext hq;go_wp2_with (go_at_fn g;refine Hcall.out.mono ?_;rintro e w' ⟨rfl,hj',hb'⟩);go_roundw
    case rel=>exact⟨k+1,by omega,by go_num,HG.out.trans hb',hj',hnext⟩
    case measure=>simp[intOf];omega
  ·go_wp2
   go_ret;exact⟨ret_int (idxR_miss fun j hj=>hall.out j hj (by omega)).symm,HG.out,⟨_,hJ⟩⟩
theorem containsS_Proc(g:Nat)(lb:Array Value)(q:Nat→Bool)(J:Nat→World→Prop)(X:Nat→Prop)(B:Nat)(eg:∀args w,(callFunc g args).run Tryz.prog w= .ok (.enter g args) w)(l:List ProcV)(A:Option Addr)(c:Nat)(w:World)
 (hp:PredSt ProcV.val X g lb q l (fun x W=>x.rd W B) J) (h0:J 0 w) (h:RdProc w B A l) (hB0:B≤w.heap.size) (hX:∀k,X k→B≤k) (hl:l.length≤9223372036854775807):
 Calls Tryz.prog 139 #[.slice A l.length c,.func (.func g) #[] lb] w fun e w'=>e= .returned (.bool ((List.range l.length).any q))∧Gr X w w'∧∃k,J k w':=by
 have hI:=indexS_Proc g lb q J X B eg l A c w hp h0 h hB0 hX hl;rw[←idxI_ge];generalize idxI q (List.range l.length)=r at hI ⊢;clear h hp h0;go_enter Tryz.func139,Tryz.ntmps139;go_wp2_with fail;refine hI.mono ?_;rintro e w1 ⟨rfl,hb1⟩;clear hI;go_wp2;go_ret;exact⟨rfl,hb1⟩
theorem notS_Proc(g:Nat)(lb:Array Value)(eg:∀args w,(callFunc g args).run Tryz.prog w= .ok (.enter g args) w)(Bx:Nat)(b:Bool)(x:ProcV)(W:World)(X:Nat→Prop)(J':World→Prop)(hb:Blk W Bx 130 #[.func (.func g) #[] lb])
 (hcall:Calls Tryz.prog g (#[x.val]++lb) (W.alloc (.cells #[.string x.nm,.int .i64 x.pr,.int .i64 x.pe,.int .i64 x.li,.slice x.code.a x.code.l.length x.code.c] 80)) fun e w'=>e= .returned (.bool b)∧J' w'∧Gr X (W.alloc (.cells #[.string x.nm,.int .i64 x.pr,.int .i64 x.pe,.int .i64 x.li,.slice x.code.a x.code.l.length x.code.c] 80)) w'):
 Calls Tryz.prog 140 #[x.val,.pointer (some ⟨Bx,0,none⟩)] W fun e w'=>e= .returned (.bool (!b))∧J' w'∧Gr X W w':=by
 have hc:=hcall;have c0:(W.alloc (.cells #[.string x.nm,.int .i64 x.pr,.int .i64 x.pe,.int .i64 x.li,.slice x.code.a x.code.l.length x.code.c] 80)).cell? ⟨Bx,0,none⟩=some (.func (.func g) #[] lb):=(hb.alloc _).cell 0;dsimp only[ProcV.val]at hc;have Hc:=lz hc;have hlt:=hb.lt;clear hcall hb hc;go_enter Tryz.func140,Tryz.ntmps140;go_wp2_with (go_at_fn g;refine Hc.out.mono ?_;rintro e w' ⟨rfl,hj',hb'⟩);go_ret;exact⟨rfl,hj',(Gr.alloc X W _).trans hb'⟩
theorem callS_Proc(g:Nat)(lb:Array Value)(q:Nat→Bool)(J:Nat→World→Prop)(X:Nat→Prop)(B:Nat)(eg:∀args w,(callFunc g args).run Tryz.prog w= .ok (.enter g args) w)(l:List ProcV)(A:Option Addr)(c:Nat)(w:World)
 (hp:PredSt ProcV.val X g lb q l (fun x W=>x.rd W B) J) (hJa:∀k W o,J k W→J k (W.alloc o)) (h0:J 0 w) (h:RdProc w B A l) (hB0:B≤w.heap.size) (hX:∀k,X k→B≤k∧k<w.heap.size) (hl:l.length≤9223372036854775807):
 Calls Tryz.prog 52 #[.slice A l.length c,.func (.func g) #[] lb] w fun e w'=>e= .returned (.bool ((List.range l.length).all q))∧Gr X w w'∧∃k,J k w':=by
 have h1:=Blk.new w 130 #[.func (.func g) #[] lb];have hcon:=containsS_Proc 140 #[.pointer (some ⟨w.heap.size,0,none⟩)] (fun k=> !q k) (fun k W=>J k W∧Blk W w.heap.size 130 #[.func (.func g) #[] lb]) X B (enters_of Tryz.func140 kz rfl) l A c (w.alloc (.cells #[.func (.func g) #[] lb] 130))
  (fun k hk W hJ hr=>(notS_Proc g lb eg w.heap.size (q k) l[k] W X (J (k+1)) hJ.2 (hp k hk _ (hJa _ _ _ hJ.1) (hr.to_ (Nat.le_refl _) fun b o hb=>World.cell?_alloc_lt W _ ⟨b,o,none⟩ (by have:=hJ.2.lt;simp only;omega)))).mono fun e w' ⟨e1,e2,e3⟩=>⟨e1,⟨e2,e3.blk hJ.2 fun hx=>absurd (hX _ hx).2 (by omega)⟩,e3⟩)
  ⟨hJa _ _ _ h0,h1⟩ (h.to_ (Nat.le_refl _) fun b o hb=>World.cell?_alloc_lt w _ ⟨b,o,none⟩ (by simp only;omega)) (by simp;omega) (fun k hk=>(hX k hk).1) hl
 rw[any_not]at hcon;have Hcon:=lz hcon;generalize (List.range l.length).all q=r at *;clear h1 hcon hp h hX hJa h0;go_enter Tryz.func52,Tryz.ntmps52;go_wp2_with fail;refine Hcon.out.mono ?_;rintro e w1 ⟨rfl,hg1,k,hj1,_⟩;have HG:=lz ((Gr.alloc X w (.cells #[.func (.func g) #[] lb] 130)).trans hg1);have HJ:=lz hj1;clear Hcon hg1 hj1;go_wp2;go_ret;exact⟨by cases r<;>rfl,HG.out,⟨k,HJ.out⟩⟩
theorem indexS_Module(g:Nat)(lb:Array Value)(q:Nat→Bool)(J:Nat→World→Prop)(X:Nat→Prop)(B:Nat)(eg:∀args w,(callFunc g args).run Tryz.prog w= .ok (.enter g args) w)(l:List ModV)(A:Option Addr)(c:Nat)(w:World)
 (hp:PredSt ModV.val X g lb q l (fun x W=>x.rd W B) J) (h0:J 0 w) (h:RdModule w B A l) (hB0:B≤w.heap.size) (hX:∀k,X k→B≤k) (hl:l.length≤9223372036854775807):
 Calls Tryz.prog 174 #[.slice A l.length c,.func (.func g) #[] lb] w fun e w'=>e= .returned (.int .i64 (idxI q (List.range l.length)))∧Gr X w w'∧∃k,J k w':=by
 go_enter Tryz.func174,Tryz.ntmps174;go_wp2;go_loopw [5,8] (fun _ i wr=>∃k:Nat,k≤l.length∧i= .int .i64 k∧Gr X w wr∧J k wr∧Hid (∀j,j<l.length→j<k→q j=false)) (fun _ i _=>l.length-(intOf i).toNat)
 case atStart=>exact⟨0,Nat.zero_le _,rfl,Gr.refl _ _,h0,fun j _ h=>absurd h (by omega)⟩
 case round=>
  clear h0;obtain⟨k,hk,rfl,hB,hJ,hall⟩:=hrel;have HG:=lz hB;by_cases hlt:k<l.length
  ·have hh:=h.to_ (Nat.le_refl _) (gr_cell hB hB0 hX)
   obtain⟨b,o,rfl,hb,hc⟩:=hh (by omega);have hck:=hc k hlt;have hcall:=hp k hlt wr hJ (hck.2.2.2.2);have hs:=hB.size;have hJk:=lz (show∃k,J (k+1) wr∨True from⟨0,.inr trivial⟩);clear hc hp h hh hJ hB;have hfin:q k=true→idxI q (List.range l.length)=k:=fun hq=>idxR_hit hlt hq hall.out
   have hnext:q k=false→∀j,j<l.length→j<k+1→q j=false:=fun hq=>succ_no hall.out hq
   have Hfin:=lz hfin;have Hnext:=lz hnext;clear hfin hnext hall;generalize l[k]=r at hck hcall;obtain⟨c0,c1,c2,c3,_⟩:=hck;have Hcall:=lz hcall;clear hcall
   cases hq:q k with
   | true=>
    have hfin:=lz (Hfin.out hq);rw[hq]at Hcall;clear Hfin Hnext hq;go_wp2_with (go_at_fn g;refine Hcall.out.mono ?_;rintro e w' ⟨rfl,hj',hb'⟩);go_ret;exact⟨ret_int hfin.out.symm,HG.out.trans hb',⟨_,hj'⟩⟩
   | false=>
    have hnext:=lz (Hnext.out hq);rw[hq]at Hcall;clear Hfin Hnext hq;go_wp2_with (go_at_fn g;refine Hcall.out.mono ?_;rintro e w' ⟨rfl,hj',hb'⟩);go_roundw
    case rel=>exact⟨k+1,by omega,by go_num,HG.out.trans hb',hj',hnext⟩
    case measure=>simp[intOf];omega
  ·go_wp2
   go_ret;exact⟨ret_int (idxR_miss fun j hj=>hall.out j hj (by omega)).symm,HG.out,⟨_,hJ⟩⟩
theorem containsS_Module(g:Nat)(lb:Array Value)(q:Nat→Bool)(J:Nat→World→Prop)(X:Nat→Prop)(B:Nat)(eg:∀args w,(callFunc g args).run Tryz.prog w= .ok (.enter g args) w)(l:List ModV)(A:Option Addr)(c:Nat)(w:World)
 (hp:PredSt ModV.val X g lb q l (fun x W=>x.rd W B) J) (h0:J 0 w) (h:RdModule w B A l) (hB0:B≤w.heap.size) (hX:∀k,X k→B≤k) (hl:l.length≤9223372036854775807):
 Calls Tryz.prog 145 #[.slice A l.length c,.func (.func g) #[] lb] w fun e w'=>e= .returned (.bool ((List.range l.length).any q))∧Gr X w w'∧∃k,J k w':=by
 have hI:=indexS_Module g lb q J X B eg l A c w hp h0 h hB0 hX hl;rw[←idxI_ge];generalize idxI q (List.range l.length)=r at hI ⊢;clear h hp h0;go_enter Tryz.func145,Tryz.ntmps145;go_wp2_with fail;refine hI.mono ?_;rintro e w1 ⟨rfl,hb1⟩;clear hI;go_wp2;go_ret;exact⟨rfl,hb1⟩
theorem notS_Module(g:Nat)(lb:Array Value)(eg:∀args w,(callFunc g args).run Tryz.prog w= .ok (.enter g args) w)(Bx:Nat)(b:Bool)(x:ModV)(W:World)(X:Nat→Prop)(J':World→Prop)(hb:Blk W Bx 135 #[.func (.func g) #[] lb])
 (hcall:Calls Tryz.prog g (#[x.val]++lb) (W.alloc (.cells #[.string x.nm,.int .i64 x.mem,.int .i64 x.fr,.slice x.parts.a x.parts.l.length x.parts.c] 70)) fun e w'=>e= .returned (.bool b)∧J' w'∧Gr X (W.alloc (.cells #[.string x.nm,.int .i64 x.mem,.int .i64 x.fr,.slice x.parts.a x.parts.l.length x.parts.c] 70)) w'):
 Calls Tryz.prog 146 #[x.val,.pointer (some ⟨Bx,0,none⟩)] W fun e w'=>e= .returned (.bool (!b))∧J' w'∧Gr X W w':=by
 have hc:=hcall;have c0:(W.alloc (.cells #[.string x.nm,.int .i64 x.mem,.int .i64 x.fr,.slice x.parts.a x.parts.l.length x.parts.c] 70)).cell? ⟨Bx,0,none⟩=some (.func (.func g) #[] lb):=(hb.alloc _).cell 0;dsimp only[ModV.val]at hc;have Hc:=lz hc;have hlt:=hb.lt;clear hcall hb hc;go_enter Tryz.func146,Tryz.ntmps146;go_wp2_with (go_at_fn g;refine Hc.out.mono ?_;rintro e w' ⟨rfl,hj',hb'⟩);go_ret;exact⟨rfl,hj',(Gr.alloc X W _).trans hb'⟩
theorem callS_Module(g:Nat)(lb:Array Value)(q:Nat→Bool)(J:Nat→World→Prop)(X:Nat→Prop)(B:Nat)(eg:∀args w,(callFunc g args).run Tryz.prog w= .ok (.enter g args) w)(l:List ModV)(A:Option Addr)(c:Nat)(w:World)
 (hp:PredSt ModV.val X g lb q l (fun x W=>x.rd W B) J) (hJa:∀k W o,J k W→J k (W.alloc o)) (h0:J 0 w) (h:RdModule w B A l) (hB0:B≤w.heap.size) (hX:∀k,X k→B≤k∧k<w.heap.size) (hl:l.length≤9223372036854775807):
 Calls Tryz.prog 61 #[.slice A l.length c,.func (.func g) #[] lb] w fun e w'=>e= .returned (.bool ((List.range l.length).all q))∧Gr X w w'∧∃k,J k w':=by
 have h1:=Blk.new w 135 #[.func (.func g) #[] lb];have hcon:=containsS_Module 146 #[.pointer (some ⟨w.heap.size,0,none⟩)] (fun k=> !q k) (fun k W=>J k W∧Blk W w.heap.size 135 #[.func (.func g) #[] lb]) X B (enters_of Tryz.func146 kz rfl) l A c (w.alloc (.cells #[.func (.func g) #[] lb] 135))
  (fun k hk W hJ hr=>(notS_Module g lb eg w.heap.size (q k) l[k] W X (J (k+1)) hJ.2 (hp k hk _ (hJa _ _ _ hJ.1) (hr.to_ (Nat.le_refl _) fun b o hb=>World.cell?_alloc_lt W _ ⟨b,o,none⟩ (by have:=hJ.2.lt;simp only;omega)))).mono fun e w' ⟨e1,e2,e3⟩=>⟨e1,⟨e2,e3.blk hJ.2 fun hx=>absurd (hX _ hx).2 (by omega)⟩,e3⟩)
  ⟨hJa _ _ _ h0,h1⟩ (h.to_ (Nat.le_refl _) fun b o hb=>World.cell?_alloc_lt w _ ⟨b,o,none⟩ (by simp only;omega)) (by simp;omega) (fun k hk=>(hX k hk).1) hl
 rw[any_not]at hcon;have Hcon:=lz hcon;generalize (List.range l.length).all q=r at *;clear h1 hcon hp h hX hJa h0;go_enter Tryz.func61,Tryz.ntmps61;go_wp2_with fail;refine Hcon.out.mono ?_;rintro e w1 ⟨rfl,hg1,k,hj1,_⟩;have HG:=lz ((Gr.alloc X w (.cells #[.func (.func g) #[] lb] 135)).trans hg1);have HJ:=lz hj1;clear Hcon hg1 hj1;go_wp2;go_ret;exact⟨by cases r<;>rfl,HG.out,⟨k,HJ.out⟩⟩
theorem indexS_Switch(g:Nat)(lb:Array Value)(q:Nat→Bool)(J:Nat→World→Prop)(X:Nat→Prop)(B:Nat)(eg:∀args w,(callFunc g args).run Tryz.prog w= .ok (.enter g args) w)(l:List SwV)(A:Option Addr)(c:Nat)(w:World)
 (hp:PredSt SwV.val X g lb q l (fun _ _=>True) J) (h0:J 0 w) (h:RdSwitch w B A l) (hB0:B≤w.heap.size) (hX:∀k,X k→B≤k) (hl:l.length≤9223372036854775807):
 Calls Tryz.prog 156 #[.slice A l.length c,.func (.func g) #[] lb] w fun e w'=>e= .returned (.int .i64 (idxI q (List.range l.length)))∧Gr X w w'∧∃k,J k w':=by
 go_enter Tryz.func156,Tryz.ntmps156;go_wp2;go_loopw [5,8] (fun _ i wr=>∃k:Nat,k≤l.length∧i= .int .i64 k∧Gr X w wr∧J k wr∧Hid (∀j,j<l.length→j<k→q j=false)) (fun _ i _=>l.length-(intOf i).toNat)
 case atStart=>exact⟨0,Nat.zero_le _,rfl,Gr.refl _ _,h0,fun j _ h=>absurd h (by omega)⟩
 case round=>
  clear h0;obtain⟨k,hk,rfl,hB,hJ,hall⟩:=hrel;have HG:=lz hB;by_cases hlt:k<l.length
  ·have hh:=h.to_ (Nat.le_refl _) (gr_cell hB hB0 hX)
   obtain⟨b,o,rfl,hb,hc⟩:=hh (by omega);have hck:=hc k hlt;have hcall:=hp k hlt wr hJ (trivial);have hs:=hB.size;have hJk:=lz (show∃k,J (k+1) wr∨True from⟨0,.inr trivial⟩);clear hc hp h hh hJ hB;have hfin:q k=true→idxI q (List.range l.length)=k:=fun hq=>idxR_hit hlt hq hall.out
   have hnext:q k=false→∀j,j<l.length→j<k+1→q j=false:=fun hq=>succ_no hall.out hq
   have Hfin:=lz hfin;have Hnext:=lz hnext;clear hfin hnext hall;generalize l[k]=r at hck hcall;obtain⟨c0,c1,c2,c3⟩:=hck;have Hcall:=lz hcall;clear hcall
   cases hq:q k with
   | true=>
    have hfin:=lz (Hfin.out hq);rw[hq]at Hcall;clear Hfin Hnext hq;go_wp2_with (go_at_fn g;refine Hcall.out.mono ?_;rintro e w' ⟨rfl,hj',hb'⟩);go_ret;exact⟨ret_int hfin.out.symm,HG.out.trans hb',⟨_,hj'⟩⟩
   | false=>
    have hnext:=lz (Hnext.out hq);rw[hq]at Hcall;clear Hfin Hnext hq;go_wp2_with (go_at_fn g;refine Hcall.out.mono ?_;rintro e w' ⟨rfl,hj',hb'⟩);go_roundw
    case rel=>exact⟨k+1,by omega,by go_num,HG.out.trans hb',hj',hnext⟩
    case measure=>simp[intOf];omega
  ·go_wp2
   go_ret;exact⟨ret_int (idxR_miss fun j hj=>hall.out j hj (by omega)).symm,HG.out,⟨_,hJ⟩⟩
theorem containsS_Switch(g:Nat)(lb:Array Value)(q:Nat→Bool)(J:Nat→World→Prop)(X:Nat→Prop)(B:Nat)(eg:∀args w,(callFunc g args).run Tryz.prog w= .ok (.enter g args) w)(l:List SwV)(A:Option Addr)(c:Nat)(w:World)
 (hp:PredSt SwV.val X g lb q l (fun _ _=>True) J) (h0:J 0 w) (h:RdSwitch w B A l) (hB0:B≤w.heap.size) (hX:∀k,X k→B≤k) (hl:l.length≤9223372036854775807):
 Calls Tryz.prog 147 #[.slice A l.length c,.func (.func g) #[] lb] w fun e w'=>e= .returned (.bool ((List.range l.length).any q))∧Gr X w w'∧∃k,J k w':=by
 have hI:=indexS_Switch g lb q J X B eg l A c w hp h0 h hB0 hX hl;rw[←idxI_ge];generalize idxI q (List.range l.length)=r at hI ⊢;clear h hp h0;go_enter Tryz.func147,Tryz.ntmps147;go_wp2_with fail;refine hI.mono ?_;rintro e w1 ⟨rfl,hb1⟩;clear hI;go_wp2;go_ret;exact⟨rfl,hb1⟩
theorem notS_Switch(g:Nat)(lb:Array Value)(eg:∀args w,(callFunc g args).run Tryz.prog w= .ok (.enter g args) w)(Bx:Nat)(b:Bool)(x:SwV)(W:World)(X:Nat→Prop)(J':World→Prop)(hb:Blk W Bx 136 #[.func (.func g) #[] lb])
 (hcall:Calls Tryz.prog g (#[x.val]++lb) (W.alloc (.cells #[.string x.nm,.int .i64 x.net,.int .i64 x.dl,.int .i64 x.st] 90)) fun e w'=>e= .returned (.bool b)∧J' w'∧Gr X (W.alloc (.cells #[.string x.nm,.int .i64 x.net,.int .i64 x.dl,.int .i64 x.st] 90)) w'):
 Calls Tryz.prog 148 #[x.val,.pointer (some ⟨Bx,0,none⟩)] W fun e w'=>e= .returned (.bool (!b))∧J' w'∧Gr X W w':=by
 have hc:=hcall;have c0:(W.alloc (.cells #[.string x.nm,.int .i64 x.net,.int .i64 x.dl,.int .i64 x.st] 90)).cell? ⟨Bx,0,none⟩=some (.func (.func g) #[] lb):=(hb.alloc _).cell 0;dsimp only[SwV.val]at hc;have Hc:=lz hc;have hlt:=hb.lt;clear hcall hb hc;go_enter Tryz.func148,Tryz.ntmps148;go_wp2_with (go_at_fn g;refine Hc.out.mono ?_;rintro e w' ⟨rfl,hj',hb'⟩);go_ret;exact⟨rfl,hj',(Gr.alloc X W _).trans hb'⟩
theorem callS_Switch(g:Nat)(lb:Array Value)(q:Nat→Bool)(J:Nat→World→Prop)(X:Nat→Prop)(B:Nat)(eg:∀args w,(callFunc g args).run Tryz.prog w= .ok (.enter g args) w)(l:List SwV)(A:Option Addr)(c:Nat)(w:World)
 (hp:PredSt SwV.val X g lb q l (fun _ _=>True) J) (hJa:∀k W o,J k W→J k (W.alloc o)) (h0:J 0 w) (h:RdSwitch w B A l) (hB0:B≤w.heap.size) (hX:∀k,X k→B≤k∧k<w.heap.size) (hl:l.length≤9223372036854775807):
 Calls Tryz.prog 62 #[.slice A l.length c,.func (.func g) #[] lb] w fun e w'=>e= .returned (.bool ((List.range l.length).all q))∧Gr X w w'∧∃k,J k w':=by
 have h1:=Blk.new w 136 #[.func (.func g) #[] lb];have hcon:=containsS_Switch 148 #[.pointer (some ⟨w.heap.size,0,none⟩)] (fun k=> !q k) (fun k W=>J k W∧Blk W w.heap.size 136 #[.func (.func g) #[] lb]) X B (enters_of Tryz.func148 kz rfl) l A c (w.alloc (.cells #[.func (.func g) #[] lb] 136))
  (fun k hk W hJ hr=>(notS_Switch g lb eg w.heap.size (q k) l[k] W X (J (k+1)) hJ.2 (hp k hk _ (hJa _ _ _ hJ.1) (trivial))).mono fun e w' ⟨e1,e2,e3⟩=>⟨e1,⟨e2,e3.blk hJ.2 fun hx=>absurd (hX _ hx).2 (by omega)⟩,e3⟩)
  ⟨hJa _ _ _ h0,h1⟩ (h.to_ (Nat.le_refl _) fun b o hb=>World.cell?_alloc_lt w _ ⟨b,o,none⟩ (by simp only;omega)) (by simp;omega) (fun k hk=>(hX k hk).1) hl
 rw[any_not]at hcon;have Hcon:=lz hcon;generalize (List.range l.length).all q=r at *;clear h1 hcon hp h hX hJa h0;go_enter Tryz.func62,Tryz.ntmps62;go_wp2_with fail;refine Hcon.out.mono ?_;rintro e w1 ⟨rfl,hg1,k,hj1,_⟩;have HG:=lz ((Gr.alloc X w (.cells #[.func (.func g) #[] lb] 136)).trans hg1);have HJ:=lz hj1;clear Hcon hg1 hj1;go_wp2;go_ret;exact⟨by cases r<;>rfl,HG.out,⟨k,HJ.out⟩⟩
theorem indexS_VL(g:Nat)(lb:Array Value)(q:Nat→Bool)(J:Nat→World→Prop)(X:Nat→Prop)(B:Nat)(eg:∀args w,(callFunc g args).run Tryz.prog w= .ok (.enter g args) w)(l:List VlV)(A:Option Addr)(c:Nat)(w:World)
 (hp:PredSt VlV.val X g lb q l (fun x W=>x.rd W B) J) (h0:J 0 w) (h:RdVL w B A l) (hB0:B≤w.heap.size) (hX:∀k,X k→B≤k) (hl:l.length≤9223372036854775807):
 Calls Tryz.prog 237 #[.slice A l.length c,.func (.func g) #[] lb] w fun e w'=>e= .returned (.int .i64 (idxI q (List.range l.length)))∧Gr X w w'∧∃k,J k w':=by
 go_enter Tryz.func237,Tryz.ntmps237;go_wp2;go_loopw [5,8] (fun _ i wr=>∃k:Nat,k≤l.length∧i= .int .i64 k∧Gr X w wr∧J k wr∧Hid (∀j,j<l.length→j<k→q j=false)) (fun _ i _=>l.length-(intOf i).toNat)
 case atStart=>exact⟨0,Nat.zero_le _,rfl,Gr.refl _ _,h0,fun j _ h=>absurd h (by omega)⟩
 case round=>
  clear h0;obtain⟨k,hk,rfl,hB,hJ,hall⟩:=hrel;have HG:=lz hB;by_cases hlt:k<l.length
  ·have hh:=h.to_ (Nat.le_refl _) (gr_cell hB hB0 hX)
   obtain⟨b,o,rfl,hb,hc⟩:=hh (by omega);have hck:=hc k hlt;have hcall:=hp k hlt wr hJ (hck.2.2.2.2.2.2.2);have hs:=hB.size;have hJk:=lz (show∃k,J (k+1) wr∨True from⟨0,.inr trivial⟩);clear hc hp h hh hJ hB;have hfin:q k=true→idxI q (List.range l.length)=k:=fun hq=>idxR_hit hlt hq hall.out
   have hnext:q k=false→∀j,j<l.length→j<k+1→q j=false:=fun hq=>succ_no hall.out hq
   have Hfin:=lz hfin;have Hnext:=lz hnext;clear hfin hnext hall;generalize l[k]=r at hck hcall;obtain⟨c0,c1,c2,c3,c4,c5,c6,_⟩:=hck;have Hcall:=lz hcall;clear hcall
   cases hq:q k with
   | true=>
    have hfin:=lz (Hfin.out hq);rw[hq]at Hcall;clear Hfin Hnext hq;go_wp2_with (go_at_fn g;refine Hcall.out.mono ?_;rintro e w' ⟨rfl,hj',hb'⟩);go_ret;exact⟨ret_int hfin.out.symm,HG.out.trans hb',⟨_,hj'⟩⟩
   | false=>
    have hnext:=lz (Hnext.out hq);rw[hq]at Hcall;clear Hfin Hnext hq;go_wp2_with (go_at_fn g;refine Hcall.out.mono ?_;rintro e w' ⟨rfl,hj',hb'⟩);go_roundw
    case rel=>exact⟨k+1,by omega,by go_num,HG.out.trans hb',hj',hnext⟩
    case measure=>simp[intOf];omega
  ·go_wp2
   go_ret;exact⟨ret_int (idxR_miss fun j hj=>hall.out j hj (by omega)).symm,HG.out,⟨_,hJ⟩⟩
theorem containsS_VL(g:Nat)(lb:Array Value)(q:Nat→Bool)(J:Nat→World→Prop)(X:Nat→Prop)(B:Nat)(eg:∀args w,(callFunc g args).run Tryz.prog w= .ok (.enter g args) w)(l:List VlV)(A:Option Addr)(c:Nat)(w:World)
 (hp:PredSt VlV.val X g lb q l (fun x W=>x.rd W B) J) (h0:J 0 w) (h:RdVL w B A l) (hB0:B≤w.heap.size) (hX:∀k,X k→B≤k) (hl:l.length≤9223372036854775807):
 Calls Tryz.prog 172 #[.slice A l.length c,.func (.func g) #[] lb] w fun e w'=>e= .returned (.bool ((List.range l.length).any q))∧Gr X w w'∧∃k,J k w':=by
 have hI:=indexS_VL g lb q J X B eg l A c w hp h0 h hB0 hX hl;rw[←idxI_ge];generalize idxI q (List.range l.length)=r at hI ⊢;clear h hp h0;go_enter Tryz.func172,Tryz.ntmps172;go_wp2_with fail;refine hI.mono ?_;rintro e w1 ⟨rfl,hb1⟩;clear hI;go_wp2;go_ret;exact⟨rfl,hb1⟩
theorem notS_VL(g:Nat)(lb:Array Value)(eg:∀args w,(callFunc g args).run Tryz.prog w= .ok (.enter g args) w)(Bx:Nat)(b:Bool)(x:VlV)(W:World)(X:Nat→Prop)(J':World→Prop)(hb:Blk W Bx 178 #[.func (.func g) #[] lb])
 (hcall:Calls Tryz.prog g (#[x.val]++lb) (W.alloc (.cells #[.string x.nm,.string x.src.m,.string x.src.p,.string x.src.o,.int .i64 x.bag,.int .i64 x.mx,.slice x.dst.a x.dst.l.length x.dst.c] 88)) fun e w'=>e= .returned (.bool b)∧J' w'∧Gr X (W.alloc (.cells #[.string x.nm,.string x.src.m,.string x.src.p,.string x.src.o,.int .i64 x.bag,.int .i64 x.mx,.slice x.dst.a x.dst.l.length x.dst.c] 88)) w'):
 Calls Tryz.prog 173 #[x.val,.pointer (some ⟨Bx,0,none⟩)] W fun e w'=>e= .returned (.bool (!b))∧J' w'∧Gr X W w':=by
 have hc:=hcall;have c0:(W.alloc (.cells #[.string x.nm,.string x.src.m,.string x.src.p,.string x.src.o,.int .i64 x.bag,.int .i64 x.mx,.slice x.dst.a x.dst.l.length x.dst.c] 88)).cell? ⟨Bx,0,none⟩=some (.func (.func g) #[] lb):=(hb.alloc _).cell 0;dsimp only[VlV.val]at hc;have Hc:=lz hc;have hlt:=hb.lt;clear hcall hb hc;go_enter Tryz.func173,Tryz.ntmps173;go_wp2_with (go_at_fn g;refine Hc.out.mono ?_;rintro e w' ⟨rfl,hj',hb'⟩);go_ret;exact⟨rfl,hj',(Gr.alloc X W _).trans hb'⟩
theorem callS_VL(g:Nat)(lb:Array Value)(q:Nat→Bool)(J:Nat→World→Prop)(X:Nat→Prop)(B:Nat)(eg:∀args w,(callFunc g args).run Tryz.prog w= .ok (.enter g args) w)(l:List VlV)(A:Option Addr)(c:Nat)(w:World)
 (hp:PredSt VlV.val X g lb q l (fun x W=>x.rd W B) J) (hJa:∀k W o,J k W→J k (W.alloc o)) (h0:J 0 w) (h:RdVL w B A l) (hB0:B≤w.heap.size) (hX:∀k,X k→B≤k∧k<w.heap.size) (hl:l.length≤9223372036854775807):
 Calls Tryz.prog 87 #[.slice A l.length c,.func (.func g) #[] lb] w fun e w'=>e= .returned (.bool ((List.range l.length).all q))∧Gr X w w'∧∃k,J k w':=by
 have h1:=Blk.new w 178 #[.func (.func g) #[] lb];have hcon:=containsS_VL 173 #[.pointer (some ⟨w.heap.size,0,none⟩)] (fun k=> !q k) (fun k W=>J k W∧Blk W w.heap.size 178 #[.func (.func g) #[] lb]) X B (enters_of Tryz.func173 kz rfl) l A c (w.alloc (.cells #[.func (.func g) #[] lb] 178))
  (fun k hk W hJ hr=>(notS_VL g lb eg w.heap.size (q k) l[k] W X (J (k+1)) hJ.2 (hp k hk _ (hJa _ _ _ hJ.1) (hr.to_ (Nat.le_refl _) fun b o hb=>World.cell?_alloc_lt W _ ⟨b,o,none⟩ (by have:=hJ.2.lt;simp only;omega)))).mono fun e w' ⟨e1,e2,e3⟩=>⟨e1,⟨e2,e3.blk hJ.2 fun hx=>absurd (hX _ hx).2 (by omega)⟩,e3⟩)
  ⟨hJa _ _ _ h0,h1⟩ (h.to_ (Nat.le_refl _) fun b o hb=>World.cell?_alloc_lt w _ ⟨b,o,none⟩ (by simp only;omega)) (by simp;omega) (fun k hk=>(hX k hk).1) hl
 rw[any_not]at hcon;have Hcon:=lz hcon;generalize (List.range l.length).all q=r at *;clear h1 hcon hp h hX hJa h0;go_enter Tryz.func87,Tryz.ntmps87;go_wp2_with fail;refine Hcon.out.mono ?_;rintro e w1 ⟨rfl,hg1,k,hj1,_⟩;have HG:=lz ((Gr.alloc X w (.cells #[.func (.func g) #[] lb] 178)).trans hg1);have HJ:=lz hj1;clear Hcon hg1 hj1;go_wp2;go_ret;exact⟨by cases r<;>rfl,HG.out,⟨k,HJ.out⟩⟩
theorem notS_Link(g:Nat)(lb:Array Value)(eg:∀args w,(callFunc g args).run Tryz.prog w= .ok (.enter g args) w)(Bx:Nat)(b:Bool)(x:LinkV)(W:World)(X:Nat→Prop)(J':World→Prop)(hb:Blk W Bx 137 #[.func (.func g) #[] lb])
 (hcall:Calls Tryz.prog g (#[x.val]++lb) (W.alloc (.cells #[.string x.a,.string x.b,.int .i64 x.net,.int .i64 x.slow] 92)) fun e w'=>e= .returned (.bool b)∧J' w'∧Gr X (W.alloc (.cells #[.string x.a,.string x.b,.int .i64 x.net,.int .i64 x.slow] 92)) w'):
 Calls Tryz.prog 150 #[x.val,.pointer (some ⟨Bx,0,none⟩)] W fun e w'=>e= .returned (.bool (!b))∧J' w'∧Gr X W w':=by
 have hc:=hcall;have c0:(W.alloc (.cells #[.string x.a,.string x.b,.int .i64 x.net,.int .i64 x.slow] 92)).cell? ⟨Bx,0,none⟩=some (.func (.func g) #[] lb):=(hb.alloc _).cell 0;dsimp only[LinkV.val]at hc;have Hc:=lz hc;have hlt:=hb.lt;clear hcall hb hc;go_enter Tryz.func150,Tryz.ntmps150;go_wp2_with (go_at_fn g;refine Hc.out.mono ?_;rintro e w' ⟨rfl,hj',hb'⟩);go_ret;exact⟨rfl,hj',(Gr.alloc X W _).trans hb'⟩
end Go.Proofs.YtchfcgilpjkmhaaGreatDoor
