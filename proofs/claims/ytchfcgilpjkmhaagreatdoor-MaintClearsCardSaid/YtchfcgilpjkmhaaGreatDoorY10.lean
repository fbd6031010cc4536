import Derived.Test.YtchfcgilpjkmhaaGreatDoorY9
import Derived.Test.YtchfcgilpjkmhaaGreatDoorY8
import Derived.Test.YtchfcgilpjkmhaaGreatDoorY0
import Derived.Test.YtchfcgilpjkmhaaGreatDoorY1
set_option maxRecDepth 100000
set_option linter.unusedSimpArgs false
set_option linter.unusedVariables false
set_option linter.unusedSectionVars false
namespace Go.Proofs.YtchfcgilpjkmhaaGreatDoor
open Go.ChangeShapes Go.WideShapes Go.ChangeAt Go.RowKit
attribute [local go_sem] Oper.semAt_some
def atB(ts:List Tok)(i:Nat)(P:Tok→Bool):Bool:=match ts[i]? with | some t=>P t | none=>false
theorem atB_get{ts:List Tok}{i:Nat}{P:Tok→Bool}(h:atB ts i P=true):∃hi:i<ts.length,P ts[i]=true:=by
 unfold atB at h;split at h
 ·rename_i t ht
  obtain⟨hi,rfl⟩:=List.getElem?_eq_some_iff.1 ht;exact⟨hi,h⟩
 ·cases h
def sNeeds:ByteArray:=⟨#[110,101,101,100,115]⟩
def sUnless:ByteArray:=⟨#[117,110,108,101,115,115]⟩
def wordB(s:ByteArray)(t:Tok):Bool:=(t.kind==1)&&decide (t.text=s)
def causeB(ts:List Tok)(p:Nat)(c:Cs):Bool:=
 atB ts p (wordB c.unit)&&(atB ts (p+1) (fun t=>seesB t sNeeds)&&(decide (0<c.needs.length)&&
 ((List.range c.needs.length).all (fun i=>match c.needs[i]? with
  | some r=>atB ts (p+2+4*i) (wordB r.unit)&&(atB ts (p+3+4*i) (fun t=>seesB t ⟨#[58]⟩)&&(atB ts (p+4+4*i) (fun t=>(t.kind==2)&&figB t.text r.code)&&atB ts (p+5+4*i) (fun t=>seesB t ⟨#[44]⟩==decide (i+1<c.needs.length))))
  | none=>false)&&
 (atB ts (p+1+4*c.needs.length) (fun t=>seesB t sUnless==decide (0<c.excl.length))&&
 ((List.range c.excl.length).all (fun i=>match c.excl[i]? with
  | some s=>atB ts (p+2+4*c.needs.length+2*i) (wordB s)&&atB ts (p+3+4*c.needs.length+2*i) (fun t=>seesB t ⟨#[44]⟩==decide (i+1<c.excl.length))
  | none=>false)&&
 atB ts (p+1+4*c.needs.length+2*c.excl.length) (fun t=>seesB t ⟨#[59]⟩))))))
structure CauseAt(ts:List Tok)(p:Nat)(c:Cs):Prop where
 unit:∃h:p<ts.length,ts[p].kind=1∧ts[p].text=c.unit
 needs:∃h:p+1<ts.length,seesB ts[p+1] sNeeds=true
 pos:0<c.needs.length
 name:∀i (hi:i<c.needs.length),∃h:p+2+4*i<ts.length,ts[p+2+4*i].kind=1∧ts[p+2+4*i].text=c.needs[i].unit
 colon:∀i,i<c.needs.length→∃h:p+3+4*i<ts.length,seesB ts[p+3+4*i] ⟨#[58]⟩=true
 num:∀i (hi:i<c.needs.length),∃h:p+4+4*i<ts.length,ts[p+4+4*i].kind=2∧figB ts[p+4+4*i].text c.needs[i].code=true
 comma:∀i,i<c.needs.length→∃h:p+5+4*i<ts.length,seesB ts[p+5+4*i] ⟨#[44]⟩=decide (i+1<c.needs.length)
 unl:∃h:p+1+4*c.needs.length<ts.length,seesB ts[p+1+4*c.needs.length] sUnless=decide (0<c.excl.length)
 ex:∀i (hi:i<c.excl.length),∃h:p+2+4*c.needs.length+2*i<ts.length,ts[p+2+4*c.needs.length+2*i].kind=1∧ts[p+2+4*c.needs.length+2*i].text=c.excl[i]
 xcomma:∀i,i<c.excl.length→∃h:p+3+4*c.needs.length+2*i<ts.length,seesB ts[p+3+4*c.needs.length+2*i] ⟨#[44]⟩=decide (i+1<c.excl.length)
 semi:∃h:p+1+4*c.needs.length+2*c.excl.length<ts.length,seesB ts[p+1+4*c.needs.length+2*c.excl.length] ⟨#[59]⟩=true
theorem causeAt_of{ts:List Tok}{p:Nat}{c:Cs}(h:causeB ts p c=true):CauseAt ts p c:=by
 simp only[causeB,Bool.and_eq_true,decide_eq_true_eq,List.all_eq_true,List.mem_range]at h;obtain⟨h1,h2,h3,h4,h5,h6,h7⟩:=h;have key:∀i (hi:i<c.needs.length),(atB ts (p+2+4*i) (wordB c.needs[i].unit)&&(atB ts (p+3+4*i) (fun t=>seesB t ⟨#[58]⟩)&&(atB ts (p+4+4*i) (fun t=>(t.kind==2)&&figB t.text c.needs[i].code)&&atB ts (p+5+4*i) (fun t=>seesB t ⟨#[44]⟩==decide (i+1<c.needs.length)))))=true:=fun i hi=>by
  have:=h4 i hi
  rwa[List.getElem?_eq_getElem hi]at this
 have keyx:∀i (hi:i<c.excl.length),(atB ts (p+2+4*c.needs.length+2*i) (wordB c.excl[i])&&atB ts (p+3+4*c.needs.length+2*i) (fun t=>seesB t ⟨#[44]⟩==decide (i+1<c.excl.length)))=true:=fun i hi=>by
  have:=h6 i hi
  rwa[List.getElem?_eq_getElem hi]at this
 have w:∀{i:Nat} {s:ByteArray},atB ts i (wordB s)=true→∃h:i<ts.length,ts[i].kind=1∧ts[i].text=s:=fun h=>by
  obtain⟨hi,h⟩:=atB_get h;simp only[wordB,Bool.and_eq_true,beq_iff_eq,decide_eq_true_eq]at h;exact⟨hi,h⟩
 have e:∀{i:Nat} {s:ByteArray} {b:Bool},atB ts i (fun t=>seesB t s==b)=true→∃h:i<ts.length,seesB ts[i] s=b:=fun h=>by
  obtain⟨hi,h⟩:=atB_get h;exact⟨hi,by simpa using h⟩
 simp only[Bool.and_eq_true]at key keyx;exact⟨w h1,atB_get h2,h3,fun i hi=>w (key i hi).1,fun i hi=>atB_get (key i hi).2.1,fun i hi=>by
  obtain⟨hi',h⟩:=atB_get (key i hi).2.2.1;simp only[Bool.and_eq_true,beq_iff_eq]at h;exact⟨hi',h⟩,fun i hi=>e (key i hi).2.2.2,e h5,fun i hi=>w (keyx i hi).1,fun i hi=>e (keyx i hi).2,atB_get h7⟩
theorem Gr.far{X:Nat→Prop}{w W:World}(h:Gr X w W){p:Addr}(hp:w.heap.size≤p.block)(u:Value):Gr X w (W.setCell p u):=
 ⟨h.os,h.tape,h.output,by simpa [World.setCell]using h.size,fun k hk hn=>(Below.heap_setCell W p u k (by omega)).trans (h.block k hk hn)⟩
theorem Gr.trans'{X Y:Nat→Prop}{w W W':World}(h:Gr X w W)(k:Gr Y W W')(hY:∀j,j<w.heap.size→Y j→X j):Gr X w W':=
 ⟨k.os.trans h.os,k.tape.trans h.tape,k.output.trans h.output,Nat.le_trans h.size k.size,fun i hi hn=>(k.block i (Nat.lt_of_lt_of_le hi h.size) (fun e=>hn (hY i hi e))).trans (h.block i hi hn)⟩
theorem own_gr{X:Nat→Prop}{W W':World}{b e s n:Nat}{v:Value}{xs:List Value}(h:W.ownsRow b e s v n xs)(hg:Gr X W W')(hX:∀k,v.ownBlock=some k→¬X k):W'.ownsRow b e s v n xs:=by
 refine⟨h.1,?_⟩;rcases h.2 with h2 | ⟨g,cap,cur,h1,h2,h3,h4⟩
 ·exact .inl h2
 ·refine .inr ⟨g,cap,cur,h1,h2,?_,h4⟩
  refine(hg.block g (Array.getElem?_eq_some_iff.1 h3).1 (hX g ?_)).trans h3;rw[h1];rfl
theorem own_far{W:World}{b e s n e' s' n':Nat}{v v':Value}{xs xs':List Value}(h:W.ownsRow b e s v n xs)(h':W.ownsRow b e' s' v' n' xs')(hne:e≠e'):∀k,v.ownBlock=some k→v'.ownBlock≠some k:=fun k hk hk'=>by
 rcases h'.2 with⟨rfl,_⟩ | ⟨g,cap,cur,h1,h2,h3,h4⟩
 ·cases hk'
 ·have:k=g:=by rw[h1]at hk';simpa [Value.ownBlock]using hk'.symm
  subst this;exact own_blk_ne h (show Blk W k e' cur from h3) hne hk
structure CauSt(w:World)(g Bc:Nat)(A:Option Addr)(c:Nat)(ts:List Tok)(sz:Int)(u:ByteArray)(nd:List Rep)(vn:Value)(ex:List ByteArray)(vx:Value)(now:Nat)(W:World):Prop where
 inb:InB W g A c ts now sz
 gr:Gr (· =g) w W
 hg:g<w.heap.size
 res:Blk W w.heap.size 48 #[.string ⟨#[]⟩,.slice none 0 0,.slice none 0 0]
 blk:Blk W Bc 48 #[.string u,vn,vx]
 hBc:w.heap.size<Bc
 nd:W.ownsRow w.heap.size 41 2 vn nd.length (nd.flatMap Rep.cells)
 ex:W.ownsRow w.heap.size 9 1 vx ex.length (ex.map Value.string)
section
variable {w W W':World} {g Bc:Nat} {A:Option Addr} {c:Nat} {ts:List Tok} {sz:Int} {u:ByteArray} {nd:List Rep} {vn:Value} {ex:List ByteArray} {vx:Value} {now now':Nat}
theorem CauSt.ltBc(h:CauSt w g Bc A c ts sz u nd vn ex vx now W):Bc<W.heap.size:=h.blk.lt
theorem CauSt.next(h:CauSt w g Bc A c ts sz u nd vn ex vx now W)(hI:InB W' g A c ts now' sz)(hG:Gr (· =g) W W'):CauSt w g Bc A c ts sz u nd vn ex vx now' W':=
 ⟨hI,h.gr.trans hG,h.hg,hG.blk h.res (by have:=h.hg;omega),hG.blk h.blk (by have:=h.hg;have:=h.hBc;omega),h.hBc,
  own_gr h.nd hG (fun k hk e=>by have:=(h.nd.lt k hk).1;have:=h.hg;omega),own_gr h.ex hG (fun k hk e=>by have:=(h.ex.lt k hk).1;have:=h.hg;omega)⟩
theorem CauSt.below(h:CauSt w g Bc A c ts sz u nd vn ex vx now W)(hb:Below W.heap.size W W'):CauSt w g Bc A c ts sz u nd vn ex vx now W':=h.next (h.inb.below hb) (Gr.of_below hb)
theorem CauSt.drew_(h:CauSt w g Bc A c ts sz u nd vn ex vx now W):CauSt w g Bc A c ts sz u nd vn ex vx now W.drew:=h.below (Below.refl _ _).drew
theorem InB.far(h:InB W g A c ts now sz){p:Addr}(hp:g<p.block)(v:Value):InB (W.setCell p v) g A c ts now sz:=
 ⟨h.blk.far (by omega) v,h.toks.to_ (Nat.le_refl _) fun b o hlt=>World.cell?_of_block (Below.heap_setCell W p v b (by simp;omega))⟩
theorem CauSt.need{v':Value}{o:Obj}(h:CauSt w g Bc A c ts sz u nd vn ex vx now W)(x:Rep)(hown:W'.ownsRow w.heap.size 41 2 v' (nd.length+1) (nd.flatMap Rep.cells++x.cells))(hG:(W.alloc o).grownBy W' vn.ownBlock):
 CauSt w g Bc A c ts sz u (nd++ [x]) v' ex vx now (W'.setCell ⟨Bc,1,none⟩ v'):=by
 have h1:=h.below (W':=W.alloc o) ((Below.refl _ _).alloc (Nat.le_refl _) _);have hgr:Gr (fun k=>vn.ownBlock=some k) (W.alloc o) W':=Gr.of_grown hG (fun k e=>e);have hge:∀k,vn.ownBlock=some k→w.heap.size≤k:=fun k hk=>(h1.nd.lt k hk).1
 have hBc:=h.hBc;have hgl:=h.hg;have hb:Blk W' Bc 48 #[.string u,vn,vx]:=hgr.blk h1.blk (own_blk_ne h1.nd h1.blk (by decide));have hr:Blk W' w.heap.size 48 #[.string ⟨#[]⟩,.slice none 0 0,.slice none 0 0]:=hgr.blk h1.res (own_blk_ne h1.nd h1.res (by decide));have hi:InB W' g A c ts now sz:=h1.inb.kept hgr (fun k hk e=>by have:=hge k e;omega);have hx:W'.ownsRow w.heap.size 9 1 vx ex.length (ex.map Value.string):=own_gr h1.ex hgr (own_far h1.ex h1.nd (by decide));have hgw:Gr (· =g) w W':=h1.gr.trans' hgr (fun k hk e=>by have:=hge k e;omega);have hS:Gr (· =Bc) W' (W'.setCell ⟨Bc,1,none⟩ v'):=Gr.setCell _ _ _ rfl;exact⟨hi.far (show g<Bc by omega) _,hgw.far (show w.heap.size≤Bc by omega) _,h.hg,hr.far (show w.heap.size≠Bc by omega) _,by simpa using hb.set_ 1 v',hBc,
  by simpa using own_gr hown hS (fun k hk e=>own_blk_ne hown hb (by decide) (e▸hk)),own_gr hx hS (fun k hk e=>own_blk_ne hx hb (by decide) (e▸hk))⟩
theorem CauSt.exc{v':Value}{o:Obj}(h:CauSt w g Bc A c ts sz u nd vn ex vx now W)(x:ByteArray)(hown:W'.ownsRow w.heap.size 9 1 v' (ex.length+1) (ex.map Value.string++ [.string x]))(hG:(W.alloc o).grownBy W' vx.ownBlock):
 CauSt w g Bc A c ts sz u nd vn (ex++ [x]) v' now (W'.setCell ⟨Bc,2,none⟩ v'):=by
 have h1:=h.below (W':=W.alloc o) ((Below.refl _ _).alloc (Nat.le_refl _) _);have hgr:Gr (fun k=>vx.ownBlock=some k) (W.alloc o) W':=Gr.of_grown hG (fun k e=>e);have hge:∀k,vx.ownBlock=some k→w.heap.size≤k:=fun k hk=>(h1.ex.lt k hk).1
 have hBc:=h.hBc;have hgl:=h.hg;have hb:Blk W' Bc 48 #[.string u,vn,vx]:=hgr.blk h1.blk (own_blk_ne h1.ex h1.blk (by decide));have hr:Blk W' w.heap.size 48 #[.string ⟨#[]⟩,.slice none 0 0,.slice none 0 0]:=hgr.blk h1.res (own_blk_ne h1.ex h1.res (by decide));have hi:InB W' g A c ts now sz:=h1.inb.kept hgr (fun k hk e=>by have:=hge k e;omega);have hx:W'.ownsRow w.heap.size 41 2 vn nd.length (nd.flatMap Rep.cells):=own_gr h1.nd hgr (own_far h1.nd h1.ex (by decide));have hgw:Gr (· =g) w W':=h1.gr.trans' hgr (fun k hk e=>by have:=hge k e;omega);have hS:Gr (· =Bc) W' (W'.setCell ⟨Bc,2,none⟩ v'):=Gr.setCell _ _ _ rfl;exact⟨hi.far (show g<Bc by omega) _,hgw.far (show w.heap.size≤Bc by omega) _,h.hg,hr.far (show w.heap.size≠Bc by omega) _,by simpa using hb.set_ 2 v',hBc,
  own_gr hx hS (fun k hk e=>own_blk_ne hx hb (by decide) (e▸hk)),by simpa using own_gr hown hS (fun k hk e=>own_blk_ne hown hb (by decide) (e▸hk))⟩
end
theorem CauSt.fin{w W:World}{g Bc:Nat}{A:Option Addr}{c:Nat}{ts:List Tok}{sz:Int}{cs:Cs}{An Ax:Option Addr}{cn cx now:Nat}(h:CauSt w g Bc A c ts sz cs.unit cs.needs (.slice An cs.needs.length cn) cs.excl (.slice Ax cs.excl.length cx) now W)
 (hn1:cs.needs.length≤cn) (hn2:cn≤maxLen) (hx1:cs.excl.length≤cx) (hx2:cx≤maxLen):
 (((W.setCell ⟨w.heap.size,0,none⟩ (.string cs.unit)).setCell ⟨w.heap.size,1,none⟩ (.slice An cs.needs.length cn)).setCell ⟨w.heap.size,2,none⟩ (.slice Ax cs.excl.length cx)).cell? ⟨w.heap.size,0,none⟩=some (.string cs.unit)∧
 (((W.setCell ⟨w.heap.size,0,none⟩ (.string cs.unit)).setCell ⟨w.heap.size,1,none⟩ (.slice An cs.needs.length cn)).setCell ⟨w.heap.size,2,none⟩ (.slice Ax cs.excl.length cx)).cell? ⟨w.heap.size,1,none⟩=some (.slice An cs.needs.length cn)∧
 (((W.setCell ⟨w.heap.size,0,none⟩ (.string cs.unit)).setCell ⟨w.heap.size,1,none⟩ (.slice An cs.needs.length cn)).setCell ⟨w.heap.size,2,none⟩ (.slice Ax cs.excl.length cx)).cell? ⟨w.heap.size,2,none⟩=some (.slice Ax cs.excl.length cx)∧
 OwnCs (((W.setCell ⟨w.heap.size,0,none⟩ (.string cs.unit)).setCell ⟨w.heap.size,1,none⟩ (.slice An cs.needs.length cn)).setCell ⟨w.heap.size,2,none⟩ (.slice Ax cs.excl.length cx)) w.heap.size ⟨cs,⟨An,cs.needs.length,cn⟩,⟨Ax,cs.excl.length,cx⟩⟩∧
 InB (((W.setCell ⟨w.heap.size,0,none⟩ (.string cs.unit)).setCell ⟨w.heap.size,1,none⟩ (.slice An cs.needs.length cn)).setCell ⟨w.heap.size,2,none⟩ (.slice Ax cs.excl.length cx)) g A c ts now sz∧
 Gr (· =g) w (((W.setCell ⟨w.heap.size,0,none⟩ (.string cs.unit)).setCell ⟨w.heap.size,1,none⟩ (.slice An cs.needs.length cn)).setCell ⟨w.heap.size,2,none⟩ (.slice Ax cs.excl.length cx)):=by
 have hr:=((h.res.set_ 0 (.string cs.unit)).set_ 1 (.slice An cs.needs.length cn)).set_ 2 (.slice Ax cs.excl.length cx);have hg:=h.hg;have hS:Gr (· =w.heap.size) W (((W.setCell ⟨w.heap.size,0,none⟩ (.string cs.unit)).setCell ⟨w.heap.size,1,none⟩ (.slice An cs.needs.length cn)).setCell ⟨w.heap.size,2,none⟩ (.slice Ax cs.excl.length cx)):=
  ((Gr.setCell (X:=(· =w.heap.size)) W ⟨w.heap.size,0,none⟩ (.string cs.unit) rfl).trans (Gr.setCell (X:=(· =w.heap.size)) _ ⟨w.heap.size,1,none⟩ (.slice An cs.needs.length cn) rfl)).trans (Gr.setCell (X:=(· =w.heap.size)) _ ⟨w.heap.size,2,none⟩ (.slice Ax cs.excl.length cx) rfl)
 have hn:=own_gr h.nd hS (fun k hk e=>own_blk_ne h.nd h.res (by decide) (e▸hk));have hx:=own_gr h.ex hS (fun k hk e=>own_blk_ne h.ex h.res (by decide) (e▸hk));exact⟨hr.cell 0,hr.cell 1,hr.cell 2,⟨rfl,hn1,hn2,hn,rfl,hx1,hx2,hx⟩,h.inb.kept hS (fun k hk e=>by omega),((h.gr.far (p:=⟨w.heap.size,0,none⟩) (Nat.le_refl _) _).far (p:=⟨w.heap.size,1,none⟩) (Nat.le_refl _) _).far (p:=⟨w.heap.size,2,none⟩) (Nat.le_refl _) _⟩
def nowOf(g:Nat)(w:World):Nat:=match w.cell? ⟨g,1,none⟩with | some (.int _ n)=>n.toNat | _=>0
theorem InB.nowOf{w:World}{g:Nat}{A:Option Addr}{c:Nat}{ts:List Tok}{now:Nat}{sz:Int}(h:InB w g A c ts now sz):nowOf g w=now:=by
 have:w.cell? ⟨g,1,none⟩=some (.int .i64 now):=h.blk.cell 1;unfold YtchfcgilpjkmhaaGreatDoor.nowOf;rw[this];simp
theorem putObj_gr(W:World)(l:Nat)(o:Obj):Gr (· =l) W (W.putObj l o):=⟨rfl,rfl,rfl,by simp,fun k hk hn=>World.putObj_heap_other hn⟩
theorem ScB.below{w w':World}{g:Nat}{s:ByteArray}{k:Nat}{v0 v1 v2 v3:Value}(h:ScB w g s k v0 v1 v2 v3)(hb:Below w.heap.size w w'):ScB w' g s k v0 v1 v2 v3:=Blk.below h hb (Blk.lt h)
theorem nowSc{w:World}{g:Nat}{s:ByteArray}{k:Nat}{v0 v1 v2 v3:Value}(h:ScB w g s k v0 v1 v2 v3):nowOf g w=k:=by
 have:w.cell? ⟨g,1,none⟩=some (.int .i64 k):=Blk.cell h 1;unfold nowOf;rw[this];simp
def TestG(g:Nat)(w:World)(f:Nat)(lb:Array Value)(P:Int→Bool):Prop:=∀W,Gr (· =g) w W→∀b:Int,TestAt W f lb b (P b)
theorem TestG.next{g:Nat}{w w':World}{f:Nat}{lb:Array Value}{P:Int→Bool}(h:TestG g w f lb P)(hg:Gr (· =g) w w'):TestG g w' f lb P:=fun W hW=>h W (hg.trans hW)
theorem TestG.at_{g:Nat}{w:World}{f:Nat}{lb:Array Value}{P:Int→Bool}(h:TestG g w f lb P)(b:Int):TestAt w f lb b (P b):=h w (Gr.refl _ _) b
def betP(lo hi b:Int):Bool:=decide (b≥lo)&&decide (b≤hi)
theorem between_g{g:Nat}{lo hi:Int}{B1 B2:Nat}{w:World}(h1:Blk w B1 5 #[.int .u8 lo])(h2:Blk w B2 5 #[.int .u8 hi])(n1:B1≠g)(n2:B2≠g):TestG g w 328 #[.pointer (some ⟨B1,0,none⟩),.pointer (some ⟨B2,0,none⟩)] (betP lo hi):=by
 intro W1 hW1 b W hW;have g1:=hW1.blk h1 n1;have g2:=hW1.blk h2 n2;have c1:=(g1.below hW g1.lt).cell 0;have c2:=(g2.below hW g2.lt).cell 0;unfold betP;clear h1 h2 hW hW1 g1 g2
 cases hlo:decide (b≥lo)with
 | true=>
  cases hhi:decide (b≤hi)with
  | true=>
   go_enter Tryz.func328,Tryz.ntmps328;go_wp2;go_ret;exact⟨rfl,rfl⟩
  | false=>
   go_enter Tryz.func328,Tryz.ntmps328;go_wp2;go_ret;exact⟨rfl,rfl⟩
 | false=>
  go_enter Tryz.func328,Tryz.ntmps328;go_wp2;go_ret;exact⟨rfl,rfl⟩
def amoP(s:ByteArray)(b:Int):Bool:=decide (firstIdx s b.toNat.toUInt8≥0)
theorem among_g{g:Nat}{s:ByteArray}{B:Nat}{w:World}(h:Blk w B 9 #[.string s])(n:B≠g):TestG g w 329 #[.pointer (some ⟨B,0,none⟩)] (amoP s):=
 fun W1 hW1 b=>among_at (hW1.blk h n) rfl
def TestsG(g:Nat)(w:World)(br:Nat)(fs:List (Nat×Array Value×(Int→Bool))):Prop:=
 ∀i (h:i<fs.length),w.cell? ⟨br,i,none⟩=some (.func (.func fs[i].1) #[] fs[i].2.1)∧(∀args w,(callFunc fs[i].1 args).run Tryz.prog w= .ok (.enter fs[i].1 args) w)∧TestG g w fs[i].1 fs[i].2.1 fs[i].2.2
def eitP(fs:List (Nat×Array Value×(Int→Bool)))(b:Int):Bool:=fs.any fun x=>x.2.2 b
theorem any_takes{α:Type}(p:α→Bool)(l:List α){k:Nat}(hk:k<l.length):(l.take (k+1)).any p=((l.take k).any p||p l[k]):=by
 rw[List.take_succ_eq_append_getElem hk,List.any_append];simp
theorem either_g{g:Nat}{B br c:Nat}{w:World}(fs:List (Nat×Array Value×(Int→Bool)))(h:Blk w B 344 #[.slice (some ⟨br,0,none⟩) fs.length c])(n:B≠g)(nr:br≠g)(hbr:br<w.heap.size)(hT:TestsG g w br fs)(hl:fs.length≤1000):
 TestG g w 327 #[.pointer (some ⟨B,0,none⟩)] (eitP fs):=by
 intro W1 hW1 b W hW;have g1:=hW1.blk h n;have c1:=(g1.below hW g1.lt).cell 0;have hcell:∀i (hi:i<fs.length),W.cell? ⟨br,i,none⟩=some (.func (.func fs[i].1) #[] fs[i].2.1):=fun i hi=>
  (hW.cell (p:=⟨br,i,none⟩) (Nat.lt_of_lt_of_le hbr hW1.size)).trans (hW1.cell (hT i hi).1 nr)
 have hen:=fun i hi=>(hT i hi).2.1
 have htst:=fun i hi=>(hT i hi).2.2 W1 hW1 b W hW
 have Hcell:=lz hcell;have Hen:=lz hen;have Htst:=lz htst;clear h hW hT hW1 g1 hcell hen htst;go_enter Tryz.func327,Tryz.ntmps327;go_wp2_with fail;go_loopw [8] (fun t wr=>∃k:Nat,k≤fs.length∧t= .int .i64 k∧wr=W∧Hid (((fs.take k).any fun x=>x.2.2 b)=false)) (fun t _=>fs.length-(intOf t).toNat)
 case atStart=>exact⟨0,Nat.zero_le _,rfl,rfl,rfl⟩
 case round=>
  obtain⟨k,hk,rfl,hwr,hno⟩:=hrel;have hwr:=hwr.symm;subst hwr;by_cases hlt:k<fs.length
  ·have d:=Hcell.out k hlt
   have e:=Hen.out k hlt;have t:=Htst.out k hlt;have hnx:=any_takes (fun x:Nat×Array Value×(Int→Bool)=>x.2.2 b) fs hlt;rw[hno.out,Bool.false_or]at hnx;have hyes:fs[k].2.2 b=true→eitP fs b=true:=fun h=>by
    unfold eitP;rw[List.any_eq_true];exact⟨_,List.getElem_mem hlt,h⟩
   have Hnx:=lz hnx;have Hyes:=lz hyes;have hi0:(0:Int)≤(k:Int):=by omega
   have hi1:(k:Int)<(fs.length:Int):=by omega
   clear hnx hyes hno;obtain⟨⟨f,lb,P⟩,hx⟩:∃x,x=fs[k]:=⟨_,rfl⟩;rw[←hx]at d e t Hnx Hyes;simp only at d e t Hnx Hyes
   cases hp:P b with
   | true=>
    have hr:=lz (Hyes.out hp);rw[hp]at t;have Ht:=lz t;clear Hyes Hnx hp t hx;go_wp2_with (go_at_fn f;refine Ht.out.mono ?_;rintro e w' ⟨rfl,rfl⟩);go_ret;exact⟨by rw[hr.out];rfl,rfl⟩
   | false=>
    have hr:=lz (Hnx.out.trans hp);rw[hp]at t;have Ht:=lz t;clear Hyes Hnx hp t hx;go_wp2_with (go_at_fn f;refine Ht.out.mono ?_;rintro e w' ⟨rfl,rfl⟩);go_roundw
    case rel=>exact⟨k+1,by omega,by go_num,by first | rfl | trivial,hr⟩
    case measure=>simp[intOf];omega
  ·obtain rfl:k=fs.length:=by omega
   have hr:=hno.out;rw[List.take_length]at hr;have Hr:=lz (show eitP fs b=false from hr);clear hno hr;go_wp2_with fail;go_ret;exact⟨by rw[Hr.out];rfl,rfl⟩
def runEnd(P:Int→Bool)(s:ByteArray):Nat→Nat→Nat
 | 0,k=>k
 | f+1,k=>if k<s.size∧P (bAt s k)=true then runEnd P s f (k+1)else k
theorem ScB.gr{w w':World}{X:Nat→Prop}{g:Nat}{s:ByteArray}{k:Nat}{v0 v1 v2 v3:Value}(h:ScB w g s k v0 v1 v2 v3)(hg:Gr X w w')(hx:¬X g):ScB w' g s k v0 v1 v2 v3:=Gr.blk hg h hx
theorem ScB.step{w:World}{g:Nat}{s:ByteArray}{k:Nat}{v0 v1 v2 v3:Value}(h:ScB w g s k v0 v1 v2 v3)(m:Nat):ScB (w.setCell ⟨g,1,none⟩ (.int .i64 m)) g s m v0 v1 v2 v3:=by
 have:=Blk.set_ h 1 (.int .i64 m);simpa [ScB]using this
section
variable {g:Nat} {s:ByteArray} {v0 v1 v2 v3:Value}
set_option maxHeartbeats 1000000 in
theorem while_g(P:Int→Bool)(f:Nat)(lb:Array Value)(k F:Nat)(w:World)(h:ScB w g s k v0 v1 v2 v3)(hF:s.size≤k+F)(hsz:s.size≤1000000)(hk:k≤s.size)(eg:∀args w,(callFunc f args).run Tryz.prog w= .ok (.enter f args) w)(ht:TestG g w f lb P):
 Calls Tryz.prog 331 #[.pointer (some ⟨g,0,none⟩),.func (.func f) #[] lb] w fun e w'=>(∃v,e= .returned v)∧ScB w' g s (runEnd P s F k) v0 v1 v2 v3∧Gr (· =g) w w':=by
 have H:=lz h;have Ht:=lz ht;clear h ht;go_enter Tryz.func331,Tryz.ntmps331;go_wp2_with fail;go_loopw [] (fun wr=>∃(j F':Nat),j≤s.size∧s.size≤j+F'∧ScB wr g s j v0 v1 v2 v3∧Gr (· =g) w wr∧Hid (runEnd P s F' j=runEnd P s F k)) (fun wr=>s.size-nowOf g wr)
 case atStart=>exact⟨k,F,hk,hF,H.out,Gr.refl _ _,rfl⟩
 case round=>
  obtain⟨j,F',hj,hF',hS,hG,hE⟩:=hrel;have hnow:=nowSc hS;by_cases hlt:j<s.size
  ·have hm:=more_at f lb (bAt s j) (P (bAt s j)) wr hS hlt rfl eg ((Ht.out.next hG).at_ _)
   have Hm:=lz hm;obtain⟨F2,rfl⟩:∃F2,F'=F2+1:=⟨F'-1,by omega⟩;have hrun:runEnd P s (F2+1) j=if P (bAt s j)=true then runEnd P s F2 (j+1)else j:=by
    rw[runEnd];by_cases hp:P (bAt s j)=true
    ·rw[if_pos ⟨hlt,hp⟩,if_pos hp]
    ·rw[if_neg (fun hc=>hp hc.2),if_neg hp]
   have Hrun:=lz hrun;have HS:=lz hS;have HG:=lz hG;clear hm hrun hS hG
   cases hp:P (bAt s j)with
   | false=>
    rw[hp]at Hm Hrun;have he:runEnd P s F k=j:=by rw[←hE.out,Hrun.out];simp
    have He:=lz he;clear he hp;go_wp2_with fail;refine Hm.out.mono ?_;rintro e w' ⟨rfl,m,rfl⟩;have hby:Below wr.heap.size wr (wr.drewN m):=only_below (Below.refl _ _);have HR:=lz (And.intro (ScB.below HS.out hby) (HG.out.trans (Gr.of_below hby)));clear hby
    go_wp2_with fail;go_end0;exact⟨⟨_,rfl⟩,by rw[He.out];exact HR.out.1,HR.out.2⟩
   | true=>
    rw[hp]at Hm Hrun;have he:runEnd P s F2 (j+1)=runEnd P s F k:=by rw[←hE.out,Hrun.out];simp
    have He:=lz he;clear he hp;go_wp2_with fail;refine Hm.out.mono ?_;rintro e w' ⟨rfl,m,rfl⟩;have hby:Below wr.heap.size wr (wr.drewN m):=only_below (Below.refl _ _);have hS2:=ScB.below HS.out hby
    have hG2:=HG.out.trans (Gr.of_below (X:=(· =g)) hby);obtain⟨y,hy⟩:∃y,y=wr.drewN m:=⟨_,rfl⟩;rw[←hy]at hS2 hG2 ⊢;have y1:y.cell? ⟨g,1,none⟩=some (.int .i64 j):=Blk.cell hS2 1;have yf:y.frozen? ⟨g,1,none⟩=false:=Blk.frozen hS2 1;have hS3:=hS2.step (j+1);have hG3:=hG2.trans (Gr.setCell (X:=(· =g)) y ⟨g,1,none⟩ (.int .i64 ((j+1:Nat):Int)) rfl);have hnow3:=nowSc hS3;have HR:=lz (And.intro hS3 hG3);clear hby hS2 hG2 hy hS3 hG3 HS HG;go_wp2_with fail;go_roundw
    case rel=>exact⟨j+1,F2,by omega,by omega,by simpa using HR.out.1,by simpa using HR.out.2,He⟩
    case measure=>rw[hnow];have:=hnow3;simp at this ⊢;omega
  ·obtain rfl:j=s.size:=by omega
   have hm:=more_end (.func (.func f) #[] lb) wr hS (Nat.le_refl _);have Hm:=lz hm;have he:runEnd P s F k=s.size:=by
    rw[←hE.out]
    cases F' with
    | zero=>rfl
    | succ F'=>rw[runEnd,if_neg (fun hc=>absurd hc.1 (Nat.lt_irrefl _))]
   have He:=lz he;have HS:=lz hS;have HG:=lz hG;clear hm he hS hG;go_wp2_with fail;refine Hm.out.mono ?_;rintro e w' ⟨rfl,m,rfl⟩;have hby:Below wr.heap.size wr (wr.drewN m):=only_below (Below.refl _ _);have HR:=lz (And.intro (ScB.below HS.out hby) (HG.out.trans (Gr.of_below hby)));clear hby
   go_wp2_with fail;go_end0;exact⟨⟨_,rfl⟩,by rw[He.out];exact HR.out.1,HR.out.2⟩
end
open Go.Act renaming put → zP
open List renaming setIfInBounds_toArray → zA, set_cons_zero → zB, set_cons_succ → zC
theorem runEnd_le(P:Int→Bool)(s:ByteArray):∀(f k:Nat),k≤s.size→runEnd P s f k≤s.size
 | 0,k,h=>h
 | f+1,k,h=>by
  rw[runEnd];split
  ·rename_i hc
   exact runEnd_le P s f (k+1) (by omega)
  ·exact h
theorem runEnd_ge(P:Int→Bool)(s:ByteArray):∀(f k:Nat),k≤runEnd P s f k
 | 0,k=>Nat.le_refl _
 | f+1,k=>by
  rw[runEnd];split
  ·exact Nat.le_trans (Nat.le_succ k) (runEnd_ge P s f (k+1))
  ·exact Nat.le_refl _
theorem runEnd_step{P:Int→Bool}{s:ByteArray}{f k:Nat}(hk:k<s.size)(hp:P (bAt s k)=true):k<runEnd P s (f+1) k:=by
 rw[runEnd,if_pos ⟨hk,hp⟩];exact runEnd_ge P s f (k+1)
def blankS:ByteArray:=⟨#[32,9,10,13]⟩
def hashS:ByteArray:=⟨#[35]⟩
def nlP(b:Int):Bool:=b !=10
def skipV(s:ByteArray):Nat→Nat→Nat
 | 0,k=>k
 | f+1,k=>if k<s.size∧amoP hashS (bAt s k)=true then skipV s f (runEnd (amoP blankS) s s.size (runEnd nlP s s.size k))else k
def skipE(s:ByteArray)(k:Nat):Nat:=skipV s s.size (runEnd (amoP blankS) s s.size k)
theorem hash_nl{s:ByteArray}{k:Nat}(hk:k<s.size)(h:amoP hashS (bAt s k)=true):nlP (bAt s k)=true:=by
 unfold amoP at h;rw[←bAt_eq hk]at h ⊢;have hb:(((s[k]'hk).toNat:Int)).toNat.toUInt8=s[k]'hk:=by
  rw[Int.toNat_natCast];exact UInt8.ofNat_toNat
 rw[hb]at h
 replace h:decide (0≤firstIdx hashS (s[k]'hk))=true:=h
 rw[firstIdx_nonneg]at h;have h35:s[k]'hk=35:=by
  simp[hashS]at h;exact h.symm
 rw[h35];rfl
theorem skip_nl{g:Nat}{w:World}:TestG g w 333 #[] nlP:=by
 intro W1 hW1 b W hW;clear hW1 hW;unfold nlP;go_enter Tryz.func333,Tryz.ntmps333;go_wp2;go_ret;exact⟨rfl,rfl⟩
set_option maxHeartbeats 4000000 in
theorem skip_g{g:Nat}{s:ByteArray}{v0 v1 v2 v3:Value}(k:Nat)(w:World)(h:ScB w g s k v0 v1 v2 v3)(hk:k≤s.size)(hsz:s.size≤1000000):
 Calls Tryz.prog 316 #[.pointer (some ⟨g,0,none⟩)] w fun e w'=>(∃v,e= .returned v)∧ScB w' g s (skipE s k) v0 v1 v2 v3∧Gr (· =g) w w':=by
 have hgl:g<w.heap.size:=Blk.lt h;have egA:∀args w,(callFunc 329 args).run Tryz.prog w= .ok (.enter 329 args) w:=enters_of Tryz.func329 kz rfl;have egN:∀args w,(callFunc 333 args).run Tryz.prog w= .ok (.enter 333 args) w:=enters_of Tryz.func333 kz rfl;have hblank:∀(j:Nat) (W:World),g<W.heap.size→j≤s.size→ScB W g s j v0 v1 v2 v3→Calls Tryz.prog 331 #[.pointer (some ⟨g,0,none⟩),.func (.func 329) #[] #[.pointer (some ⟨W.heap.size,0,none⟩)]] (W.alloc (.cells #[.string ⟨#[32,9,10,13]⟩] 9)) fun e w'=>(∃v,e= .returned v)∧ScB w' g s (runEnd (amoP blankS) s s.size j) v0 v1 v2 v3∧Gr (· =g) (W.alloc (.cells #[.string ⟨#[32,9,10,13]⟩] 9)) w':=fun j W hgW hj hS=>
  while_g (amoP blankS) _ _ j s.size _ (ScB.below hS ((Below.refl _ W).alloc (Nat.le_refl _) _)) (by omega) hsz hj egA (among_g (s:=blankS) (Blk.new W 9 #[.string ⟨#[32,9,10,13]⟩]) (by omega))
 have hmore:∀(j:Nat) (W:World),g<W.heap.size→j≤s.size→ScB W g s j v0 v1 v2 v3→CU 332 #[.pointer (some ⟨g,0,none⟩),.func (.func 329) #[] #[.pointer (some ⟨W.heap.size,0,none⟩)]] (W.alloc (.cells #[.string ⟨#[35]⟩] 9)) (.bool (decide (j<s.size)&&amoP hashS (bAt s j))):=fun j W hgW hj hS=>by
  have hS2:=ScB.below hS ((Below.refl _ W).alloc (Nat.le_refl _) (.cells #[.string ⟨#[35]⟩] 9));by_cases hlt:j<s.size
  ·rw[decide_eq_true hlt,Bool.true_and]
   refine(more_at _ _ (bAt s j) (amoP hashS (bAt s j)) _ hS2 hlt rfl egA ((among_g (g:=g) (s:=hashS) (Blk.new W 9 #[.string ⟨#[35]⟩]) (by omega)).at_ _)).mono ?_;rintro e w' ⟨he,m,rfl⟩;exact⟨he,only_below (Below.refl _ _)⟩
  ·rw[decide_eq_false hlt,Bool.false_and]
   refine(more_end _ _ hS2 (by omega)).mono ?_;rintro e w' ⟨he,m,rfl⟩;exact⟨he,only_below (Below.refl _ _)⟩
 have hnl:∀(j:Nat) (W:World),j≤s.size→ScB W g s j v0 v1 v2 v3→Calls Tryz.prog 331 #[.pointer (some ⟨g,0,none⟩),.func (.func 333) #[] #[]] W fun e w'=>(∃v,e= .returned v)∧ScB w' g s (runEnd nlP s s.size j) v0 v1 v2 v3∧Gr (· =g) W w':=fun j W hj hS=>
  while_g nlP _ _ j s.size W hS (by omega) hsz hj egN skip_nl
 have Hblank:=lz hblank;have Hmore:=lz hmore;have Hnl:=lz hnl;have H:=lz h;have H1:=lz (hblank k w.drew hgl hk (ScB.below h (Below.refl _ _).drew));clear hblank hmore hnl h egA egN;go_enter Tryz.func316,Tryz.ntmps316;go_wp2_with fail;refine wp_region_S (fun _=>True) 4 kz trivial (fun _=> ?_);refine wpAnyS_takeT (i:=0) (v:= ?_) rfl kz kz kz kz (fun c a w h=>h) (Or.inl ⟨by rfl,?_⟩) trivial ?_;rotate_left
 ·intro w hSw
  exact gz
 simp only[zP,zA,zB,zC];refine wpAnyS_takeT (i:=1) (v:= ?_) rfl kz kz kz kz (fun c a w h=>h) (Or.inl ⟨by rfl,?_⟩) trivial ?_;rotate_left
 ·intro w hSw
  exact gz
 simp only[zP,zA,zB,zC];refine wpAnyS_takeT (i:=2) (v:= ?_) rfl kz kz kz kz (fun c a w h=>h) (Or.inl ⟨by rfl,?_⟩) trivial ?_;rotate_left
 ·intro w hSw
  exact gz
 simp only[zP,zA,zB,zC];refine RQ 3 rfl fun K hK=> ?_;go_simp;refine(among_c _ _).mono ?_;rintro e w' ⟨rfl,rfl⟩;refine hK.out _ _ (fun _=>trivial) ?_;clear hK;refine RQ 4 rfl fun K hK=> ?_;go_simp;refine(H1.out).mono ?_;rintro e w1 ⟨⟨v,rfl⟩,hS1,hG1⟩;refine hK.out _ _ (fun _=>trivial) ?_;clear hK;refine wpAnyS_done kz ?_ _;have hG1w:Gr (· =g) w w1:=(Gr.of_below (X:=(· =g)) ((Below.refl w.heap.size w).drew.alloc (Nat.le_refl _) (.cells #[.string ⟨#[32,9,10,13]⟩] 9))).trans hG1;have HR:=lz (And.intro hS1 hG1w);clear hS1 hG1 hG1w H1;go_wp2_with fail;go_loopw [] (fun wr=>∃(j f:Nat),j≤s.size∧s.size≤j+f∧ScB wr g s j v0 v1 v2 v3∧Gr (· =g) w wr∧Hid (skipV s f j=skipE s k)) (fun wr=>s.size-nowOf g wr)
 case atStart=>exact⟨_,s.size,runEnd_le _ s _ _ hk,by omega,HR.out.1,HR.out.2,rfl⟩
 case round=>
  obtain⟨j,f,hj,hf,hS,hG,hE⟩:=hrel;clear HR;have hnow:=nowSc hS;have hgr:g<wr.heap.size:=Blk.lt hS;have Hm:=lz (Hmore.out j wr.drew hgr hj (ScB.below hS (Below.refl _ _).drew));have HS:=lz hS;have HG:=lz hG;clear hS hG
  cases hc:(decide (j<s.size)&&amoP hashS (bAt s j))with
  | false=>
   rw[hc]at Hm;have he:skipE s k=j:=by
    rw[←hE.out]
    cases f with
    | zero=>rfl
    | succ f=>
     rw[skipV,if_neg];rintro⟨h1,h2⟩;rw[decide_eq_true h1,h2]at hc
     cases hc
   have He:=lz he;clear he hc;go_wp2_with fail;refine wp_region_S (fun _=>True) 4 kz trivial (fun _=> ?_);refine wpAnyS_takeT (i:=0) (v:= ?_) rfl kz kz kz kz (fun c a w h=>h) (Or.inl ⟨by rfl,?_⟩) trivial ?_;rotate_left
   ·intro w hSw
    exact gz
   simp only[zP,zA,zB,zC];refine wpAnyS_takeT (i:=1) (v:= ?_) rfl kz kz kz kz (fun c a w h=>h) (Or.inl ⟨by rfl,?_⟩) trivial ?_;rotate_left
   ·intro w hSw
    exact gz
   simp only[zP,zA,zB,zC];refine wpAnyS_takeT (i:=2) (v:= ?_) rfl kz kz kz kz (fun c a w h=>h) (Or.inl ⟨by rfl,?_⟩) trivial ?_;rotate_left
   ·intro w hSw
    exact gz
   simp only[zP,zA,zB,zC];refine RQ 3 rfl fun K hK=> ?_;go_simp;refine(among_c _ _).mono ?_;rintro e w' ⟨rfl,rfl⟩;refine hK.out _ _ (fun _=>trivial) ?_;clear hK;refine RQ 4 rfl fun K hK=> ?_;go_simp;refine(Hm.out).mono ?_;rintro e w4 ⟨rfl,hb4⟩;refine hK.out _ _ (fun _=>trivial) ?_;clear hK;refine wpAnyS_done kz ?_ _;have hby:Below wr.heap.size wr w4:=((Below.refl wr.heap.size wr).drew.alloc (Nat.le_refl _) (.cells #[.string ⟨#[35]⟩] 9)).trans (hb4.mono (by simp));have HR:=lz (And.intro (ScB.below HS.out hby) (HG.out.trans (Gr.of_below hby)));clear hb4 hby Hm;go_wp2_with fail;go_end0;exact⟨⟨_,rfl⟩,by rw[He.out];exact HR.out.1,HR.out.2⟩
  | true=>
   rw[hc]at Hm;rw[Bool.and_eq_true,decide_eq_true_eq]at hc;obtain⟨hlt,hhash⟩:=hc;have hnlp:=hash_nl hlt hhash;obtain⟨f,rfl⟩:∃f',f=f'+1:=⟨f-1,by omega⟩;have he:skipV s f (runEnd (amoP blankS) s s.size (runEnd nlP s s.size j))=skipE s k:=by
    rw[←hE.out,skipV,if_pos ⟨hlt,hhash⟩]
   obtain⟨n,hn⟩:∃n,s.size=n+1:=⟨s.size-1,by omega⟩;have hprog:j<runEnd nlP s s.size j:=by rw[hn];exact runEnd_step hlt hnlp
   have hle1:=runEnd_le nlP s s.size j (by omega);have hge2:=runEnd_ge (amoP blankS) s s.size (runEnd nlP s s.size j);have hle2:=runEnd_le (amoP blankS) s s.size (runEnd nlP s s.size j) hle1;have He:=lz he;clear he hlt hhash hnlp hn;go_wp2_with fail;refine wp_region_S (fun _=>True) 4 kz trivial (fun _=> ?_);refine wpAnyS_takeT (i:=0) (v:= ?_) rfl kz kz kz kz (fun c a w h=>h) (Or.inl ⟨by rfl,?_⟩) trivial ?_;rotate_left
   ·intro w hSw
    exact gz
   simp only[zP,zA,zB,zC];refine wpAnyS_takeT (i:=1) (v:= ?_) rfl kz kz kz kz (fun c a w h=>h) (Or.inl ⟨by rfl,?_⟩) trivial ?_;rotate_left
   ·intro w hSw
    exact gz
   simp only[zP,zA,zB,zC];refine wpAnyS_takeT (i:=2) (v:= ?_) rfl kz kz kz kz (fun c a w h=>h) (Or.inl ⟨by rfl,?_⟩) trivial ?_;rotate_left
   ·intro w hSw
    exact gz
   simp only[zP,zA,zB,zC];refine RQ 3 rfl fun K hK=> ?_;go_simp;refine(among_c _ _).mono ?_;rintro e w' ⟨rfl,rfl⟩;refine hK.out _ _ (fun _=>trivial) ?_;clear hK;refine RQ 4 rfl fun K hK=> ?_;go_simp;refine(Hm.out).mono ?_;rintro e w4 ⟨rfl,hb4⟩;refine hK.out _ _ (fun _=>trivial) ?_;clear hK;refine wpAnyS_done kz ?_ _;have hby:Below wr.heap.size wr w4:=((Below.refl wr.heap.size wr).drew.alloc (Nat.le_refl _) (.cells #[.string ⟨#[35]⟩] 9)).trans (hb4.mono (by simp));have hS4:=ScB.below HS.out hby
   have HG4:=lz (HG.out.trans (Gr.of_below (X:=(· =g)) hby));have Hw5:=lz (Hnl.out j w4 hj hS4);clear hb4 hby Hm hS4 HS HG;go_wp2_with fail;refine Hw5.out.mono ?_;rintro e w5 ⟨⟨v,rfl⟩,hS5,hG5⟩;have hgl5:g<w5.heap.size:=Blk.lt hS5;have Hw6:=lz (Hblank.out _ w5.drew hgl5 hle1 (ScB.below hS5 (Below.refl _ _).drew));have HG5:=lz (HG4.out.trans hG5);clear hS5 hG5 Hw5 HG4;go_wp2_with fail;refine wp_region_S (fun _=>True) 4 kz trivial (fun _=> ?_);refine wpAnyS_takeT (i:=0) (v:= ?_) rfl kz kz kz kz (fun c a w h=>h) (Or.inl ⟨by rfl,?_⟩) trivial ?_;rotate_left
   ·intro w hSw
    exact gz
   simp only[zP,zA,zB,zC];refine wpAnyS_takeT (i:=1) (v:= ?_) rfl kz kz kz kz (fun c a w h=>h) (Or.inl ⟨by rfl,?_⟩) trivial ?_;rotate_left
   ·intro w hSw
    exact gz
   simp only[zP,zA,zB,zC];refine wpAnyS_takeT (i:=2) (v:= ?_) rfl kz kz kz kz (fun c a w h=>h) (Or.inl ⟨by rfl,?_⟩) trivial ?_;rotate_left
   ·intro w hSw
    exact gz
   simp only[zP,zA,zB,zC];refine RQ 3 rfl fun K hK=> ?_;go_simp;refine(among_c _ _).mono ?_;rintro e w' ⟨rfl,rfl⟩;refine hK.out _ _ (fun _=>trivial) ?_;clear hK;refine RQ 4 rfl fun K hK=> ?_;go_simp;refine(Hw6.out).mono ?_;rintro e w6 ⟨⟨v2_,rfl⟩,hS6,hG6⟩;refine hK.out _ _ (fun _=>trivial) ?_;clear hK;refine wpAnyS_done kz ?_ _;have hG6w:=HG5.out.trans ((Gr.of_below (X:=(· =g)) ((Below.refl w5.heap.size w5).drew.alloc (Nat.le_refl _) (.cells #[.string ⟨#[32,9,10,13]⟩] 9))).trans hG6);have hnow6:=nowSc hS6;have HR:=lz (And.intro hS6 hG6w);clear hS6 hG6 hG6w Hw6 HG5;go_wp2_with fail;go_roundw
   case rel=>exact⟨_,f,hle2,by omega,HR.out.1,HR.out.2,He⟩
   case measure=>rw[hnow,hnow6];omega
end Go.Proofs.YtchfcgilpjkmhaaGreatDoor
