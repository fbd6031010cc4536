import Derived.StillTailTactics
import Derived.BigQuiet
import Derived.Test.YtmdgooofdmpcjaaGreatDoorY0
import Derived.Test.YtmdgooofdmpcjaaGreatDoorY3
import Derived.Test.YtmdgooofdmpcjaaGreatDoorY6
set_option maxRecDepth 100000
set_option maxHeartbeats 8000000
set_option linter.unusedSimpArgs false
set_option linter.unusedVariables false
set_option linter.unusedSectionVars false
open Go.Proofs.Tryz renaming prog → pG
namespace Go.Proofs.YtmdgooofdmpcjaaGreatDoor
section
open Go.ChangeShapes Go.WideShapes Go.ChangeAt Go.RowKit
attribute [local go_sem] Oper.semAt_some
theorem cB{α:Type}(p:α→Bool)(l:List α):(l.any fun x=> !p x)= !(l.all p):=by
 induction l with
 | nil=>rfl
 | cons x l ih=>simp only[List.any_cons,List.all_cons,ih,Bool.not_and]
theorem aG1(g:Nat)(lb:Array Value)(eg:∀args w,(callFunc g args).run pG w= .ok (.enter g args) w)(Bx:Nat)(b:Bool)(x:fC)(W:World)(hb:ah W Bx 144 #[.func (.func g) #[] lb])
 (au:∀W',Below W.heap.size W W'→CU g (#[x.val]++lb) W' (.bool b)):
 CU 224 #[x.val,.pointer (some ⟨Bx,0,none⟩)] W (.bool (!b)):=by
 have hc:=au (W.alloc (.cells #[.string x.c.unit,.slice x.n.a x.n.n x.n.c,.slice x.x.a x.x.n x.x.c] 83)) (bN);have c0:(W.alloc (.cells #[.string x.c.unit,.slice x.n.a x.n.n x.n.c,.slice x.x.a x.x.n x.x.c] 83)).cell? ⟨Bx,0,none⟩=some (.func (.func g) #[] lb):=(hb.alloc _).cell 0;dsimp only[fC.val]at hc;have Hc:=lz hc;have hlt:=hb.lt;clear au hb hc;go_enter Tryz.func224,Tryz.ntmps224;go_wp2_with (go_at_fn g;refine Hc.out.mono ?_;rintro e w' ⟨rfl,hb'⟩);go_ret;exact⟨rfl,((Below.refl _ W).alloc nL (.cells #[.string x.c.unit,.slice x.n.a x.n.n x.n.c,.slice x.x.a x.x.n x.x.c] 83)).trans (hb'.mono qz)⟩
theorem aBL(g:Nat)(lb:Array Value)(p:fC→Bool)(eg:∀args w,(callFunc g args).run pG w= .ok (.enter g args) w)(l:List fC)(A:Option Addr)(c:Nat)(w:World)
 (hp:JW g lb p l w) (h:kr w w.heap.size A l) (hl:l.length≤9223372036854775807):
 CU 129 #[.slice A l.length c,.func (.func g) #[] lb] w (.bool (l.all p)):=by
 have h1:=ah.new w 144 #[.func (.func g) #[] lb];have bY:Below w.heap.size w (w.alloc (.cells #[.func (.func g) #[] lb] 144)):=bN;have aZ:=jJ 224 #[.pointer (some ⟨w.heap.size,0,none⟩)] (fun x=> !p x) (enters_of Tryz.func224 kz rfl) l A c (w.alloc (.cells #[.func (.func g) #[] lb] 144))
  (fun W x hx hW fK=>aG1 g lb eg _ (p x) x W (h1.below hW h1.lt) fun W' hW'=>hp W' x hx (bY.trans ((hW.mono bY.size).trans (hW'.mono (nT bY.size hW.size)))) (fK.below hW')) (h.below bY) hl
 rw[cB]at aZ;have eP:=lz aZ;generalize l.all p=q at *;clear h1 bY aZ hp h;go_enter Tryz.func129,Tryz.ntmps129;go_wp2_with fail;refine eP.out.mono ?_;rintro e w1 ⟨rfl,aU⟩;have HB:=lz (((Below.refl _ w).alloc nL (.cells #[.func (.func g) #[] lb] 144)).trans (aU.mono qz));clear eP aU;go_wp2;go_ret;exact⟨by cases q<;>rfl,HB.out⟩
theorem aG2(g:Nat)(lb:Array Value)(eg:∀args w,(callFunc g args).run pG w= .ok (.enter g args) w)(Bx:Nat)(b:Bool)(x:fC)(W:World)(hb:ah W Bx 144 #[.func (.func g) #[] lb])
 (au:∀W',Below W.heap.size W W'→CU g (#[x.val]++lb) W' (.bool b)):
 CU 150 #[x.val,.pointer (some ⟨Bx,0,none⟩)] W (.bool (!b)):=by
 have hc:=au (W.alloc (.cells #[.string x.c.unit,.slice x.n.a x.n.n x.n.c,.slice x.x.a x.x.n x.x.c] 83)) (bN);have c0:(W.alloc (.cells #[.string x.c.unit,.slice x.n.a x.n.n x.n.c,.slice x.x.a x.x.n x.x.c] 83)).cell? ⟨Bx,0,none⟩=some (.func (.func g) #[] lb):=(hb.alloc _).cell 0;dsimp only[fC.val]at hc;have Hc:=lz hc;have hlt:=hb.lt;clear au hb hc;go_enter Tryz.func150,Tryz.ntmps150;go_wp2_with (go_at_fn g;refine Hc.out.mono ?_;rintro e w' ⟨rfl,hb'⟩);go_ret;exact⟨rfl,((Below.refl _ W).alloc nL (.cells #[.string x.c.unit,.slice x.n.a x.n.n x.n.c,.slice x.x.a x.x.n x.x.c] 83)).trans (hb'.mono qz)⟩
theorem aE9(g:Nat)(lb:Array Value)(p:fC→Bool)(eg:∀args w,(callFunc g args).run pG w= .ok (.enter g args) w)(l:List fC)(A:Option Addr)(c:Nat)(w:World)
 (hp:JW g lb p l w) (h:kr w w.heap.size A l) (hl:l.length≤9223372036854775807):
 CU 69 #[.slice A l.length c,.func (.func g) #[] lb] w (.bool (l.all p)):=by
 have h1:=ah.new w 144 #[.func (.func g) #[] lb];have bY:Below w.heap.size w (w.alloc (.cells #[.func (.func g) #[] lb] 144)):=bN;have aZ:=jJ 150 #[.pointer (some ⟨w.heap.size,0,none⟩)] (fun x=> !p x) (enters_of Tryz.func150 kz rfl) l A c (w.alloc (.cells #[.func (.func g) #[] lb] 144))
  (fun W x hx hW fK=>aG2 g lb eg _ (p x) x W (h1.below hW h1.lt) fun W' hW'=>hp W' x hx (bY.trans ((hW.mono bY.size).trans (hW'.mono (nT bY.size hW.size)))) (fK.below hW')) (h.below bY) hl
 rw[cB]at aZ;have eP:=lz aZ;generalize l.all p=q at *;clear h1 bY aZ hp h;go_enter Tryz.func69,Tryz.ntmps69;go_wp2_with fail;refine eP.out.mono ?_;rintro e w1 ⟨rfl,aU⟩;have HB:=lz (((Below.refl _ w).alloc nL (.cells #[.func (.func g) #[] lb] 144)).trans (aU.mono qz));clear eP aU;go_wp2;go_ret;exact⟨by cases q<;>rfl,HB.out⟩
theorem aG3(g:Nat)(lb:Array Value)(eg:∀args w,(callFunc g args).run pG w= .ok (.enter g args) w)(Bx:Nat)(b:Bool)(x:jI)(W:World)(hb:ah W Bx 142 #[.func (.func g) #[] lb])
 (au:∀W',Below W.heap.size W W'→CU g (#[x.val]++lb) W' (.bool b)):
 CU 275 #[x.val,.pointer (some ⟨Bx,0,none⟩)] W (.bool (!b)):=by
 have hc:=au (W.alloc (.cells #[.string x.unit,.int .i64 x.code] 85)) (bN);have c0:(W.alloc (.cells #[.string x.unit,.int .i64 x.code] 85)).cell? ⟨Bx,0,none⟩=some (.func (.func g) #[] lb):=(hb.alloc _).cell 0;dsimp only[jI.val]at hc;have Hc:=lz hc;have hlt:=hb.lt;clear au hb hc;go_enter Tryz.func275,Tryz.ntmps275;go_wp2_with (go_at_fn g;refine Hc.out.mono ?_;rintro e w' ⟨rfl,hb'⟩);go_ret;exact⟨rfl,((Below.refl _ W).alloc nL (.cells #[.string x.unit,.int .i64 x.code] 85)).trans (hb'.mono qz)⟩
theorem aA9(g:Nat)(lb:Array Value)(p:jI→Bool)(eg:∀args w,(callFunc g args).run pG w= .ok (.enter g args) w)(l:List jI)(A:Option Addr)(c:Nat)(w:World)
 (hp:CG g lb p l w) (h:jE w w.heap.size A l) (hl:l.length≤9223372036854775807):
 CU 225 #[.slice A l.length c,.func (.func g) #[] lb] w (.bool (l.all p)):=by
 have h1:=ah.new w 142 #[.func (.func g) #[] lb];have bY:Below w.heap.size w (w.alloc (.cells #[.func (.func g) #[] lb] 142)):=bN;have aZ:=uG 275 #[.pointer (some ⟨w.heap.size,0,none⟩)] (fun x=> !p x) (enters_of Tryz.func275 kz rfl) l A c (w.alloc (.cells #[.func (.func g) #[] lb] 142))
  (fun W x hx hW=>aG3 g lb eg _ (p x) x W (h1.below hW h1.lt) fun W' hW'=>hp W' x hx (bY.trans ((hW.mono bY.size).trans (hW'.mono (nT bY.size hW.size))))) (h.below bY) hl
 rw[cB]at aZ;have eP:=lz aZ;generalize l.all p=q at *;clear h1 bY aZ hp h;go_enter Tryz.func225,Tryz.ntmps225;go_wp2_with fail;refine eP.out.mono ?_;rintro e w1 ⟨rfl,aU⟩;have HB:=lz (((Below.refl _ w).alloc nL (.cells #[.func (.func g) #[] lb] 142)).trans (aU.mono qz));clear eP aU;go_wp2;go_ret;exact⟨by cases q<;>rfl,HB.out⟩
theorem aG4(g:Nat)(lb:Array Value)(eg:∀args w,(callFunc g args).run pG w= .ok (.enter g args) w)(Bx:Nat)(b:Bool)(x:jI)(W:World)(hb:ah W Bx 142 #[.func (.func g) #[] lb])
 (au:∀W',Below W.heap.size W W'→CU g (#[x.val]++lb) W' (.bool b)):
 CU 142 #[x.val,.pointer (some ⟨Bx,0,none⟩)] W (.bool (!b)):=by
 have hc:=au (W.alloc (.cells #[.string x.unit,.int .i64 x.code] 85)) (bN);have c0:(W.alloc (.cells #[.string x.unit,.int .i64 x.code] 85)).cell? ⟨Bx,0,none⟩=some (.func (.func g) #[] lb):=(hb.alloc _).cell 0;dsimp only[jI.val]at hc;have Hc:=lz hc;have hlt:=hb.lt;clear au hb hc;go_enter Tryz.func142,Tryz.ntmps142;go_wp2_with (go_at_fn g;refine Hc.out.mono ?_;rintro e w' ⟨rfl,hb'⟩);go_ret;exact⟨rfl,((Below.refl _ W).alloc nL (.cells #[.string x.unit,.int .i64 x.code] 85)).trans (hb'.mono qz)⟩
theorem aE8(g:Nat)(lb:Array Value)(p:jI→Bool)(eg:∀args w,(callFunc g args).run pG w= .ok (.enter g args) w)(l:List jI)(A:Option Addr)(c:Nat)(w:World)
 (hp:CG g lb p l w) (h:jE w w.heap.size A l) (hl:l.length≤9223372036854775807):
 CU 64 #[.slice A l.length c,.func (.func g) #[] lb] w (.bool (l.all p)):=by
 have h1:=ah.new w 142 #[.func (.func g) #[] lb];have bY:Below w.heap.size w (w.alloc (.cells #[.func (.func g) #[] lb] 142)):=bN;have aZ:=uG 142 #[.pointer (some ⟨w.heap.size,0,none⟩)] (fun x=> !p x) (enters_of Tryz.func142 kz rfl) l A c (w.alloc (.cells #[.func (.func g) #[] lb] 142))
  (fun W x hx hW=>aG4 g lb eg _ (p x) x W (h1.below hW h1.lt) fun W' hW'=>hp W' x hx (bY.trans ((hW.mono bY.size).trans (hW'.mono (nT bY.size hW.size))))) (h.below bY) hl
 rw[cB]at aZ;have eP:=lz aZ;generalize l.all p=q at *;clear h1 bY aZ hp h;go_enter Tryz.func64,Tryz.ntmps64;go_wp2_with fail;refine eP.out.mono ?_;rintro e w1 ⟨rfl,aU⟩;have HB:=lz (((Below.refl _ w).alloc nL (.cells #[.func (.func g) #[] lb] 142)).trans (aU.mono qz));clear eP aU;go_wp2;go_ret;exact⟨by cases q<;>rfl,HB.out⟩
theorem aG5(g:Nat)(lb:Array Value)(eg:∀args w,(callFunc g args).run pG w= .ok (.enter g args) w)(Bx:Nat)(b:Bool)(x:ByteArray)(W:World)(hb:ah W Bx 185 #[.func (.func g) #[] lb])
 (au:∀W',Below W.heap.size W W'→CU g (#[.string x]++lb) W' (.bool b)):
 CU 177 #[.string x,.pointer (some ⟨Bx,0,none⟩)] W (.bool (!b)):=by
 have Hc:=lz (au W (Below.refl _ W));have c0:=hb.cell 0;have hlt:=hb.lt;clear au hb;go_enter Tryz.func177,Tryz.ntmps177;go_wp2_with (go_at_fn g;refine Hc.out.mono ?_;rintro e w' ⟨rfl,hb'⟩);go_ret;exact⟨rfl,hb'⟩
theorem aB7(g:Nat)(lb:Array Value)(p:ByteArray→Bool)(eg:∀args w,(callFunc g args).run pG w= .ok (.enter g args) w)(l:List ByteArray)(A:Option Addr)(c:Nat)(w:World)
 (hp:JV g lb p l w) (h:iB w w.heap.size A l) (hl:l.length≤9223372036854775807):
 CU 101 #[.slice A l.length c,.func (.func g) #[] lb] w (.bool (l.all p)):=by
 have h1:=ah.new w 185 #[.func (.func g) #[] lb];have bY:Below w.heap.size w (w.alloc (.cells #[.func (.func g) #[] lb] 185)):=bN;have aZ:=uF 177 #[.pointer (some ⟨w.heap.size,0,none⟩)] (fun x=> !p x) (enters_of Tryz.func177 kz rfl) l A c (w.alloc (.cells #[.func (.func g) #[] lb] 185))
  (fun W x hx hW=>aG5 g lb eg _ (p x) x W (h1.below hW h1.lt) fun W' hW'=>hp W' x hx (bY.trans ((hW.mono bY.size).trans (hW'.mono (nT bY.size hW.size))))) (h.below bY) hl
 rw[cB]at aZ;have eP:=lz aZ;generalize l.all p=q at *;clear h1 bY aZ hp h;go_enter Tryz.func101,Tryz.ntmps101;go_wp2_with fail;refine eP.out.mono ?_;rintro e w1 ⟨rfl,aU⟩;have HB:=lz (((Below.refl _ w).alloc nL (.cells #[.func (.func g) #[] lb] 185)).trans (aU.mono qz));clear eP aU;go_wp2;go_ret;exact⟨by cases q<;>rfl,HB.out⟩
def fV(w:World)(B:Nat)(A:Option Addr)(l:List Int):Prop:=
 0<l.length→∃b o,A=some ⟨b,o,none⟩∧b<B∧∀i (h:i<l.length),w.cell? ⟨b,o+i,none⟩=some (.int .i64 l[i])
def Kl(g:Nat)(lb:Array Value)(p:Int→Bool)(l:List Int)(w:World):Prop:=
 ∀(W:World) (r:Int),r∈l→Below w.heap.size w W→CU g (#[.int .i64 r]++lb) W (.bool (p r))
theorem fV.keep{w w':World}{B:Nat}{A:Option Addr}{l:List Int}(h:fV w B A l)(hb:Below B w w'):fV w' B A l:=fun hn=>by
 obtain⟨b,o,rfl,gD,hc⟩:=h hn;exact⟨b,o,rfl,gD,fun i hi=>(hb.cell (p:=⟨b,o+i,none⟩) gD).trans (hc i hi)⟩
theorem ZK(g:Nat)(lb:Array Value)(p:Int→Bool)(eg:∀args w,(callFunc g args).run pG w= .ok (.enter g args) w)(l:List Int)(A:Option Addr)(c:Nat)(w:World)
 (hp:Kl g lb p l w) (h:fV w w.heap.size A l) (hl:l.length≤9223372036854775807):
 CU 228 #[.slice A l.length c,.func (.func g) #[] lb] w (.int .i64 (cV p l)):=by
 go_enter Tryz.func228,Tryz.ntmps228;go_wp2;go_loopw [5,8] (fun _ i wr=>∃k:Nat,k≤l.length∧i= .int .i64 k∧Below w.heap.size w wr∧Hid (∀j (h:j<l.length),j<k→p l[j]=false)) (fun _ i _=>l.length-(intOf i).toNat)
 case atStart=>exact⟨0,nZ,rfl,Below.refl _ _,fun j _ h=>absurd h oz⟩
 case round=>
  obtain⟨k,hk,rfl,hB,aJ⟩:=hrel;by_cases hlt:k<l.length
  ·obtain⟨b,o,rfl,hb,hc⟩:=h.keep hB oz
   have gH:=hc k hlt;have au:=hp wr l[k] (List.getElem_mem hlt) hB;clear hc hp h;have hs:=hB.size;have cD:p l[k]=true→cV p l=k:=fun hq=>nR hlt hq aJ.out
   have cQ:p l[k]=false→∀j (h:j<l.length),j<k+1→p l[j]=false:=fun hq=>lU (p:=fun r=>p r=false) aJ.out hq
   have dU:=lz cD;have dH:=lz cQ;clear cD cQ aJ;generalize l[k]=r at gH au dU dH;have c0:=gH;clear gH
   cases hq:p r with
   | true=>
    have cD:=lz (dU.out hq);rw[hq]at au;clear dU dH hq;go_wp2_with (go_at_fn g;refine au.mono ?_;rintro e w' ⟨rfl,hb'⟩);go_ret;exact⟨eT cD.out.symm,hB.trans (hb'.mono hs)⟩
   | false=>
    have cQ:=lz (dH.out hq);rw[hq]at au;clear dU dH hq;go_wp2_with (go_at_fn g;refine au.mono ?_;rintro e w' ⟨rfl,hb'⟩);go_roundw
    case rel=>exact⟨k+1,oz,by go_num,hB.trans (hb'.mono hs),cQ⟩
    case measure=>simp[intOf];omega
  ·go_wp2
   go_ret;exact⟨eT (nM fun j hj=>aJ.out j hj oz).symm,hB⟩
theorem sU(g:Nat)(lb:Array Value)(p:Int→Bool)(eg:∀args w,(callFunc g args).run pG w= .ok (.enter g args) w)(l:List Int)(A:Option Addr)(c:Nat)(w:World)
 (hp:Kl g lb p l w) (h:fV w w.heap.size A l) (hl:l.length≤9223372036854775807):
 CU 133 #[.slice A l.length c,.func (.func g) #[] lb] w (.bool (l.any p)):=by
 have hI:=ZK g lb p eg l A c w hp h hl;rw[←eZ];generalize cV p l=q at hI ⊢;clear h hp;go_enter Tryz.func133,Tryz.ntmps133;go_wp2_with fail;refine hI.mono ?_;rintro e w1 ⟨rfl,aU⟩;clear hI;go_wp2;go_ret;exact⟨rfl,aU⟩


theorem aDB:(pG.info? 290).map (fun i=>(i.zero,i.size,i.bytes))=some (some (.agg #[.int .u8 0,.string ⟨#[]⟩,.int .i64 0]),3,32):=by kernel_rfl
theorem aG6(g:Nat)(w:World):Calls pG 298 #[.pointer (some ⟨g,0,none⟩)] w fun e w'=>e= .returned (.func (.func 315) #[] #[.pointer (some ⟨w.heap.size,0,none⟩)])∧w'=w.alloc (.cells #[.pointer (some ⟨g,0,none⟩)] 317):=by
 go_enter Tryz.func298,Tryz.ntmps298;go_wp2;go_ret;exact⟨rfl,rfl⟩
def qP(T:List mN):List Value:=T.flatMap fun t=> [.int .u8 t.1,.string t.2.1,.int .i64 t.2.2]
def pY(s:ByteArray)(e:Ending)(W:World):Prop:=
 if s.size>65536 then e= .returned (.tuple #[.slice none 0 0,.int .i64 0,.int .i64 3])else
 match ur s with
 | some T=>∃A c,e= .returned (.tuple #[.slice A T.length c,.int .i64 0,.int .i64 0])∧∀t,T= [t]→∃br,A=some ⟨br,0,none⟩∧W.cell? ⟨br,0,none⟩=some (.int .u8 t.1)∧W.cell? ⟨br,1,none⟩=some (.string t.2.1)
 | none=>∃a c,c≠0∧e= .returned (.tuple #[.slice none 0 0,.int .i64 a,.int .i64 c])
theorem L0{s:ByteArray}{e:Ending}{W:World}{T:List mN}(hs:¬s.size>65536)(h:ur s=some T)(hp:∃A c,e= .returned (.tuple #[.slice A T.length c,.int .i64 0,.int .i64 0])∧∀t,T= [t]→∃br,A=some ⟨br,0,none⟩∧W.cell? ⟨br,0,none⟩=some (.int .u8 t.1)∧W.cell? ⟨br,1,none⟩=some (.string t.2.1)):pY s e W:=by
 unfold pY;rw[if_neg hs,h];exact hp
theorem L6{s:ByteArray}{e:Ending}{W:World}(hs:¬s.size>65536)(h:ur s=none)(hp:∃a c,c≠0∧e= .returned (.tuple #[.slice none 0 0,.int .i64 a,.int .i64 c])):pY s e W:=by
 unfold pY;rw[if_neg hs,h];exact hp
theorem ZL(s:ByteArray)(w:World)(hs:s.size>65536):Calls pG 263 #[.string s] w fun e w'=>pY s e w'∧Below w.heap.size w w':=by
 obtain⟨w0,hw0⟩:=ez (((w.alloc (.cells #[.slice none 0 0] 285)).alloc (.cells #[.int .i64 0] 3)).alloc (.cells #[.int .i64 3] 34));have bW:Below w.heap.size w w0:=by rw[hw0];exact((bN).alloc qz _).alloc qo _
 have r2:ah w0 w.heap.size 285 #[.slice none 0 0]:=by rw[hw0];exact((ah.new w _ _).alloc _).alloc _
 have r3:ah w0 (w.heap.size+1) 3 #[.int .i64 0]:=by rw[hw0];exact(eU (w.alloc (.cells #[.slice none 0 0] 285)) (w.heap.size+1) 3 _ qz).alloc _
 have r4:ah w0 (w.heap.size+2) 34 #[.int .i64 3]:=by rw[hw0];exact eU ((w.alloc (.cells #[.slice none 0 0] 285)).alloc (.cells #[.int .i64 0] 3)) (w.heap.size+2) 34 _ qz
 have hd:decide ((s.size:Int)>65536)=true:=dT oz;have Hs:=lz hs;have Mc:=lz hw0;have aV:=lz bW;have R2:=lz r2;have R3:=lz r3;have R4:=lz r4;clear hw0 bW r2 r3 r4 hs;refine(callsIn_wide (n:=9)).1 ?_;refine callsIn_of_wp_marks Tryz.func263 rfl trivial ?_ rfl;simp only[Tryz.ntmps263,List.size_toArray,List.length_cons,List.length_nil,Nat.reduceAdd,Nat.reduceSub,Array.replicate_succ,Array.replicate_zero,List.push_toArray,List.append_toArray,List.nil_append,List.cons_append];refine wpIn_wide.2 ?_;go_wp2_with fail;rw[←Mc.out];have hz:=R2.out;have IC:=R3.out;have hz4:=R4.out;have Mj:=aV.out;clear Mc R2 R3 R4 aV;refine bP [] w0 w0.heap.size qz (fun E hE=>by cases hE) fun W' j5=> ?_
 have z2:=(ah.below hz j5.below (ah.lt hz)).cell 0;have z3:=(ah.below IC j5.below (ah.lt IC)).cell 0;have z4:=(ah.below hz4 j5.below (ah.lt hz4)).cell 0;refine⟨.tuple #[.slice none 0 0,.int .i64 0,.int .i64 3],by simp[results,Tryz.f263,go_sem,z2,z3,z4],?_,Mj.trans (j5.below.mono (Nat.le_of_lt (ah.lt hz)))⟩;unfold pY;rw[if_pos Hs.out]
theorem aMC(s:ByteArray)(w:World)(hL:ct w):Calls pG 263 #[.string s] w fun e w'=>pY s e w'∧Below w.heap.size w w':=by
 by_cases hs:s.size>65536
 ·exact ZL s w hs
 obtain⟨w0,hw0⟩:=ez (((w.alloc (.cells #[.slice none 0 0] 285)).alloc (.cells #[.int .i64 0] 3)).alloc (.cells #[.int .i64 0] 34));have bW:Below w.heap.size w w0:=by rw[hw0];exact((bN).alloc qz _).alloc qo _
 have r2:ah w0 w.heap.size 285 #[.slice none 0 0]:=by rw[hw0];exact((ah.new w _ _).alloc _).alloc _
 have r3:ah w0 (w.heap.size+1) 3 #[.int .i64 0]:=by rw[hw0];exact(eU (w.alloc (.cells #[.slice none 0 0] 285)) (w.heap.size+1) 3 _ qz).alloc _
 have r4:ah w0 (w.heap.size+2) 34 #[.int .i64 0]:=by rw[hw0];exact eU ((w.alloc (.cells #[.slice none 0 0] 285)).alloc (.cells #[.int .i64 0] 3)) (w.heap.size+2) 34 _ qz
 have hz0:w0.heap.size=w.heap.size+3:=by rw[hw0];simp
 have hd:decide ((s.size:Int)>65536)=false:=dF oz;have Hst:=lz (Zv w0);have Mc:=lz hw0;have aV:=lz bW;have R2:=lz r2;have R3:=lz r3;have R4:=lz r4;have Hs:=lz hs;have Hz0:=lz hz0;have HL:=lz hL;clear hw0 bW r2 r3 r4 hs hz0 hL;refine(callsIn_wide (n:=9)).1 ?_;refine callsIn_of_wp_marks Tryz.func263 rfl trivial ?_ rfl;simp only[Tryz.ntmps263,List.size_toArray,List.length_cons,List.length_nil,Nat.reduceAdd,Nat.reduceSub,Array.replicate_succ,Array.replicate_zero,List.push_toArray,List.append_toArray,List.nil_append,List.cons_append];refine wpIn_wide.2 ?_;go_wp2_with fail;rw[←Mc.out];refine Hst.out.mono ?_;rintro e w1 ⟨v1,v2,v3,rfl,⟨Be,Bd,Bd2,Bs,rfl,rfl,rfl,Ik⟩,aU⟩;obtain⟨l1,DL⟩:∃l1:Array Value,l1= #[.pointer (some ⟨Be,0,none⟩)]:=⟨_,rfl⟩;obtain⟨l2,Cb⟩:∃l2:Array Value,l2= #[.pointer (some ⟨Bd,0,none⟩),.pointer (some ⟨Bd2,0,none⟩)]:=⟨_,rfl⟩;obtain⟨l3,qD⟩:∃l3:Array Value,l3= #[.pointer (some ⟨Bs,0,none⟩)]:=⟨_,rfl⟩;rw[←DL,←Cb,←qD]at Ik ⊢;obtain⟨w2,hw2⟩:=ez (((w1.alloc (.cells #[.string s,.int .i64 0,.nilFunc,.func (.func 327) #[] l1,.func (.func 328) #[] l2,.func (.func 329) #[] l3] 323)).alloc (.cells #[.slice none 0 0] 285)).alloc (.cells #[.pointer (some ⟨w1.heap.size,0,none⟩)] 317));have pq:Below w1.heap.size w1 w2:=by rw[hw2];exact((bN).alloc qz _).alloc qo _
 have hsc:gK w2 w1.heap.size s 0 .nilFunc (.func (.func 327) #[] l1) (.func (.func 328) #[] l2) (.func (.func 329) #[] l3):=by rw[hw2];exact((ah.new w1 _ _).alloc _).alloc _
 have Cc:ah w2 (w1.heap.size+1) 285 #[.slice none 0 0]:=by rw[hw2];exact(eU (w1.alloc (.cells #[.string s,.int .i64 0,.nilFunc,.func (.func 327) #[] l1,.func (.func 328) #[] l2,.func (.func 329) #[] l3] 323)) (w1.heap.size+1) 285 _ qz).alloc _
 have mz:ah w2 (w1.heap.size+2) 317 #[.pointer (some ⟨w1.heap.size,0,none⟩)]:=by rw[hw2];exact eU ((w1.alloc (.cells #[.string s,.int .i64 0,.nilFunc,.func (.func 327) #[] l1,.func (.func 328) #[] l2,.func (.func 329) #[] l3] 323)).alloc (.cells #[.slice none 0 0] 285)) (w1.heap.size+2) 317 _ qz
 have hz2:w2.heap.size=w1.heap.size+3:=by rw[hw2];simp
 have hL1:ct w1:=(HL.out.below aV.out).below aU;have hbX:∀W,Gr (fun k=>k=w1.heap.size∨k=w1.heap.size+1) w2 W→Below w1.heap.size w1 W:=fun W hG=>
  ⟨hG.os.trans pq.os,hG.tape.trans pq.tape,hG.output.trans pq.output,by have:=hG.size;omega,fun k hk=>(hG.block k oz oz).trans (pq.block k hk)⟩
 have hit:=fun(l:Nat) (W:World) (J:List mN→World→Prop) (JE:World→Prop) (hB:Below w2.heap.size w2 W) hJ hJE h0 hY hE=>
  aGz w1.heap.size (w1.heap.size+1) (w1.heap.size+2) s l1 l2 l3 w2 oz oz oz (by have:=Hs.out;omega)
   (fun W hG=>(Ik w1.heap.size W nL (hbX W hG)).1) (fun W hG=>(Ik w1.heap.size W nL (hbX W hG)).2.1) (fun W hG=>(Ik w1.heap.size W nL (hbX W hG)).2.2)
   (fun W t hG ht=>Zw t W ht (hL1.below (hbX W hG))) mz oz l W (Gr.ak hB) (gK.below hsc hB) J JE hJ hJE h0 hY hE
 have Hit:=lz hit;have Sy:=lz Cc;have Hw2:=lz hw2;have Hz2:=lz hz2;have gh:=lz aU;have eF:=lz pq;have Hl:=lz (ai DL (ai Cb qD));clear Ik aU hw2 pq hsc Cc mz hz2 hit Hst hL1 hbX DL Cb qD;go_wp2_with (go_at_call 298;refine(aG6 _ _).mono ?_;rintro e w' ⟨rfl,hw'⟩);rw[←Hw2.out];clear hw';refine(wpIn_wide (n:=9)).1 ?_;have hz2:w1.heap.size+3≤w2.heap.size:=by have:=Hz2.out;omega
 have aYU:w2.heap.size≤w1.heap.size+3:=by have:=Hz2.out;omega
 have hz0:w.heap.size+3≤w0.heap.size:=by have:=Hz0.out;omega
 have hs1:=gh.out.size;refine Rv (gf:=315) (gm:=w1.heap.size) (lb:= #[.pointer (some ⟨w1.heap.size+1+1,0,none⟩)]) (s:=s) (X:=fun k=>k=w1.heap.size∨k=w1.heap.size+1) oz rfl (enters_of Tryz.func315 kz rfl) rfl (fun k hk=>by rcases hk with rfl | rfl<;>omega) Hit.out
  (fun T W=>∃A c,ah W (w1.heap.size+1) 285 #[.slice A T.length c]∧W.ownsRow w2.heap.size 290 3 (.slice A T.length c) T.length (qP T)∧Gr (fun k=>k=w1.heap.size∨k=w1.heap.size+1) w2 W)
  (fun W=>∃a c,c≠0∧ah W w.heap.size 285 #[.slice none 0 0]∧ah W (w.heap.size+1) 3 #[.int .i64 a]∧ah W (w.heap.size+2) 34 #[.int .i64 c]∧Below w.heap.size w W)
  ?pgr ?egr ?aQo ?aQp ?p0
  (fun T t c a' W=>∃Bx,w2.heap.size≤Bx∧T.length≤65536∧ah W Bx 290 #[.int .u8 t.1,.string t.2.1,.int .i64 t.2.2]∧(∃A cp,ah W (w1.heap.size+1) 285 #[.slice A T.length cp]∧W.ownsRow w2.heap.size 290 3 (.slice A T.length cp) T.length (qP T)∧(∀k,(Value.slice A T.length cp).ownBlock=some k→k≠Bx))∧Gr (fun k=>k=w1.heap.size∨k=w1.heap.size+1) w2 W∧a'={tmps:= #[.string s,undef,.pointer (some ⟨w.heap.size,0,none⟩),.pointer (some ⟨w.heap.size+1,0,none⟩),.pointer (some ⟨w.heap.size+1+1,0,none⟩),.pointer (some ⟨w1.heap.size,0,none⟩),.pointer (some ⟨w1.heap.size+1,0,none⟩),.pointer (some ⟨Bx,0,none⟩),.int .i64 c,.string s,.int .i64 s.size,.bool false,.string s,.agg #[.string s,.int .i64 0],.agg #[.nilFunc,.func (.func 327) #[] l1,.func (.func 328) #[] l2,.func (.func 329) #[] l3],.agg #[.string s,.int .i64 0,.nilFunc,.func (.func 327) #[] l1,.func (.func 328) #[] l2,.func (.func 329) #[] l3],.pointer (some ⟨w1.heap.size,0,none⟩),.pointer (some ⟨w1.heap.size,0,none⟩),.func (.func 315) #[] #[.pointer (some ⟨w1.heap.size+1+1,0,none⟩)],.agg #[.int .u8 t.1,.string t.2.1,.int .i64 t.2.2],.int .i64 c,undef,undef,undef,undef,undef,undef,undef,undef,undef,undef],defers:= []})
  ?ax ?assign ?body ?done ?ret
 case pgr=>
  rintro T W W' ⟨A,c,h1,h2,h3⟩ hG;exact⟨A,c,hG.blk h1 oz,cO h2 hG (fun k hk e=>by have:=(h2.lt k hk).1;omega),h3.trans' hG (fun j _ e=> .inl e)⟩
 case egr=>
  rintro W W' ⟨a,c,h0,h1,h2,h3,h4⟩ hG;exact⟨a,c,h0,hG.blk h1 oz,hG.blk h2 oz,hG.blk h3 oz,⟨hG.os.trans h4.os,hG.tape.trans h4.tape,hG.output.trans h4.output,nT h4.size hG.size,fun k hk=>(hG.block k (by have:=h4.size;omega) oz).trans (h4.block k hk)⟩⟩
 case aQo=>
  rintro T l W o o' hl ho hc ⟨A,c,h1,h2,h3⟩;exact⟨A,c,(j9 W l o').blk h1 oz,cO h2 (j9 W l o') (fun k hk e=>by have:=Ip h2 k o hk (e▸ho);rw[hc]at this;cases this),h3.trans' (j9 W l o') (fun j hj e=>by omega)⟩
 case aQp=>
  rintro l W o o' hl ho hc ⟨a,c,h0,h1,h2,h3,h4⟩;have hG:=j9 W l o';exact⟨a,c,h0,hG.blk h1 oz,hG.blk h2 oz,hG.blk h3 oz,⟨hG.os.trans h4.os,hG.tape.trans h4.tape,hG.output.trans h4.output,nT h4.size hG.size,fun k hk=>(hG.block k (by have:=h4.size;omega) oz).trans (h4.block k hk)⟩⟩
 case p0=>
  intro W hB;exact⟨none,0,Sy.out.below hB Sy.out.lt,World.ownsRow_nil _ _ _ _,Gr.ak hB⟩
 case ax=>
  rintro T t c l a' W o o' hl ho hc ⟨Bx,h1,XO,h2,⟨A,cp,h3,h4,h5⟩,h6,h7⟩;have hne:Bx≠l:=fun e=>by subst e;rw[show W.heap[Bx]?=_ from h2]at ho;cases ho;cases hc
  exact⟨Bx,h1,XO,(j9 W l o').blk h2 hne,⟨A,cp,(j9 W l o').blk h3 oz,cO h4 (j9 W l o') (fun k hk e=>by have:=Ip h4 k o hk (e▸ho);rw[hc]at this;cases this),h5⟩,h6.trans' (j9 W l o') (fun j hj e=>by omega),h7⟩
 case assign=>
  intro l T t c W K XO hsz hgr hP hK;obtain⟨A,cp,Cc,hown,-⟩:=hP;obtain⟨k1,s1,p1⟩:=t;have Hgr:=lz hgr;have aG7:=lz Cc;have kZ:=lz hown;clear hgr Cc hown;gi_wp2;exact hK _ _ ((KeepsOthers.alloc _ _).from _) (Gr.alloc _ _ _) (Below.heap_alloc W _ _ oz) ⟨W.heap.size,oz,XO,ah.new W _ _,⟨A,cp,aG7.out.alloc _,cO kZ.out (Gr.alloc (fun _=>False) W _) (fun _ _ h=>h),fun k hk e=>by have:=(kZ.out.lt k hk).2;omega⟩,Hgr.out.trans (Gr.alloc _ _ _),rfl⟩
 case body=>
  rintro l T ⟨k1,s1,p1⟩ c a' W hXW ⟨Bx,hBx,XO,gP,⟨A,cp,Cc,hown,hne⟩,hgr,rfl⟩;dsimp only at gP ⊢;have c6:=Cc.cell 0;have c0:=gP.cell 0;have c1:=gP.cell 1;have c2:=gP.cell 2;by_cases hc:c=0
  ·subst hc
   obtain⟨i0,lX,bR,K1,KT⟩:=info_parts aDB;have hsz:=hgr.size;have Hgr:=lz hgr;have aG7:=lz Cc;have kZ:=lz hown;clear hgr Cc gP hown hXW hne;gi_wp2_with (gi_at_builtin;refine wpListIn_append_own _ rfl _ _ 285 rfl w2.heap.size 290 i0 (.agg #[.int .u8 0,.string ⟨#[]⟩,.int .i64 0]) 3 32 Tryz.underlying285 lX bR K1 KT rfl dz _ _ _ rfl (cO kZ.out (Gr.alloc (fun _=>False) W _) (fun _ _ h=>h)) ⟨W.heap.size,0,none⟩ 1 1 [.int .u8 k1,.string s1,.int .i64 p1] rfl rfl ?c1 ?c2 ?c3 ?c4 ?c5 ?_)
   case c1=>
    intro j u' hj;rw[bO,Nat.zero_add,(ah.new W 290 #[.int .u8 k1,.string s1,.int .i64 p1]).cell j];simpa using hj
   case c2=>intro u' kQ;simp at kQ;rcases kQ with rfl | rfl | rfl<;>rfl
   case c3=>simp[maxLen];omega
   case c4=>omega
   case c5=>simp;omega
   intro v5 wo dQ mE _;have hcs:qP (T++ [(k1,s1,p1)])=qP T++ [.int .u8 k1,.string s1,.int .i64 p1]:=by simp[qP]
   have hlen:(T++ [((k1,s1,p1):mN)]).length=T.length+1:=by simp
   have L7:wo.ownsRow w2.heap.size 290 3 v5 (T.length+1) (qP T++ [.int .u8 k1,.string s1,.int .i64 p1]):=dQ;obtain⟨A5,c5,rfl,_⟩:=bp L7;have hgo:Gr (· =w1.heap.size+1) W (W.alloc (.cells #[.int .u8 k1,.string s1,.int .i64 p1] 290)):=Gr.alloc _ _ _;have aEO:=cO kZ.out (Gr.alloc (fun _=>False) W (.cells #[.int .u8 k1,.string s1,.int .i64 p1] 290)) (fun _ _ h=>h);have hblk:∀k,k<W.heap.size→(Value.slice A T.length cp).ownBlock≠some k→wo.heap[k]?=W.heap[k]?:=fun k hk hn=>(mE.block k qo (fun e=>hn e.symm)).trans (Below.heap_alloc W _ k hk)
   have aDC:∀k,(Value.slice A T.length cp).ownBlock=some k→w2.heap.size≤k:=fun k hk=>(kZ.out.lt k hk).1
   have ZM:ah wo (w1.heap.size+1) 285 #[.slice A T.length cp]:=(hblk _ oz (fun e=>by have:=aDC _ e;omega)).trans aG7.out;have aG8:KeepsOthers W wo:=(KeepsOthers.alloc W (.cells #[.int .u8 k1,.string s1,.int .i64 p1] 290)).trans (Dz aEO mE);have d0:=ZM.cell 0;have df:=ZM.frozen 0;have hS:=Gr.setCell (X:=(· =w1.heap.size+1)) wo ⟨w1.heap.size+1,0,none⟩ (.slice A5 (T.length+1) c5) rfl;have OU:=cO L7 hS (fun k hk e=>by have:=(L7.lt k hk).1;omega);have aME:ah (wo.setCell ⟨w1.heap.size+1,0,none⟩ (.slice A5 (T.length+1) c5)) (w1.heap.size+1) 285 #[.slice A5 (T.length+1) c5]:=by simpa using ZM.bX 0 (.slice A5 (T.length+1) c5)
   have aMF:Gr (fun k=>k=w1.heap.size∨k=w1.heap.size+1) w2 wo:=⟨mE.os.trans Hgr.out.os,mE.tape.trans Hgr.out.tape,mE.output.trans Hgr.out.output,by have:=mE.size;simp at this;omega,fun k hk hn=>(hblk k oz (fun e=>by have:=aDC _ e;omega)).trans (Hgr.out.block k hk hn)⟩;have aMG:Gr (fun k=>k=w1.heap.size∨k=w1.heap.size+1) w2 (wo.setCell ⟨w1.heap.size+1,0,none⟩ (.slice A5 (T.length+1) c5)):=aMF.trans' hS (fun k hk e=> .inr e);have hko:KeepsOthers W (wo.setCell ⟨w1.heap.size+1,0,none⟩ (.slice A5 (T.length+1) c5)):=aG8.trans (nW ZM _);have hsm:(wo.setCell ⟨w1.heap.size+1,0,none⟩ (.slice A5 (T.length+1) c5)).heap[w1.heap.size]?=W.heap[w1.heap.size]?:=(hS.block _ (by have:=aG8.size;omega) oz).trans (hblk _ oz (fun e=>by have:=aDC _ e;omega));have HR:=lz (ai (hko.from w2.heap.size) (ai hsm (ai aME (ai OU aMG))));have Hcs:=lz (ai hcs hlen);clear dQ L7 mE ZM hS OU aME aMG hko hsm hcs hlen hgo aEO hblk aDC aG8 aMF;gi_wp2;exact⟨HR.out.1,HR.out.2.2.2.2,HR.out.2.1,A5,c5,HR.out.2.2.1,by rw[Hcs.out.1];exact HR.out.2.2.2.1,HR.out.2.2.2.2⟩
  ·have Fk:∀k,k<w1.heap.size→W.heap[k]?=w1.heap[k]?:=fun k hk=>(hgr.block k oz oz).trans (eF.out.block k hk)
   have q2:ah W w.heap.size 285 #[.slice none 0 0]:=(Fk _ oz).trans (R2.out.below gh.out oz);have q3:ah W (w.heap.size+1) 3 #[.int .i64 0]:=(Fk _ oz).trans (R3.out.below gh.out oz);have q4:ah W (w.heap.size+2) 34 #[.int .i64 0]:=(Fk _ oz).trans (R4.out.below gh.out oz);have HBw:Hid (Below w.heap.size w W):=lz (⟨hgr.os.trans (eF.out.os.trans (gh.out.os.trans aV.out.os)),hgr.tape.trans (eF.out.tape.trans (gh.out.tape.trans aV.out.tape)),hgr.output.trans (eF.out.output.trans (gh.out.output.trans aV.out.output)),by have:=hgr.size;omega,fun k hk=>(Fk k oz).trans ((gh.out.block k oz).trans (aV.out.block k hk))⟩);have e2:=q2.cell 0;have e3:=q3.cell 0;have e4:=q4.cell 0;have f2':=q2.frozen 0;have f3':=q3.frozen 0;have f4':=q4.frozen 0;have Hq2:=lz q2;have Hq3:=lz q3;have Hq4:=lz q4;have Hc:=lz hc;clear Fk q2 q3 q4 hXW Cc hown hne hgr gP;have y2:=(((Hq2.out.bX 0 (.slice none 0 0)).far (p:=⟨w.heap.size+1,0,none⟩) (by show w.heap.size≠w.heap.size+1;omega) (.int .i64 p1)).far (p:=⟨w.heap.size+1+1,0,none⟩) (by show w.heap.size≠w.heap.size+1+1;omega) (.int .i64 c)).drew;have y3:=(((Hq3.out.far (p:=⟨w.heap.size,0,none⟩) (by show w.heap.size+1≠w.heap.size;omega) (.slice none 0 0)).bX 0 (.int .i64 p1)).far (p:=⟨w.heap.size+1+1,0,none⟩) (by show w.heap.size+1≠w.heap.size+1+1;omega) (.int .i64 c)).drew;have aG9:ah W (w.heap.size+1+1) 34 #[.int .i64 0]:=Hq4.out;have y4:=(((aG9.far (p:=⟨w.heap.size,0,none⟩) (by show w.heap.size+1+1≠w.heap.size;omega) (.slice none 0 0)).far (p:=⟨w.heap.size+1,0,none⟩) (by show w.heap.size+1+1≠w.heap.size+1;omega) (.int .i64 p1)).bX 0 (.int .i64 c)).drew;have yB:Below w.heap.size w ((((W.setCell ⟨w.heap.size,0,none⟩ (.slice none 0 0)).setCell ⟨w.heap.size+1,0,none⟩ (.int .i64 p1)).setCell ⟨w.heap.size+1+1,0,none⟩ (.int .i64 c)).drew):=(((HBw.out.setCell (p:=⟨w.heap.size,0,none⟩) nL _).setCell (p:=⟨w.heap.size+1,0,none⟩) (by show w.heap.size≤w.heap.size+1;omega) _).setCell (p:=⟨w.heap.size+1+1,0,none⟩) (by show w.heap.size≤w.heap.size+1+1;omega) _).drew;have yK:KeepsFrom w2.heap.size W ((((W.setCell ⟨w.heap.size,0,none⟩ (.slice none 0 0)).setCell ⟨w.heap.size+1,0,none⟩ (.int .i64 p1)).setCell ⟨w.heap.size+1+1,0,none⟩ (.int .i64 c)).drew):=
    ((((nW Hq2.out (.slice none 0 0)).trans (nW (Hq3.out.far (p:=⟨w.heap.size,0,none⟩) (by show w.heap.size+1≠w.heap.size;omega) (.slice none 0 0)) (.int .i64 p1))).trans (nW ((aG9.far (p:=⟨w.heap.size,0,none⟩) (by show w.heap.size+1+1≠w.heap.size;omega) (.slice none 0 0)).far (p:=⟨w.heap.size+1,0,none⟩) (by show w.heap.size+1+1≠w.heap.size+1;omega) (.int .i64 p1)) (.int .i64 c))).trans (J2 (Below.refl _ _).drew)).from _
   have HR:=lz (ai yK (ai (by simpa using y2) (ai (by simpa using y3) (ai (by simpa using y4) yB))):KeepsFrom w2.heap.size W ((((W.setCell ⟨w.heap.size,0,none⟩ (.slice none 0 0)).setCell ⟨w.heap.size+1,0,none⟩ (.int .i64 p1)).setCell ⟨w.heap.size+1+1,0,none⟩ (.int .i64 c)).drew)∧ah ((((W.setCell ⟨w.heap.size,0,none⟩ (.slice none 0 0)).setCell ⟨w.heap.size+1,0,none⟩ (.int .i64 p1)).setCell ⟨w.heap.size+1+1,0,none⟩ (.int .i64 c)).drew) w.heap.size 285 #[.slice none 0 0]∧ah ((((W.setCell ⟨w.heap.size,0,none⟩ (.slice none 0 0)).setCell ⟨w.heap.size+1,0,none⟩ (.int .i64 p1)).setCell ⟨w.heap.size+1+1,0,none⟩ (.int .i64 c)).drew) (w.heap.size+1) 3 #[.int .i64 p1]∧ah ((((W.setCell ⟨w.heap.size,0,none⟩ (.slice none 0 0)).setCell ⟨w.heap.size+1,0,none⟩ (.int .i64 p1)).setCell ⟨w.heap.size+1+1,0,none⟩ (.int .i64 c)).drew) (w.heap.size+2) 34 #[.int .i64 c]∧Below w.heap.size w ((((W.setCell ⟨w.heap.size,0,none⟩ (.slice none 0 0)).setCell ⟨w.heap.size+1,0,none⟩ (.int .i64 p1)).setCell ⟨w.heap.size+1+1,0,none⟩ (.int .i64 c)).drew));clear y2 y3 y4 yB yK aG9;gi_wp2;gi_region;all_goals gi_wp2
   all_goals first | exact⟨HR.out.1,.inr ⟨Hc.out,rfl,p1,c,Hc.out,HR.out.2⟩⟩ | exact⟨HR.out.1,Hc.out,p1,c,Hc.out,HR.out.2⟩ | exact⟨HR.out.1,p1,c,Hc.out,HR.out.2⟩
 case done=>
  rintro D W3 T hD hlx ⟨A,c,aMH,yP,aJ⟩ hk;have Fk:∀k,k<w1.heap.size→W3.heap[k]?=w1.heap[k]?:=fun k hk=>(aJ.block k oz oz).trans (eF.out.block k hk)
  have q2:ah W3 w.heap.size 285 #[.slice none 0 0]:=(Fk _ oz).trans (R2.out.below gh.out oz);have q3:ah W3 (w.heap.size+1) 3 #[.int .i64 0]:=(Fk _ oz).trans (R3.out.below gh.out oz);have q4:ah W3 (w.heap.size+2) 34 #[.int .i64 0]:=(Fk _ oz).trans (R4.out.below gh.out oz);have Mr:Below w.heap.size w W3:=⟨aJ.os.trans (eF.out.os.trans (gh.out.os.trans aV.out.os)),aJ.tape.trans (eF.out.tape.trans (gh.out.tape.trans aV.out.tape)),aJ.output.trans (eF.out.output.trans (gh.out.output.trans aV.out.output)),by have:=aJ.size;omega,fun k hk=>(Fk k oz).trans ((gh.out.block k oz).trans (aV.out.block k hk))⟩;have e6:=aMH.cell 0;have e2:=q2.cell 0;have e3:=q3.cell 0;have e4:=q4.cell 0;have f2':=q2.frozen 0;have f3':=q3.frozen 0;have f4':=q4.frozen 0;have Vj:∀t,T= [t]→∃br,A=some ⟨br,0,none⟩∧w2.heap.size≤br∧W3.cell? ⟨br,0,none⟩=some (.int .u8 t.1)∧W3.cell? ⟨br,1,none⟩=some (.string t.2.1):=by
   rintro t rfl;obtain⟨br,cap,hv,I8,hlt⟩:=yP.form qz;have hA:A=some ⟨br,0,none⟩:=by injection hv
   subst hA;have g0:=yP.cells (g:=br) rfl 0 (.int .u8 t.1) rfl;have g1:=yP.cells (g:=br) rfl 1 (.string t.2.1) rfl;rw[eY]at g0 g1;exact⟨br,rfl,(yP.lt br rfl).1,by simpa using g0,by simpa using g1⟩
  have KJ:D<W3.heap.size:=(gE hk).1;have Hk:=lz hk;have Hq2:=lz q2;have Hq3:=lz q3;have Hq4:=lz q4;have HBw:=lz Mr;have aQr:=lz Vj;have Hlx:=lz hlx;clear aMH yP aJ hk Fk q2 q3 q4 Mr Vj hlx;go_wp2_with fail;have hz:=((Hq2.out.bX 0 (.slice A T.length c)).far (p:=⟨w.heap.size+1,0,none⟩) (by show w.heap.size≠w.heap.size+1;omega) (.int .i64 0)).far (p:=⟨w.heap.size+2,0,none⟩) (by show w.heap.size≠w.heap.size+2;omega) (.int .i64 0);have IC:=((Hq3.out.far (p:=⟨w.heap.size,0,none⟩) (by show w.heap.size+1≠w.heap.size;omega) (.slice A T.length c)).bX 0 (.int .i64 0)).far (p:=⟨w.heap.size+2,0,none⟩) (by show w.heap.size+1≠w.heap.size+2;omega) (.int .i64 0);have hz4:=((Hq4.out.far (p:=⟨w.heap.size,0,none⟩) (by show w.heap.size+2≠w.heap.size;omega) (.slice A T.length c)).far (p:=⟨w.heap.size+1,0,none⟩) (by show w.heap.size+2≠w.heap.size+1;omega) (.int .i64 0)).bX 0 (.int .i64 0);have Mj:Below w.heap.size w (((W3.setCell ⟨w.heap.size,0,none⟩ (.slice A T.length c)).setCell ⟨w.heap.size+1,0,none⟩ (.int .i64 0)).setCell ⟨w.heap.size+2,0,none⟩ (.int .i64 0)):=((HBw.out.setCell (p:=⟨w.heap.size,0,none⟩) nL _).setCell (p:=⟨w.heap.size+1,0,none⟩) (by show w.heap.size≤w.heap.size+1;omega) _).setCell (p:=⟨w.heap.size+2,0,none⟩) (by show w.heap.size≤w.heap.size+2;omega) _;have Fl:∀k,w.heap.size+3≤k→(((W3.setCell ⟨w.heap.size,0,none⟩ (.slice A T.length c)).setCell ⟨w.heap.size+1,0,none⟩ (.int .i64 0)).setCell ⟨w.heap.size+2,0,none⟩ (.int .i64 0)).heap[k]?=W3.heap[k]?:=fun k hk=>
   (Below.heap_setCell _ ⟨w.heap.size+2,0,none⟩ _ k (by show k≠w.heap.size+2;omega)).trans ((Below.heap_setCell _ ⟨w.heap.size+1,0,none⟩ _ k (by show k≠w.heap.size+1;omega)).trans (Below.heap_setCell _ ⟨w.heap.size,0,none⟩ _ k (by show k≠w.heap.size;omega)))
  have aOZ:(((W3.setCell ⟨w.heap.size,0,none⟩ (.slice A T.length c)).setCell ⟨w.heap.size+1,0,none⟩ (.int .i64 0)).setCell ⟨w.heap.size+2,0,none⟩ (.int .i64 0)).heap.size=W3.heap.size:=by simp[World.setCell]
  change bodyPostM Fence.wide 9 pG Tryz.f263 _ _ _ (((W3.setCell ⟨w.heap.size,0,none⟩ (.slice A T.length c)).setCell ⟨w.heap.size+1,0,none⟩ (.int .i64 0)).setCell ⟨w.heap.size+2,0,none⟩ (.int .i64 0));generalize (((W3.setCell ⟨w.heap.size,0,none⟩ (.slice A T.length c)).setCell ⟨w.heap.size+1,0,none⟩ (.int .i64 0)).setCell ⟨w.heap.size+2,0,none⟩ (.int .i64 0))=W4 at *;refine bP [D] W4 D qz (fun E hE=>by simp at hE;subst hE;exact⟨nL,(Fl E oz).trans Hk.out⟩) fun W' j5=> ?_
  have z0:=(ah.below hz j5.below oz).cell 0;have z3:=(ah.below IC j5.below oz).cell 0;have z4:=(ah.below hz4 j5.below oz).cell 0;have hcell:∀br o (v:Value),w2.heap.size≤br→W3.cell? ⟨br,o,none⟩=some v→W'.cell? ⟨br,o,none⟩=some v:=fun br o v I8 hv=>by
   have iO:W4.heap[br]?=W3.heap[br]?:=Fl br oz;have h4:W4.cell? ⟨br,o,none⟩=some v:=(World.cell?_of_block iO).trans hv;obtain⟨ob,ho,cC⟩:=cells_of_cell h4;exact(World.cell?_of_block ((j5.cells _ _ ho cC).trans ho.symm)).trans h4
  exact⟨.tuple #[.slice A T.length c,.int .i64 0,.int .i64 0],by simp[results,Tryz.f263,go_sem,z0,z3,z4],L0 Hs.out Hlx.out ⟨A,c,rfl,fun t ht=>by
   obtain⟨br,hA,I8,g0,g1⟩:=aQr.out t ht;exact⟨br,hA,hcell _ _ _ I8 g0,hcell _ _ _ I8 g1⟩⟩,Mj.trans (j5.below.mono oz)⟩
 case ret=>
  rintro D W3 hD hlx ⟨a,c,hc,q2,q3,q4,Mr⟩ hk;have KJ:D<W3.heap.size:=(gE hk).1;refine bP [D] W3 D qz (fun E hE=>by simp at hE;subst hE;exact⟨nL,hk⟩) fun W' j5=> ?_
  have z0:=(ah.below q2 j5.below oz).cell 0;have z3:=(ah.below q3 j5.below oz).cell 0;have z4:=(ah.below q4 j5.below oz).cell 0;exact⟨.tuple #[.slice none 0 0,.int .i64 a,.int .i64 c],by simp[results,Tryz.f263,go_sem,z0,z3,z4],L6 Hs.out hlx ⟨a,c,hc,rfl⟩,Mr.trans (j5.below.mono oz)⟩
def dh(s:ByteArray):Bool:=
 if s.size>65536 then false else
 match ur s with
 | some [t]=>decide (t.1=1)&&(t.2.1.toList==s.toList)
 | _=>false
theorem om(s:ByteArray)(w:World)(hL:ct w):CU 208 #[.string s] w (.bool (dh s)):=by
 have Hx:=lz (aMC s w hL);clear hL;go_enter Tryz.func208,Tryz.ntmps208;go_wp2_with fail;refine Hx.out.mono ?_;rintro e w1 ⟨hp,hb⟩;unfold pY at hp;have Hb:=lz hb;clear Hx hb;by_cases hs:s.size>65536
 ·rw[if_pos hs]at hp
  subst hp;have Hw:=lz (show dh s=false by unfold dh;rw[if_pos hs]);clear hs;go_wp2;go_ret;exact⟨by rw[Hw.out];rfl,Hb.out⟩
 ·rw[if_neg hs]at hp
  cases hlx:ur s with
  | none=>
   rw[hlx]at hp;obtain⟨a,c,hc,rfl⟩:=hp;have Hw:=lz (show dh s=false by unfold dh;rw[if_neg hs,hlx]);clear hs hlx;go_wp2;go_ret;exact⟨by rw[Hw.out];rfl,Hb.out⟩
  | some T=>
   rw[hlx]at hp;obtain⟨A,c,rfl,Vj⟩:=hp;by_cases hT:T.length=1
   ·obtain⟨t,rfl⟩:∃t,T= [t]:=List.length_eq_one_iff.1 hT
    obtain⟨br,rfl,c0,c1⟩:=Vj t rfl;obtain⟨kd,tx,at_⟩:=t;dsimp only at c0 c1;have Hw:=lz (show dh s=(decide (kd=1)&&(tx.toList==s.toList))by unfold dh;rw[if_neg hs,hlx]);clear hs hlx Vj hT;by_cases hk:kd=1
    ·subst hk
     go_wp2;go_ret;exact⟨by rw[Hw.out];rfl,Hb.out⟩
    ·have hkb:(kd==1)=false:=by simpa using hk
     have hd:decide (kd=1)=false:=dF hk;rw[hd]at Hw;clear hd;go_wp2;go_ret;exact⟨by rw[Hw.out];rfl,Hb.out⟩
   ·have Hw:=lz (show dh s=false by
     unfold dh;rw[if_neg hs,hlx]
     match T,hT with
     | [],_=>rfl
     | _ :: _ :: _,_=>rfl
     | [_],h=>exact absurd rfl h)
    have DL:((T.length:Int)==1)=false:=by simpa using(by omega:¬(T.length:Int)=1)
    clear hs hlx Vj;go_wp2;go_ret;exact⟨by rw[Hw.out];rfl,Hb.out⟩
def eqL{α:Type}[DecidableEq α](a b:List α):Bool:=decide (a=b)
theorem tI{α:Type}[DecidableEq α]{a b:List α}(h:a=b):eqL a b=true:=dT h
theorem JK{α:Type}[DecidableEq α]{a b:List α}(h:a≠b):eqL a b=false:=dF h
theorem SQ{α:Type}[DecidableEq α]{a b:List α}(h:((a.length:Int) !=b.length)=true):eqL a b=false:=JK fun e=>by rw[e]at h;simp at h
theorem SS{α:Type}[DecidableEq α]{a b:List α}(hl:a.length=b.length)(h:∀j (h1:j<a.length) (h2:j<b.length),a[j]=b[j]):eqL a b=true:=tI (List.ext_getElem hl h)
theorem YG{α:Type}[DecidableEq α]{a b:List α}{k:Nat}(h1:k<a.length)(h2:k<b.length)(h:a[k]≠b[k]):eqL a b=false:=JK fun e=>h (by subst e;rfl)
def bs(l:List UInt8):ByteArray:=⟨l.toArray⟩

def CkB(w:World)(g:Nat)(A:Option Addr)(n c:Nat):Prop:=ah w g 94 #[.slice none 0 0,.slice none 0 0,.slice none 0 0,.slice none 0 0,.slice none 0 0,.slice none 0 0,.slice A n c,.slice none 0 0]
theorem CkB.cell{w:World}{g:Nat}{A:Option Addr}{n c:Nat}(h:CkB w g A n c)(i:Nat):w.cell? ⟨g,i,none⟩=(#[.slice none 0 0,.slice none 0 0,.slice none 0 0,.slice none 0 0,.slice none 0 0,.slice none 0 0,.slice A n c,.slice none 0 0]:Array Value)[i]?:=ah.cell h i

theorem CX(g:Nat)(w:World):Calls pG 70 #[.pointer (some ⟨g,0,none⟩)] w fun e w'=>e= .returned (.func (.func 151) #[] #[.pointer (some ⟨w.heap.size,0,none⟩)])∧w'=w.alloc (.cells #[.pointer (some ⟨g,0,none⟩)] 92):=by
 go_enter Tryz.func70,Tryz.ntmps70;go_wp2;go_ret;exact⟨rfl,rfl⟩
theorem Sr(g:Nat)(w:World):Calls pG 65 #[.pointer (some ⟨g,0,none⟩)] w fun e w'=>e= .returned (.func (.func 143) #[] #[.pointer (some ⟨w.heap.size,0,none⟩)])∧w'=w.alloc (.cells #[.pointer (some ⟨g,0,none⟩)] 92):=by
 go_enter Tryz.func65,Tryz.ntmps65;go_wp2;go_ret;exact⟨rfl,rfl⟩



def seqB(a b:ByteArray):Bool:=a.toList==b.toList
def yt(R:List fC)(u:ByteArray):Bool:=R.any fun x=>seqB x.c.unit u
theorem aJ6(Bu:Nat)(u:ByteArray)(x:fC)(w:World)(hb:ah w Bu 9 #[.string u]):CU 96 #[x.val,.pointer (some ⟨Bu,0,none⟩)] w (.bool (seqB x.c.unit u)):=by
 have c0:=hb.cell 0;have hlt:=hb.lt;unfold seqB;clear hb;dsimp only[fC.val];go_enter Tryz.func96,Tryz.ntmps96;go_wp2;go_ret;exact⟨rfl,bN⟩
theorem aJ7(Bu:Nat)(u:ByteArray)(x:fC)(w:World)(hb:ah w Bu 9 #[.string u]):CU 98 #[x.val,.pointer (some ⟨Bu,0,none⟩)] w (.bool (seqB x.c.unit u)):=by
 have c0:=hb.cell 0;have hlt:=hb.lt;unfold seqB;clear hb;dsimp only[fC.val];go_enter Tryz.func98,Tryz.ntmps98;go_wp2;go_ret;exact⟨rfl,bN⟩
structure ZN(w:World)(g Br Bk B5 B6:Nat)(A:Option Addr)(L:List fC)(c:Nat)(AR:Option Addr)(R:List fC)(cR:Nat):Prop where
 k:ah w Bk 92 #[.pointer (some ⟨g,0,none⟩)]
 ck:CkB w g A L.length c
 rl:kr w w.heap.size A L
 br:ah w Br 28 #[.slice AR R.length cR]
 rr:kr w w.heap.size AR R
 b5:ah w B5 185 #[.func (.func 94) #[] #[.pointer (some ⟨Br,0,none⟩)]]
 b6:ah w B6 185 #[.func (.func 97) #[] #[.pointer (some ⟨Bk,0,none⟩)]]
 ll:L.length≤1000
 lr:R.length≤1000
section
variable {w w':World} {g Br Bk B5 B6:Nat} {A:Option Addr} {L:List fC} {c:Nat} {AR:Option Addr} {R:List fC} {cR:Nat}
theorem ZN.below(h:ZN w g Br Bk B5 B6 A L c AR R cR)(hb:Below w.heap.size w w'):ZN w' g Br Bk B5 B6 A L c AR R cR:=
 ⟨h.k.below hb h.k.lt,ah.below h.ck hb (ah.lt h.ck),h.rl.below hb,h.br.below hb h.br.lt,h.rr.below hb,h.b5.below hb h.b5.lt,h.b6.below hb h.b6.lt,h.ll,h.lr⟩
def Yd(L R:List fC)(y:fC):Bool:=y.c.excl.all fun u=>yt L u&& !yt R u
def SE(L R:List fC)(x y:fC):Bool:=seqB y.c.unit x.c.unit&& !Yd L R y
def iW(L R:List fC)(x:fC):Bool:=R.any fun y=>SE L R x y
end
def Cy(L:List fC):Nat→Int→List fC→Option Bool
 | 0,_,_=>none
 | f+1,n,R=>if n=R.length then some (decide (R.length=0))else Cy L f R.length (R.filter (iW L R))
theorem Yf{L R:List fC}{f:Nat}{n:Int}{b:Bool}(h:Cy L f n R=some b)(hn:n=R.length):decide (R.length=0)=b:=by
 cases f with
 | zero=>cases h
 | succ f=>rw[Cy,if_pos hn]at h;exact Option.some.inj h
theorem UJ{L R:List fC}{f:Nat}{n:Int}{b:Bool}(h:Cy L f n R=some b)(hn:¬n=R.length):∃f',f=f'+1∧Cy L f' R.length (R.filter (iW L R))=some b:=by
 cases f with
 | zero=>cases h
 | succ f=>
  rw[Cy,if_neg hn]at h;exact⟨f,rfl,h⟩
theorem Yj{W:World}{base c:Nat}{A:Option Addr}{L:List fC}(h:W.ownsRow base 83 3 (.slice A L.length c) L.length (L.flatMap fC.cells))(hx:∀x∈L,x.rd W W.heap.size):kr W W.heap.size A L:=fun hn=>by
 obtain⟨g,cap,hv,_,hlt⟩:=h.form hn;have hA:A=some ⟨g,0,none⟩:=by injection hv
 subst hA;refine⟨g,0,rfl,hlt,fun i hi=> ?_⟩;obtain⟨q0,q1,q2⟩:=vV L i hi;have c0:=h.cells (g:=g) rfl _ _ q0;have c1:=h.cells (g:=g) rfl _ _ q1;have c2:=h.cells (g:=g) rfl _ _ q2;rw[eY]at c0 c1 c2;exact⟨by simpa using c0,by simpa using c1,by simpa using c2,hx _ (List.getElem_mem hi)⟩
theorem Yg{p:fC→Bool}{R:List fC}{k:Nat}(hk:k<R.length)(h:p R[k]=true):(R.take (k+1)).filter p=(R.take k).filter p++ [R[k]]:=by
 rw[List.take_succ_eq_append_getElem hk,List.filter_append];simp[h]
theorem aB9{p:fC→Bool}{R:List fC}{k:Nat}(hk:k<R.length)(h:p R[k]=false):(R.take (k+1)).filter p=(R.take k).filter p:=by
 rw[List.take_succ_eq_append_getElem hk,List.filter_append];simp[h]
theorem Yh{p:fC→Bool}{R:List fC}{k:Nat}:((R.take k).filter p).length≤R.length:=nT (List.length_filter_le _ _) qo
def aJ8(a:Value)(b:Option Value):Nat:=match b with
 | some (.slice _ n _)=>2*n+(match a with | .int _ i=>if i=n then 0 else 1 | _=>0)
 | _=>0
theorem SG(k:IntKind)(i:Int)(A:Option Addr)(n c:Nat):aJ8 (.int k i) (some (.slice A n c))=2*n+if i=n then 0 else 1:=rfl

structure Sl(α:Type) where
 a:Option Addr
 c:Nat
 l:List α
abbrev Sl.val{α:Type}(s:Sl α):Value:= .slice s.a s.l.length s.c
theorem fV.dn{w w':World}{B B':Nat}{A:Option Addr}{l:List Int}(h:fV w B A l)(hB:B≤B')(hk:∀b o,b<B→w'.cell? ⟨b,o,none⟩=w.cell? ⟨b,o,none⟩):fV w' B' A l:=fun hn=>by
 obtain⟨b,o,rfl,gD,hc⟩:=h hn;exact⟨b,o,rfl,oz,fun i hi=>(hk b _ gD).trans (hc i hi)⟩
theorem fV.below{w w':World}{A:Option Addr}{l:List Int}(h:fV w w.heap.size A l)(hb:Below w.heap.size w w'):fV w' w'.heap.size A l:=h.dn hb.size (cZ hb)
theorem fV.more{w:World}{B B':Nat}{A:Option Addr}{l:List Int}(h:fV w B A l)(hB:B≤B'):fV w B' A l:=h.dn hB fun _ _ _=>rfl
structure gu where
 op:Int
 a:Int
 b:Int
 d:Int
abbrev gu.val(x:gu):Value:= .agg #[.int .u8 x.op,.int .i64 x.a,.int .i64 x.b,.int .i64 x.d]
structure gu.rd(w:World)(B:Nat)(x:gu):Prop where
 op0:0≤x.op∧x.op≤255
theorem gu.rd.dn{w w':World}{B B':Nat}{x:gu}(h:x.rd w B)(hB:B≤B')(hk:∀b o,b<B→w'.cell? ⟨b,o,none⟩=w.cell? ⟨b,o,none⟩):x.rd w' B':=
 ⟨h.op0⟩
theorem gu.rd.below{w w':World}{x:gu}(h:x.rd w w.heap.size)(hb:Below w.heap.size w w'):x.rd w' w'.heap.size:=h.dn hb.size (cZ hb)
theorem gu.rd.more{w:World}{B B':Nat}{x:gu}(h:x.rd w B)(hB:B≤B'):x.rd w B':=h.dn hB fun _ _ _=>rfl
def ku(w:World)(B:Nat)(A:Option Addr)(l:List gu):Prop:=
 0<l.length→∃b o,A=some ⟨b,o,none⟩∧b<B∧∀i (h:i<l.length),w.cell? ⟨b,o+i*4,none⟩=some (.int .u8 l[i].op)∧w.cell? ⟨b,o+i*4+1,none⟩=some (.int .i64 l[i].a)∧w.cell? ⟨b,o+i*4+2,none⟩=some (.int .i64 l[i].b)∧w.cell? ⟨b,o+i*4+3,none⟩=some (.int .i64 l[i].d)∧l[i].rd w B
theorem ku.dn{w w':World}{B B':Nat}{A:Option Addr}{l:List gu}(h:ku w B A l)(hB:B≤B')(hk:∀b o,b<B→w'.cell? ⟨b,o,none⟩=w.cell? ⟨b,o,none⟩):ku w' B' A l:=fun hn=>by
 obtain⟨b,o,rfl,gD,hc⟩:=h hn;refine⟨b,o,rfl,oz,fun i hi=> ?_⟩;obtain⟨c0,c1,c2,c3,hr⟩:=hc i hi;exact⟨(hk b _ gD).trans c0,(hk b _ gD).trans c1,(hk b _ gD).trans c2,(hk b _ gD).trans c3,hr.dn hB hk⟩
theorem ku.below{w w':World}{A:Option Addr}{l:List gu}(h:ku w w.heap.size A l)(hb:Below w.heap.size w w'):ku w' w'.heap.size A l:=h.dn hb.size (cZ hb)
theorem ku.keep{w w':World}{B:Nat}{A:Option Addr}{l:List gu}(h:ku w B A l)(hb:Below B w w'):ku w' B A l:=h.dn nL (cZ hb)
theorem ku.more{w:World}{B B':Nat}{A:Option Addr}{l:List gu}(h:ku w B A l)(hB:B≤B'):ku w B' A l:=h.dn hB fun _ _ _=>rfl
def CK(g:Nat)(lb:Array Value)(p:gu→Bool)(l:List gu)(w:World):Prop:=
 ∀(W:World) (r:gu),r∈l→Below w.heap.size w W→r.rd W W.heap.size→CU g (#[r.val]++lb) W (.bool (p r))
structure bw where
 m:ByteArray
 p:ByteArray
 o:ByteArray
abbrev bw.val(x:bw):Value:= .agg #[.string x.m,.string x.p,.string x.o]
def jo(w:World)(B:Nat)(A:Option Addr)(l:List bw):Prop:=
 0<l.length→∃b o,A=some ⟨b,o,none⟩∧b<B∧∀i (h:i<l.length),w.cell? ⟨b,o+i*3,none⟩=some (.string l[i].m)∧w.cell? ⟨b,o+i*3+1,none⟩=some (.string l[i].p)∧w.cell? ⟨b,o+i*3+2,none⟩=some (.string l[i].o)
theorem jo.dn{w w':World}{B B':Nat}{A:Option Addr}{l:List bw}(h:jo w B A l)(hB:B≤B')(hk:∀b o,b<B→w'.cell? ⟨b,o,none⟩=w.cell? ⟨b,o,none⟩):jo w' B' A l:=fun hn=>by
 obtain⟨b,o,rfl,gD,hc⟩:=h hn;refine⟨b,o,rfl,oz,fun i hi=> ?_⟩;obtain⟨c0,c1,c2⟩:=hc i hi;exact⟨(hk b _ gD).trans c0,(hk b _ gD).trans c1,(hk b _ gD).trans c2⟩
theorem jo.below{w w':World}{A:Option Addr}{l:List bw}(h:jo w w.heap.size A l)(hb:Below w.heap.size w w'):jo w' w'.heap.size A l:=h.dn hb.size (cZ hb)
theorem jo.keep{w w':World}{B:Nat}{A:Option Addr}{l:List bw}(h:jo w B A l)(hb:Below B w w'):jo w' B A l:=h.dn nL (cZ hb)
theorem jo.more{w:World}{B B':Nat}{A:Option Addr}{l:List bw}(h:jo w B A l)(hB:B≤B'):jo w B' A l:=h.dn hB fun _ _ _=>rfl
def J7(g:Nat)(lb:Array Value)(p:bw→Bool)(l:List bw)(w:World):Prop:=
 ∀(W:World) (r:bw),r∈l→Below w.heap.size w W→CU g (#[r.val]++lb) W (.bool (p r))
structure aM where
 nm:ByteArray
 kd:Int
 out:Bool
 sz:Int
 dp:Int
 rf:Int
abbrev aM.val(x:aM):Value:= .agg #[.string x.nm,.int .u8 x.kd,.bool x.out,.int .i64 x.sz,.int .i64 x.dp,.int .i64 x.rf]
structure aM.rd(w:World)(B:Nat)(x:aM):Prop where
 kd0:0≤x.kd∧x.kd≤255
theorem aM.rd.dn{w w':World}{B B':Nat}{x:aM}(h:x.rd w B)(hB:B≤B')(hk:∀b o,b<B→w'.cell? ⟨b,o,none⟩=w.cell? ⟨b,o,none⟩):x.rd w' B':=
 ⟨h.kd0⟩
theorem aM.rd.below{w w':World}{x:aM}(h:x.rd w w.heap.size)(hb:Below w.heap.size w w'):x.rd w' w'.heap.size:=h.dn hb.size (cZ hb)
theorem aM.rd.more{w:World}{B B':Nat}{x:aM}(h:x.rd w B)(hB:B≤B'):x.rd w B':=h.dn hB fun _ _ _=>rfl
def fu(w:World)(B:Nat)(A:Option Addr)(l:List aM):Prop:=
 0<l.length→∃b o,A=some ⟨b,o,none⟩∧b<B∧∀i (h:i<l.length),w.cell? ⟨b,o+i*6,none⟩=some (.string l[i].nm)∧w.cell? ⟨b,o+i*6+1,none⟩=some (.int .u8 l[i].kd)∧w.cell? ⟨b,o+i*6+2,none⟩=some (.bool l[i].out)∧w.cell? ⟨b,o+i*6+3,none⟩=some (.int .i64 l[i].sz)∧w.cell? ⟨b,o+i*6+4,none⟩=some (.int .i64 l[i].dp)∧w.cell? ⟨b,o+i*6+5,none⟩=some (.int .i64 l[i].rf)∧l[i].rd w B
theorem fu.dn{w w':World}{B B':Nat}{A:Option Addr}{l:List aM}(h:fu w B A l)(hB:B≤B')(hk:∀b o,b<B→w'.cell? ⟨b,o,none⟩=w.cell? ⟨b,o,none⟩):fu w' B' A l:=fun hn=>by
 obtain⟨b,o,rfl,gD,hc⟩:=h hn;refine⟨b,o,rfl,oz,fun i hi=> ?_⟩;obtain⟨c0,c1,c2,c3,c4,c5,hr⟩:=hc i hi;exact⟨(hk b _ gD).trans c0,(hk b _ gD).trans c1,(hk b _ gD).trans c2,(hk b _ gD).trans c3,(hk b _ gD).trans c4,(hk b _ gD).trans c5,hr.dn hB hk⟩
theorem fu.below{w w':World}{A:Option Addr}{l:List aM}(h:fu w w.heap.size A l)(hb:Below w.heap.size w w'):fu w' w'.heap.size A l:=h.dn hb.size (cZ hb)
theorem fu.keep{w w':World}{B:Nat}{A:Option Addr}{l:List aM}(h:fu w B A l)(hb:Below B w w'):fu w' B A l:=h.dn nL (cZ hb)
theorem fu.more{w:World}{B B':Nat}{A:Option Addr}{l:List aM}(h:fu w B A l)(hB:B≤B'):fu w B' A l:=h.dn hB fun _ _ _=>rfl
def wY(g:Nat)(lb:Array Value)(p:aM→Bool)(l:List aM)(w:World):Prop:=
 ∀(W:World) (r:aM),r∈l→Below w.heap.size w W→r.rd W W.heap.size→CU g (#[r.val]++lb) W (.bool (p r))
structure cT where
 nm:ByteArray
 pr:Int
 pe:Int
 li:Int
 code:Sl gu
abbrev cT.val(x:cT):Value:= .agg #[.string x.nm,.int .i64 x.pr,.int .i64 x.pe,.int .i64 x.li,x.code.val]
structure cT.rd(w:World)(B:Nat)(x:cT):Prop where
 WB:x.code.l.length≤x.code.c
 WC:x.code.c≤maxLen
 code:ku w B x.code.a x.code.l
theorem cT.rd.dn{w w':World}{B B':Nat}{x:cT}(h:x.rd w B)(hB:B≤B')(hk:∀b o,b<B→w'.cell? ⟨b,o,none⟩=w.cell? ⟨b,o,none⟩):x.rd w' B':=
 ⟨h.WB,h.WC,h.code.dn hB hk⟩
theorem cT.rd.below{w w':World}{x:cT}(h:x.rd w w.heap.size)(hb:Below w.heap.size w w'):x.rd w' w'.heap.size:=h.dn hb.size (cZ hb)
theorem cT.rd.more{w:World}{B B':Nat}{x:cT}(h:x.rd w B)(hB:B≤B'):x.rd w B':=h.dn hB fun _ _ _=>rfl
def gI(w:World)(B:Nat)(A:Option Addr)(l:List cT):Prop:=
 0<l.length→∃b o,A=some ⟨b,o,none⟩∧b<B∧∀i (h:i<l.length),w.cell? ⟨b,o+i*5,none⟩=some (.string l[i].nm)∧w.cell? ⟨b,o+i*5+1,none⟩=some (.int .i64 l[i].pr)∧w.cell? ⟨b,o+i*5+2,none⟩=some (.int .i64 l[i].pe)∧w.cell? ⟨b,o+i*5+3,none⟩=some (.int .i64 l[i].li)∧w.cell? ⟨b,o+i*5+4,none⟩=some (l[i].code.val)∧l[i].rd w B
theorem gI.dn{w w':World}{B B':Nat}{A:Option Addr}{l:List cT}(h:gI w B A l)(hB:B≤B')(hk:∀b o,b<B→w'.cell? ⟨b,o,none⟩=w.cell? ⟨b,o,none⟩):gI w' B' A l:=fun hn=>by
 obtain⟨b,o,rfl,gD,hc⟩:=h hn;refine⟨b,o,rfl,oz,fun i hi=> ?_⟩;obtain⟨c0,c1,c2,c3,c4,hr⟩:=hc i hi;exact⟨(hk b _ gD).trans c0,(hk b _ gD).trans c1,(hk b _ gD).trans c2,(hk b _ gD).trans c3,(hk b _ gD).trans c4,hr.dn hB hk⟩
theorem gI.below{w w':World}{A:Option Addr}{l:List cT}(h:gI w w.heap.size A l)(hb:Below w.heap.size w w'):gI w' w'.heap.size A l:=h.dn hb.size (cZ hb)
theorem gI.keep{w w':World}{B:Nat}{A:Option Addr}{l:List cT}(h:gI w B A l)(hb:Below B w w'):gI w' B A l:=h.dn nL (cZ hb)
theorem gI.more{w:World}{B B':Nat}{A:Option Addr}{l:List cT}(h:gI w B A l)(hB:B≤B'):gI w B' A l:=h.dn hB fun _ _ _=>rfl
def wZ(g:Nat)(lb:Array Value)(p:cT→Bool)(l:List cT)(w:World):Prop:=
 ∀(W:World) (r:cT),r∈l→Below w.heap.size w W→r.rd W W.heap.size→CU g (#[r.val]++lb) W (.bool (p r))
structure aC where
 nm:ByteArray
 pe:Int
 le:Int
 mem:Int
 aG:Sl Int
 ev:Int
 bo:Int
 aX:Sl Int
 aq:Sl aM
 procs:Sl cT
abbrev aC.val(x:aC):Value:= .agg #[.string x.nm,.int .i64 x.pe,.int .i64 x.le,.int .i64 x.mem,x.aG.val,.int .i64 x.ev,.int .i64 x.bo,x.aX.val,x.aq.val,x.procs.val]
structure aC.rd(w:World)(B:Nat)(x:aC):Prop where
 Ks:x.aG.l.length≤x.aG.c
 Kt:x.aG.c≤maxLen
 aG:fV w B x.aG.a x.aG.l
 R7:x.aX.l.length≤x.aX.c
 R8:x.aX.c≤maxLen
 aX:fV w B x.aX.a x.aX.l
 DX:x.aq.l.length≤x.aq.c
 DY:x.aq.c≤maxLen
 aq:fu w B x.aq.a x.aq.l
 zG:x.procs.l.length≤x.procs.c
 zH:x.procs.c≤maxLen
 procs:gI w B x.procs.a x.procs.l
theorem aC.rd.dn{w w':World}{B B':Nat}{x:aC}(h:x.rd w B)(hB:B≤B')(hk:∀b o,b<B→w'.cell? ⟨b,o,none⟩=w.cell? ⟨b,o,none⟩):x.rd w' B':=
 ⟨h.Ks,h.Kt,h.aG.dn hB hk,h.R7,h.R8,h.aX.dn hB hk,h.DX,h.DY,h.aq.dn hB hk,h.zG,h.zH,h.procs.dn hB hk⟩
theorem aC.rd.below{w w':World}{x:aC}(h:x.rd w w.heap.size)(hb:Below w.heap.size w w'):x.rd w' w'.heap.size:=h.dn hb.size (cZ hb)
theorem aC.rd.more{w:World}{B B':Nat}{x:aC}(h:x.rd w B)(hB:B≤B'):x.rd w B':=h.dn hB fun _ _ _=>rfl
def fW(w:World)(B:Nat)(A:Option Addr)(l:List aC):Prop:=
 0<l.length→∃b o,A=some ⟨b,o,none⟩∧b<B∧∀i (h:i<l.length),w.cell? ⟨b,o+i*10,none⟩=some (.string l[i].nm)∧w.cell? ⟨b,o+i*10+1,none⟩=some (.int .i64 l[i].pe)∧w.cell? ⟨b,o+i*10+2,none⟩=some (.int .i64 l[i].le)∧w.cell? ⟨b,o+i*10+3,none⟩=some (.int .i64 l[i].mem)∧w.cell? ⟨b,o+i*10+4,none⟩=some (l[i].aG.val)∧w.cell? ⟨b,o+i*10+5,none⟩=some (.int .i64 l[i].ev)∧w.cell? ⟨b,o+i*10+6,none⟩=some (.int .i64 l[i].bo)∧w.cell? ⟨b,o+i*10+7,none⟩=some (l[i].aX.val)∧w.cell? ⟨b,o+i*10+8,none⟩=some (l[i].aq.val)∧w.cell? ⟨b,o+i*10+9,none⟩=some (l[i].procs.val)∧l[i].rd w B
theorem fW.dn{w w':World}{B B':Nat}{A:Option Addr}{l:List aC}(h:fW w B A l)(hB:B≤B')(hk:∀b o,b<B→w'.cell? ⟨b,o,none⟩=w.cell? ⟨b,o,none⟩):fW w' B' A l:=fun hn=>by
 obtain⟨b,o,rfl,gD,hc⟩:=h hn;refine⟨b,o,rfl,oz,fun i hi=> ?_⟩;obtain⟨c0,c1,c2,c3,c4,c5,c6,c7,c8,c9,hr⟩:=hc i hi;exact⟨(hk b _ gD).trans c0,(hk b _ gD).trans c1,(hk b _ gD).trans c2,(hk b _ gD).trans c3,(hk b _ gD).trans c4,(hk b _ gD).trans c5,(hk b _ gD).trans c6,(hk b _ gD).trans c7,(hk b _ gD).trans c8,(hk b _ gD).trans c9,hr.dn hB hk⟩
theorem fW.below{w w':World}{A:Option Addr}{l:List aC}(h:fW w w.heap.size A l)(hb:Below w.heap.size w w'):fW w' w'.heap.size A l:=h.dn hb.size (cZ hb)
theorem fW.keep{w w':World}{B:Nat}{A:Option Addr}{l:List aC}(h:fW w B A l)(hb:Below B w w'):fW w' B A l:=h.dn nL (cZ hb)
theorem fW.more{w:World}{B B':Nat}{A:Option Addr}{l:List aC}(h:fW w B A l)(hB:B≤B'):fW w B' A l:=h.dn hB fun _ _ _=>rfl
def xg(g:Nat)(lb:Array Value)(p:aC→Bool)(l:List aC)(w:World):Prop:=
 ∀(W:World) (r:aC),r∈l→Below w.heap.size w W→r.rd W W.heap.size→CU g (#[r.val]++lb) W (.bool (p r))
structure bT where
 nm:ByteArray
 mem:Int
 fr:Int
 parts:Sl aC
abbrev bT.val(x:bT):Value:= .agg #[.string x.nm,.int .i64 x.mem,.int .i64 x.fr,x.parts.val]
structure bT.rd(w:World)(B:Nat)(x:bT):Prop where
 zI:x.parts.l.length≤x.parts.c
 zJ:x.parts.c≤maxLen
 parts:fW w B x.parts.a x.parts.l
theorem bT.rd.dn{w w':World}{B B':Nat}{x:bT}(h:x.rd w B)(hB:B≤B')(hk:∀b o,b<B→w'.cell? ⟨b,o,none⟩=w.cell? ⟨b,o,none⟩):x.rd w' B':=
 ⟨h.zI,h.zJ,h.parts.dn hB hk⟩
theorem bT.rd.below{w w':World}{x:bT}(h:x.rd w w.heap.size)(hb:Below w.heap.size w w'):x.rd w' w'.heap.size:=h.dn hb.size (cZ hb)
theorem bT.rd.more{w:World}{B B':Nat}{x:bT}(h:x.rd w B)(hB:B≤B'):x.rd w B':=h.dn hB fun _ _ _=>rfl
def dK(w:World)(B:Nat)(A:Option Addr)(l:List bT):Prop:=
 0<l.length→∃b o,A=some ⟨b,o,none⟩∧b<B∧∀i (h:i<l.length),w.cell? ⟨b,o+i*4,none⟩=some (.string l[i].nm)∧w.cell? ⟨b,o+i*4+1,none⟩=some (.int .i64 l[i].mem)∧w.cell? ⟨b,o+i*4+2,none⟩=some (.int .i64 l[i].fr)∧w.cell? ⟨b,o+i*4+3,none⟩=some (l[i].parts.val)∧l[i].rd w B
theorem dK.dn{w w':World}{B B':Nat}{A:Option Addr}{l:List bT}(h:dK w B A l)(hB:B≤B')(hk:∀b o,b<B→w'.cell? ⟨b,o,none⟩=w.cell? ⟨b,o,none⟩):dK w' B' A l:=fun hn=>by
 obtain⟨b,o,rfl,gD,hc⟩:=h hn;refine⟨b,o,rfl,oz,fun i hi=> ?_⟩;obtain⟨c0,c1,c2,c3,hr⟩:=hc i hi;exact⟨(hk b _ gD).trans c0,(hk b _ gD).trans c1,(hk b _ gD).trans c2,(hk b _ gD).trans c3,hr.dn hB hk⟩
theorem dK.below{w w':World}{A:Option Addr}{l:List bT}(h:dK w w.heap.size A l)(hb:Below w.heap.size w w'):dK w' w'.heap.size A l:=h.dn hb.size (cZ hb)
theorem dK.keep{w w':World}{B:Nat}{A:Option Addr}{l:List bT}(h:dK w B A l)(hb:Below B w w'):dK w' B A l:=h.dn nL (cZ hb)
theorem dK.more{w:World}{B B':Nat}{A:Option Addr}{l:List bT}(h:dK w B A l)(hB:B≤B'):dK w B' A l:=h.dn hB fun _ _ _=>rfl
def qX(g:Nat)(lb:Array Value)(p:bT→Bool)(l:List bT)(w:World):Prop:=
 ∀(W:World) (r:bT),r∈l→Below w.heap.size w W→r.rd W W.heap.size→CU g (#[r.val]++lb) W (.bool (p r))
structure gq where
 src:bw
 dst:Sl bw
abbrev gq.val(x:gq):Value:= .agg #[.string x.src.m,.string x.src.p,.string x.src.o,x.dst.val]
structure gq.rd(w:World)(B:Nat)(x:gq):Prop where
 P5:x.dst.l.length≤x.dst.c
 P6:x.dst.c≤maxLen
 dst:jo w B x.dst.a x.dst.l
theorem gq.rd.dn{w w':World}{B B':Nat}{x:gq}(h:x.rd w B)(hB:B≤B')(hk:∀b o,b<B→w'.cell? ⟨b,o,none⟩=w.cell? ⟨b,o,none⟩):x.rd w' B':=
 ⟨h.P5,h.P6,h.dst.dn hB hk⟩
theorem gq.rd.below{w w':World}{x:gq}(h:x.rd w w.heap.size)(hb:Below w.heap.size w w'):x.rd w' w'.heap.size:=h.dn hb.size (cZ hb)
theorem gq.rd.more{w:World}{B B':Nat}{x:gq}(h:x.rd w B)(hB:B≤B'):x.rd w B':=h.dn hB fun _ _ _=>rfl
def dY(w:World)(B:Nat)(A:Option Addr)(l:List gq):Prop:=
 0<l.length→∃b o,A=some ⟨b,o,none⟩∧b<B∧∀i (h:i<l.length),w.cell? ⟨b,o+i*4,none⟩=some (.string l[i].src.m)∧w.cell? ⟨b,o+i*4+1,none⟩=some (.string l[i].src.p)∧w.cell? ⟨b,o+i*4+2,none⟩=some (.string l[i].src.o)∧w.cell? ⟨b,o+i*4+3,none⟩=some (l[i].dst.val)∧l[i].rd w B
theorem dY.dn{w w':World}{B B':Nat}{A:Option Addr}{l:List gq}(h:dY w B A l)(hB:B≤B')(hk:∀b o,b<B→w'.cell? ⟨b,o,none⟩=w.cell? ⟨b,o,none⟩):dY w' B' A l:=fun hn=>by
 obtain⟨b,o,rfl,gD,hc⟩:=h hn;refine⟨b,o,rfl,oz,fun i hi=> ?_⟩;obtain⟨c0,c1,c2,c3,hr⟩:=hc i hi;exact⟨(hk b _ gD).trans c0,(hk b _ gD).trans c1,(hk b _ gD).trans c2,(hk b _ gD).trans c3,hr.dn hB hk⟩
theorem dY.below{w w':World}{A:Option Addr}{l:List gq}(h:dY w w.heap.size A l)(hb:Below w.heap.size w w'):dY w' w'.heap.size A l:=h.dn hb.size (cZ hb)
theorem dY.keep{w w':World}{B:Nat}{A:Option Addr}{l:List gq}(h:dY w B A l)(hb:Below B w w'):dY w' B A l:=h.dn nL (cZ hb)
theorem dY.more{w:World}{B B':Nat}{A:Option Addr}{l:List gq}(h:dY w B A l)(hB:B≤B'):dY w B' A l:=h.dn hB fun _ _ _=>rfl
def sR(g:Nat)(lb:Array Value)(p:gq→Bool)(l:List gq)(w:World):Prop:=
 ∀(W:World) (r:gq),r∈l→Below w.heap.size w W→r.rd W W.heap.size→CU g (#[r.val]++lb) W (.bool (p r))
structure iI where
 nm:ByteArray
 net:Int
 dl:Int
 st:Int
abbrev iI.val(x:iI):Value:= .agg #[.string x.nm,.int .i64 x.net,.int .i64 x.dl,.int .i64 x.st]
def dL(w:World)(B:Nat)(A:Option Addr)(l:List iI):Prop:=
 0<l.length→∃b o,A=some ⟨b,o,none⟩∧b<B∧∀i (h:i<l.length),w.cell? ⟨b,o+i*4,none⟩=some (.string l[i].nm)∧w.cell? ⟨b,o+i*4+1,none⟩=some (.int .i64 l[i].net)∧w.cell? ⟨b,o+i*4+2,none⟩=some (.int .i64 l[i].dl)∧w.cell? ⟨b,o+i*4+3,none⟩=some (.int .i64 l[i].st)
theorem dL.dn{w w':World}{B B':Nat}{A:Option Addr}{l:List iI}(h:dL w B A l)(hB:B≤B')(hk:∀b o,b<B→w'.cell? ⟨b,o,none⟩=w.cell? ⟨b,o,none⟩):dL w' B' A l:=fun hn=>by
 obtain⟨b,o,rfl,gD,hc⟩:=h hn;refine⟨b,o,rfl,oz,fun i hi=> ?_⟩;obtain⟨c0,c1,c2,c3⟩:=hc i hi;exact⟨(hk b _ gD).trans c0,(hk b _ gD).trans c1,(hk b _ gD).trans c2,(hk b _ gD).trans c3⟩
theorem dL.below{w w':World}{A:Option Addr}{l:List iI}(h:dL w w.heap.size A l)(hb:Below w.heap.size w w'):dL w' w'.heap.size A l:=h.dn hb.size (cZ hb)
theorem dL.keep{w w':World}{B:Nat}{A:Option Addr}{l:List iI}(h:dL w B A l)(hb:Below B w w'):dL w' B A l:=h.dn nL (cZ hb)
theorem dL.more{w:World}{B B':Nat}{A:Option Addr}{l:List iI}(h:dL w B A l)(hB:B≤B'):dL w B' A l:=h.dn hB fun _ _ _=>rfl
def qY(g:Nat)(lb:Array Value)(p:iI→Bool)(l:List iI)(w:World):Prop:=
 ∀(W:World) (r:iI),r∈l→Below w.heap.size w W→CU g (#[r.val]++lb) W (.bool (p r))
structure aO where
 a:ByteArray
 b:ByteArray
 net:Int
 slow:Int
abbrev aO.val(x:aO):Value:= .agg #[.string x.a,.string x.b,.int .i64 x.net,.int .i64 x.slow]
def fZ(w:World)(B:Nat)(A:Option Addr)(l:List aO):Prop:=
 0<l.length→∃b o,A=some ⟨b,o,none⟩∧b<B∧∀i (h:i<l.length),w.cell? ⟨b,o+i*4,none⟩=some (.string l[i].a)∧w.cell? ⟨b,o+i*4+1,none⟩=some (.string l[i].b)∧w.cell? ⟨b,o+i*4+2,none⟩=some (.int .i64 l[i].net)∧w.cell? ⟨b,o+i*4+3,none⟩=some (.int .i64 l[i].slow)
theorem fZ.dn{w w':World}{B B':Nat}{A:Option Addr}{l:List aO}(h:fZ w B A l)(hB:B≤B')(hk:∀b o,b<B→w'.cell? ⟨b,o,none⟩=w.cell? ⟨b,o,none⟩):fZ w' B' A l:=fun hn=>by
 obtain⟨b,o,rfl,gD,hc⟩:=h hn;refine⟨b,o,rfl,oz,fun i hi=> ?_⟩;obtain⟨c0,c1,c2,c3⟩:=hc i hi;exact⟨(hk b _ gD).trans c0,(hk b _ gD).trans c1,(hk b _ gD).trans c2,(hk b _ gD).trans c3⟩
theorem fZ.below{w w':World}{A:Option Addr}{l:List aO}(h:fZ w w.heap.size A l)(hb:Below w.heap.size w w'):fZ w' w'.heap.size A l:=h.dn hb.size (cZ hb)
theorem fZ.keep{w w':World}{B:Nat}{A:Option Addr}{l:List aO}(h:fZ w B A l)(hb:Below B w w'):fZ w' B A l:=h.dn nL (cZ hb)
theorem fZ.more{w:World}{B B':Nat}{A:Option Addr}{l:List aO}(h:fZ w B A l)(hB:B≤B'):fZ w B' A l:=h.dn hB fun _ _ _=>rfl
def xu(g:Nat)(lb:Array Value)(p:aO→Bool)(l:List aO)(w:World):Prop:=
 ∀(W:World) (r:aO),r∈l→Below w.heap.size w W→CU g (#[r.val]++lb) W (.bool (p r))
structure fU where
 nm:ByteArray
 src:bw
 lQ:Int
 mx:Int
 dst:Sl bw
abbrev fU.val(x:fU):Value:= .agg #[.string x.nm,.string x.src.m,.string x.src.p,.string x.src.o,.int .i64 x.lQ,.int .i64 x.mx,x.dst.val]
structure fU.rd(w:World)(B:Nat)(x:fU):Prop where
 P5:x.dst.l.length≤x.dst.c
 P6:x.dst.c≤maxLen
 dst:jo w B x.dst.a x.dst.l
theorem fU.rd.dn{w w':World}{B B':Nat}{x:fU}(h:x.rd w B)(hB:B≤B')(hk:∀b o,b<B→w'.cell? ⟨b,o,none⟩=w.cell? ⟨b,o,none⟩):x.rd w' B':=
 ⟨h.P5,h.P6,h.dst.dn hB hk⟩
theorem fU.rd.below{w w':World}{x:fU}(h:x.rd w w.heap.size)(hb:Below w.heap.size w w'):x.rd w' w'.heap.size:=h.dn hb.size (cZ hb)
theorem fU.rd.more{w:World}{B B':Nat}{x:fU}(h:x.rd w B)(hB:B≤B'):x.rd w B':=h.dn hB fun _ _ _=>rfl
def mV(w:World)(B:Nat)(A:Option Addr)(l:List fU):Prop:=
 0<l.length→∃b o,A=some ⟨b,o,none⟩∧b<B∧∀i (h:i<l.length),w.cell? ⟨b,o+i*7,none⟩=some (.string l[i].nm)∧w.cell? ⟨b,o+i*7+1,none⟩=some (.string l[i].src.m)∧w.cell? ⟨b,o+i*7+2,none⟩=some (.string l[i].src.p)∧w.cell? ⟨b,o+i*7+3,none⟩=some (.string l[i].src.o)∧w.cell? ⟨b,o+i*7+4,none⟩=some (.int .i64 l[i].lQ)∧w.cell? ⟨b,o+i*7+5,none⟩=some (.int .i64 l[i].mx)∧w.cell? ⟨b,o+i*7+6,none⟩=some (l[i].dst.val)∧l[i].rd w B
theorem mV.dn{w w':World}{B B':Nat}{A:Option Addr}{l:List fU}(h:mV w B A l)(hB:B≤B')(hk:∀b o,b<B→w'.cell? ⟨b,o,none⟩=w.cell? ⟨b,o,none⟩):mV w' B' A l:=fun hn=>by
 obtain⟨b,o,rfl,gD,hc⟩:=h hn;refine⟨b,o,rfl,oz,fun i hi=> ?_⟩;obtain⟨c0,c1,c2,c3,c4,c5,c6,hr⟩:=hc i hi;exact⟨(hk b _ gD).trans c0,(hk b _ gD).trans c1,(hk b _ gD).trans c2,(hk b _ gD).trans c3,(hk b _ gD).trans c4,(hk b _ gD).trans c5,(hk b _ gD).trans c6,hr.dn hB hk⟩
theorem mV.below{w w':World}{A:Option Addr}{l:List fU}(h:mV w w.heap.size A l)(hb:Below w.heap.size w w'):mV w' w'.heap.size A l:=h.dn hb.size (cZ hb)
theorem mV.keep{w w':World}{B:Nat}{A:Option Addr}{l:List fU}(h:mV w B A l)(hb:Below B w w'):mV w' B A l:=h.dn nL (cZ hb)
theorem mV.more{w:World}{B B':Nat}{A:Option Addr}{l:List fU}(h:mV w B A l)(hB:B≤B'):mV w B' A l:=h.dn hB fun _ _ _=>rfl
def J9(g:Nat)(lb:Array Value)(p:fU→Bool)(l:List fU)(w:World):Prop:=
 ∀(W:World) (r:fU),r∈l→Below w.heap.size w W→r.rd W W.heap.size→CU g (#[r.val]++lb) W (.bool (p r))
structure iK where
 m:ByteArray
 p:ByteArray
 yV:Int
 lv:Int
 dd:Int
abbrev iK.val(x:iK):Value:= .agg #[.string x.m,.string x.p,.int .u8 x.yV,.int .u8 x.lv,.int .u8 x.dd]
structure iK.rd(w:World)(B:Nat)(x:iK):Prop where
 aEl:0≤x.yV∧x.yV≤255
 lv0:0≤x.lv∧x.lv≤255
 dd0:0≤x.dd∧x.dd≤255
theorem iK.rd.dn{w w':World}{B B':Nat}{x:iK}(h:x.rd w B)(hB:B≤B')(hk:∀b o,b<B→w'.cell? ⟨b,o,none⟩=w.cell? ⟨b,o,none⟩):x.rd w' B':=
 ⟨h.aEl,h.lv0,h.dd0⟩
theorem iK.rd.below{w w':World}{x:iK}(h:x.rd w w.heap.size)(hb:Below w.heap.size w w'):x.rd w' w'.heap.size:=h.dn hb.size (cZ hb)
theorem iK.rd.more{w:World}{B B':Nat}{x:iK}(h:x.rd w B)(hB:B≤B'):x.rd w B':=h.dn hB fun _ _ _=>rfl
def fA(w:World)(B:Nat)(A:Option Addr)(l:List iK):Prop:=
 0<l.length→∃b o,A=some ⟨b,o,none⟩∧b<B∧∀i (h:i<l.length),w.cell? ⟨b,o+i*5,none⟩=some (.string l[i].m)∧w.cell? ⟨b,o+i*5+1,none⟩=some (.string l[i].p)∧w.cell? ⟨b,o+i*5+2,none⟩=some (.int .u8 l[i].yV)∧w.cell? ⟨b,o+i*5+3,none⟩=some (.int .u8 l[i].lv)∧w.cell? ⟨b,o+i*5+4,none⟩=some (.int .u8 l[i].dd)∧l[i].rd w B
theorem fA.dn{w w':World}{B B':Nat}{A:Option Addr}{l:List iK}(h:fA w B A l)(hB:B≤B')(hk:∀b o,b<B→w'.cell? ⟨b,o,none⟩=w.cell? ⟨b,o,none⟩):fA w' B' A l:=fun hn=>by
 obtain⟨b,o,rfl,gD,hc⟩:=h hn;refine⟨b,o,rfl,oz,fun i hi=> ?_⟩;obtain⟨c0,c1,c2,c3,c4,hr⟩:=hc i hi;exact⟨(hk b _ gD).trans c0,(hk b _ gD).trans c1,(hk b _ gD).trans c2,(hk b _ gD).trans c3,(hk b _ gD).trans c4,hr.dn hB hk⟩
theorem fA.below{w w':World}{A:Option Addr}{l:List iK}(h:fA w w.heap.size A l)(hb:Below w.heap.size w w'):fA w' w'.heap.size A l:=h.dn hb.size (cZ hb)
theorem fA.keep{w w':World}{B:Nat}{A:Option Addr}{l:List iK}(h:fA w B A l)(hb:Below B w w'):fA w' B A l:=h.dn nL (cZ hb)
theorem fA.more{w:World}{B B':Nat}{A:Option Addr}{l:List iK}(h:fA w B A l)(hB:B≤B'):fA w B' A l:=h.dn hB fun _ _ _=>rfl
def qZ(g:Nat)(lb:Array Value)(p:iK→Bool)(l:List iK)(w:World):Prop:=
 ∀(W:World) (r:iK),r∈l→Below w.heap.size w W→r.rd W W.heap.size→CU g (#[r.val]++lb) W (.bool (p r))
structure lF where
 a:ByteArray
 va:Int
 b:ByteArray
 vb:Int
abbrev lF.val(x:lF):Value:= .agg #[.string x.a,.int .i64 x.va,.string x.b,.int .i64 x.vb]
def dS(w:World)(B:Nat)(A:Option Addr)(l:List lF):Prop:=
 0<l.length→∃b o,A=some ⟨b,o,none⟩∧b<B∧∀i (h:i<l.length),w.cell? ⟨b,o+i*4,none⟩=some (.string l[i].a)∧w.cell? ⟨b,o+i*4+1,none⟩=some (.int .i64 l[i].va)∧w.cell? ⟨b,o+i*4+2,none⟩=some (.string l[i].b)∧w.cell? ⟨b,o+i*4+3,none⟩=some (.int .i64 l[i].vb)
theorem dS.dn{w w':World}{B B':Nat}{A:Option Addr}{l:List lF}(h:dS w B A l)(hB:B≤B')(hk:∀b o,b<B→w'.cell? ⟨b,o,none⟩=w.cell? ⟨b,o,none⟩):dS w' B' A l:=fun hn=>by
 obtain⟨b,o,rfl,gD,hc⟩:=h hn;refine⟨b,o,rfl,oz,fun i hi=> ?_⟩;obtain⟨c0,c1,c2,c3⟩:=hc i hi;exact⟨(hk b _ gD).trans c0,(hk b _ gD).trans c1,(hk b _ gD).trans c2,(hk b _ gD).trans c3⟩
theorem dS.below{w w':World}{A:Option Addr}{l:List lF}(h:dS w w.heap.size A l)(hb:Below w.heap.size w w'):dS w' w'.heap.size A l:=h.dn hb.size (cZ hb)
theorem dS.keep{w w':World}{B:Nat}{A:Option Addr}{l:List lF}(h:dS w B A l)(hb:Below B w w'):dS w' B A l:=h.dn nL (cZ hb)
theorem dS.more{w:World}{B B':Nat}{A:Option Addr}{l:List lF}(h:dS w B A l)(hB:B≤B'):dS w B' A l:=h.dn hB fun _ _ _=>rfl
def pS(g:Nat)(lb:Array Value)(p:lF→Bool)(l:List lF)(w:World):Prop:=
 ∀(W:World) (r:lF),r∈l→Below w.heap.size w W→CU g (#[r.val]++lb) W (.bool (p r))
structure ay where
 mods:Sl bT
 aj:Sl gq
 aP:Sl iI
 links:Sl aO
 aF:Sl fU
 bQ:Sl iK
 causes:Sl fC
 aA:Sl lF
abbrev ay.val(x:ay):Value:= .agg #[x.mods.val,x.aj.val,x.aP.val,x.links.val,x.aF.val,x.bQ.val,x.causes.val,x.aA.val]
structure ay.rd(w:World)(B:Nat)(x:ay):Prop where
 AU:x.mods.l.length≤x.mods.c
 AV:x.mods.c≤maxLen
 mods:dK w B x.mods.a x.mods.l
 DZ:x.aj.l.length≤x.aj.c
 D1:x.aj.c≤maxLen
 aj:dY w B x.aj.a x.aj.l
 aBH:x.aP.l.length≤x.aP.c
 aBI:x.aP.c≤maxLen
 aP:dL w B x.aP.a x.aP.l
 D2:x.links.l.length≤x.links.c
 D3:x.links.c≤maxLen
 links:fZ w B x.links.a x.links.l
 T9:x.aF.l.length≤x.aF.c
 Ua:x.aF.c≤maxLen
 aF:mV w B x.aF.a x.aF.l
 aBJ:x.bQ.l.length≤x.bQ.c
 aBK:x.bQ.c≤maxLen
 bQ:fA w B x.bQ.a x.bQ.l
 CN:x.causes.l.length≤x.causes.c
 CO:x.causes.c≤maxLen
 causes:kr w B x.causes.a x.causes.l
 R9:x.aA.l.length≤x.aA.c
 Sb:x.aA.c≤maxLen
 aA:dS w B x.aA.a x.aA.l
theorem ay.rd.dn{w w':World}{B B':Nat}{x:ay}(h:x.rd w B)(hB:B≤B')(hk:∀b o,b<B→w'.cell? ⟨b,o,none⟩=w.cell? ⟨b,o,none⟩):x.rd w' B':=
 ⟨h.AU,h.AV,h.mods.dn hB hk,h.DZ,h.D1,h.aj.dn hB hk,h.aBH,h.aBI,h.aP.dn hB hk,h.D2,h.D3,h.links.dn hB hk,h.T9,h.Ua,h.aF.dn hB hk,h.aBJ,h.aBK,h.bQ.dn hB hk,h.CN,h.CO,h.causes.dn hB hk,h.R9,h.Sb,h.aA.dn hB hk⟩
theorem ay.rd.below{w w':World}{x:ay}(h:x.rd w w.heap.size)(hb:Below w.heap.size w w'):x.rd w' w'.heap.size:=h.dn hb.size (cZ hb)
theorem ay.rd.more{w:World}{B B':Nat}{x:ay}(h:x.rd w B)(hB:B≤B'):x.rd w B':=h.dn hB fun _ _ _=>rfl
end
end Go.Proofs.YtmdgooofdmpcjaaGreatDoor
