import Derived.Test.YtmdgooofdmpcjaaGreatDoorY26
import Derived.Test.YtmdgooofdmpcjaaGreatDoorY38
import Derived.Test.YtmdgooofdmpcjaaGreatDoorY29
import Derived.Test.YtmdgooofdmpcjaaGreatDoorY24
import Derived.Test.YtmdgooofdmpcjaaGreatDoorY27
import Derived.Test.YtmdgooofdmpcjaaGreatDoorY0
set_option maxRecDepth 100000
set_option maxHeartbeats 8000000
set_option linter.unusedSimpArgs false
set_option linter.unusedVariables false
set_option linter.unusedSectionVars false
open Go.Proofs.Tryz renaming prog → pG
namespace Go.Proofs.YtmdgooofdmpcjaaGreatDoor
section
open Go.ChangeShapes Go.WideShapes Go.ChangeAt Go.RowKit
attribute [local go_sem] Oper.semAt_some
theorem Zp:(pG.info? 46).map (fun i=>(i.zero,i.size,i.bytes))=some (some (.agg #[.string ⟨#[]⟩,.string ⟨#[]⟩,.int .i64 0,.int .i64 0]),4,48):=by kernel_rfl
def Vg(x:ay)(vl:Value):Array Value:= #[.slice x.mods.a x.mods.l.length x.mods.c,.slice x.aj.a x.aj.l.length x.aj.c,.slice x.aP.a x.aP.l.length x.aP.c,vl,.slice x.aF.a x.aF.l.length x.aF.c,.slice x.bQ.a x.bQ.l.length x.bQ.c,.slice x.causes.a x.causes.l.length x.causes.c,.slice x.aA.a x.aA.l.length x.aA.c]
structure Zq(w0 W:World)(base db:Nat)(x:ay)(vl:Value)(K:List aO)(V:Value)(ids:List Nat):Prop where
 box:ah W db 31 (Vg x vl)
 GS:W.ownsRow base 46 4 vl K.length (K.flatMap aO.cells)
 Fe:W.ownsRow base 3 1 V ids.length (ids.map fun k:Nat=>Value.int .i64 (k:Int))
 lE:Below base w0 W
 sz:base≤W.heap.size
 hd:base≤db
section
variable {w0 W W' W1:World} {base db:Nat} {x:ay} {vl V v':Value} {K:List aO} {ids:List Nat} {o:Obj}
theorem Zq.below(h:Zq w0 W base db x vl K V ids)(hb:Below W.heap.size W W'):Zq w0 W' base db x vl K V ids:=
 ⟨h.box.below hb h.box.lt,cO (X:=fun k=>W.heap.size≤k) h.GS (Gr.ak hb) (fun k hk e=>by have:=(h.GS.lt k hk).2;omega),cO (X:=fun k=>W.heap.size≤k) h.Fe (Gr.ak hb) (fun k hk e=>by have:=(h.Fe.lt k hk).2;omega),h.lE.trans (hb.mono h.sz),nT h.sz hb.size,h.hd⟩
theorem Zq.aQX{y:aO}(h:Zq w0 W base db x vl K V ids)(hown:W1.ownsRow base 46 4 v' (K.length+1) (K.flatMap aO.cells++y.cells))(hG:(W.alloc o).grownBy W1 vl.ownBlock):
 Zq w0 (W1.setCell ⟨db,3,none⟩ v') base db x v' (K++ [y]) V ids∧ah W1 db 31 (Vg x vl):=by
 have h0:=h.below (W':=W.alloc o) (bN);have hg:Gr (fun k=>vl.ownBlock=some k) (W.alloc o) W1:=Gr.eO hG (fun k e=>e);have aU:ah W1 db 31 (Vg x vl):=hg.blk h0.box (aW h0.GS h0.box dz);have Wq:=cO h0.Fe hg (fun k hk e=>Db h0.Fe h0.GS dz k hk e);have eG:Gr (· =db) W1 (W1.setCell ⟨db,3,none⟩ v'):=Gr.setCell _ _ _ rfl;have Xz:Below base w0 W1:=j8 h0.lE h0.sz hg (fun k e=>(h0.GS.lt k e).1);have KD:base≤W1.heap.size:=nT h0.sz hg.size;refine⟨⟨by simpa [Vg]using aU.bX 3 v',cO (by simpa using hown) eG (fun k hk e=>aW hown aU dz (e▸hk)),cO Wq eG (fun k hk e=>aW Wq aU dz (e▸hk)),j8 Xz KD eG (fun k e=>by rw[e];exact h.hd),nT KD eG.size,h.hd⟩,aU⟩
theorem Zq.aQY{i:Nat}(h:Zq w0 W base db x vl K V ids)(hown:W1.ownsRow base 3 1 v' (ids.length+1) ((ids.map fun k:Nat=>Value.int .i64 (k:Int))++ [.int .i64 (i:Int)]))(hG:(W.alloc o).grownBy W1 V.ownBlock):
 Zq w0 W1 base db x vl K v' (ids++ [i]):=by
 have h0:=h.below (W':=W.alloc o) (bN);have hg:Gr (fun k=>V.ownBlock=some k) (W.alloc o) W1:=Gr.eO hG (fun k e=>e);exact⟨hg.blk h0.box (aW h0.Fe h0.box dz),cO h0.GS hg (fun k hk e=>Db h0.GS h0.Fe dz k hk e),by simpa using hown,j8 h0.lE h0.sz hg (fun k e=>(h0.Fe.lt k e).1),nT h0.sz hg.size,h.hd⟩
end
def mM(W:World)(g:Nat)(R:List aI)(f:Nat→Nat)(i:Nat):Prop:=∃cur,ah W g 53 cur∧∀t (ht:t<R.length),cur[t*3]?=some (.int .i64 R[t].f)∧cur[t*3+1]?=some (.int .i64 R[t].t)∧cur[t*3+2]?=some (.int .i64 ((if t<i then f R[t].l else R[t].l:Nat):Int))
section
variable {W:World} {g:Nat} {R:List aI} {f:Nat→Nat} {i:Nat}
theorem mM.start{base cap:Nat}(h:W.ownsRow base 53 3 (.slice (some ⟨g,0,none⟩) R.length cap) R.length (R.flatMap aI.cells)):mM W g R f 0:=by
 have fK:=gV h;obtain⟨cur,hb⟩:∃cur,ah W g 53 cur:=by
  rcases h.2 with⟨h1,_⟩ | ⟨g',cap',cur,h1,_,h3,_⟩
  ·cases h1
  ·cases h1;exact⟨cur,h3⟩
 refine⟨cur,hb,fun t ht=> ?_⟩;obtain⟨b,o,hA,_,hc⟩:=fK oz;injection hA with hA
 injection hA with hA1 hA2
 subst hA1 hA2;obtain⟨c0,c1,c2⟩:=hc t ht;rw[hb.cell,Nat.zero_add]at c0 c1 c2;rw[if_neg oz];exact⟨c0,c1,c2⟩
theorem mM.set(h:mM W g R f i)(hi:i<R.length):mM (W.setCell ⟨g,i*3+2,none⟩ (.int .i64 (f R[i].l:Int))) g R f (i+1):=by
 obtain⟨cur,hb,hc⟩:=h;refine⟨_,hb.bX (i*3+2) _,fun t ht=> ?_⟩;obtain⟨c0,c1,c2⟩:=hc t ht;have hlt:=(gE (hc i hi).2.2).1;simp only[Array.getElem?_setIfInBounds];rw[if_neg oz,if_neg oz];refine⟨c0,c1,?_⟩;by_cases e:t=i
 ·subst e
  rw[if_pos rfl,if_pos hlt,if_pos oz]
 ·rw[if_neg oz,c2]
  by_cases c:t<i
  ·rw[if_pos c,if_pos oz]
  ·rw[if_neg c,if_neg oz]
theorem mM.done(h:mM W g R f R.length):iq W W.heap.size (some ⟨g,0,none⟩) (R.map (aI.ren f)):=fun hn=>by
 obtain⟨cur,hb,hc⟩:=h;refine⟨g,0,rfl,hb.lt,fun t ht=> ?_⟩;have Sg:t<R.length:=by simpa using ht
 obtain⟨c0,c1,c2⟩:=hc t Sg;rw[if_pos Sg]at c2;rw[Nat.zero_add,hb.cell,hb.cell,hb.cell,c0,c1,c2];simp[aI.ren]
theorem mM.read(h:mM W g R f i)(hi:i<R.length):W.cell? ⟨g,i*3+2,none⟩=some (.int .i64 (R[i].l:Int))∧W.frozen? ⟨g,i*3+2,none⟩=false:=by
 obtain⟨cur,hb,hc⟩:=h;have c2:=(hc i hi).2.2;rw[if_neg oz]at c2;exact⟨(hb.cell _).trans c2,hb.frozen _⟩
end
theorem aGn{W:World}{base:Nat}{A:Option Addr}{c:Nat}{l:List Nat}(h:W.ownsRow base 3 1 (.slice A l.length c) l.length (l.map fun k:Nat=>Value.int .i64 (k:Int)))(hn:0<l.length):∃b o,A=some ⟨b,o,none⟩∧b<W.heap.size∧∀i (hi:i<l.length),W.cell? ⟨b,o+i,none⟩=some (.int .i64 (l[i]:Int)):=by
 have e:(l.map fun k:Nat=>Value.int .i64 (k:Int))=(l.map fun k:Nat=>(k:Int)).map (Value.int .i64):=by rw[List.map_map];rfl
 have e2:l.length=(l.map fun k:Nat=>(k:Int)).length:=by simp
 rw[e,e2]at h;obtain⟨b,o,hA,hb,hc⟩:=nu h (by simpa using hn);exact⟨b,o,hA,hb,fun i hi=>by
  have h2:=hc i (by simpa using hi);rw[List.getElem_map]at h2;exact h2⟩
def Rt(x:ay)(v net:Int)(R:List aI)(er:Int):Prop:=
 (Ab x v net=false→R= []∧er=2)∧∀(k:Nat) (hk:k<x.aF.l.length),v=(k:Int)→0≤net→net≤1→
  ((∀m∈bV x x.aF.l[k],0≤(dW x net x.aF.l[k]).at m)→er=0∧R.Perm (jj (dW x net x.aF.l[k]) (dX x x.aF.l[k]) (bV x x.aF.l[k]) [])∧R.Pairwise (aI.before (dW x net x.aF.l[k])))∧
  ((∃m∈bV x x.aF.l[k],(dW x net x.aF.l[k]).at m<0)→R= []∧er=6)
theorem JJ(x:ay)(v net:Int)(w:World)(hr:x.rd w w.heap.size)(hL:ct w)(hx:∀r∈x.causes.l,r.x.n≤8796093021952)(hc:cW x=0):
 Calls pG 13 #[x.val,.int .i64 v,.int .i64 net] w fun e w'=>∃(A:Option Addr) (c n:Nat) (R:List aI) (er:Int),e= .returned (.tuple #[.slice A n c,.int .i64 er])∧R.length=n∧n≤12∧n≤c∧c≤maxLen∧w'.ownsRow w.heap.size 53 3 (.slice A R.length c) R.length (R.flatMap aI.cells)∧Rt x v net R er∧Below w.heap.size w w':=by
 cases oU:Ab x v net with
 | false=>
  refine(Ol x v net w hr hL hx oU).mono ?_;rintro e w' ⟨rfl,hb⟩;refine⟨none,0,0,[],2,rfl,rfl,nZ,nL,nZ,World.ownsRow_nil _ _ _ _,⟨fun _=>⟨rfl,rfl⟩,fun k hk e h0 h1=> ?_⟩,hb⟩;have:=oV.2 ⟨hc,show 0≤v by omega,show v<x.aF.l.length by omega,h0,h1⟩;rw[oU]at this
  cases this
 | true=>
  obtain⟨-,hv0,Me,qw,NI⟩:=oV.1 oU;obtain⟨k,rfl⟩:∃k:Nat,v=(k:Int):=⟨v.toNat,oz⟩;have hk:k<x.aF.l.length:=by omega
  refine(qL x k net w hr hL hx hc hk qw NI).mono ?_;rintro e w' ⟨hP,hb⟩;by_cases rG:∃m∈bV x x.aF.l[k],(dW x net x.aF.l[k]).at m<0
  ·refine⟨none,0,0,[],6,hP.2 rG,rfl,nZ,nL,nZ,World.ownsRow_nil _ _ _ _,⟨fun h=>(by rw[oU]at h;cases h),fun k' WH e h0 h1=> ?_⟩,hb⟩
   obtain rfl:k=k':=by omega
   refine⟨fun h=> ?_,fun _=>⟨rfl,rfl⟩⟩;obtain⟨m,hm,h2⟩:=rG;have:=h m hm;omega
  have aJ:∀m∈bV x x.aF.l[k],0≤(dW x net x.aF.l[k]).at m:=fun m hm=>by
   have h:¬((dW x net x.aF.l[k]).at m<0):=fun h=>rG ⟨m,hm,h⟩
   omega
  obtain⟨A,cp,R,rfl,hp,ho,h1,h2,iO⟩:=hP.1 aJ;have hy:x.aF.l[k]∈x.aF.l:=List.getElem_mem hk;have cD:=jw hc net hy;have Fw:=CR cD.inv (bV x x.aF.l[k]) aJ;have hR:jk (gj x net (dX x x.aF.l[k])) (dW x net x.aF.l[k]) (dX x x.aF.l[k]) (bV x x.aF.l[k]) R:=jk.Ky Fw hp ho;have aLr:R.length≤12:=by
   have:=CT (R.map (·.t)) (List.range 12) hR.ok.nodup (fun j hj=>by
    obtain⟨e,he,rfl⟩:=List.mem_map.1 hj;obtain⟨i,hi,rfl⟩:=List.getElem_of_mem he;have h1:=(Lf cD.inv hR aJ i hi).1;have h2:=qI hc net (dX x x.aF.l[k]) _ h1;have h3:x.mods.l.length+x.aP.l.length≤12:=Eo hc;exact List.mem_range.2 oz)
   simpa using this
  refine⟨A,cp,R.length,R,0,rfl,rfl,aLr,h1,h2,iO,⟨fun h=>(by rw[oU]at h;cases h),fun k' WH e h0 h1=> ?_⟩,hb⟩;obtain rfl:k=k':=by omega
  exact⟨fun _=>⟨rfl,hp,ho⟩,fun h=>absurd h rG⟩
theorem Zr{x:ay}{v net:Int}(hc:cW x=0)(L:Sl aO)(hL:L.l=x.links.l.filter (iE net)){R R':List aI}{er er':Int}(h:Rt x v net R er)(h':Rt (x.aK L) v net R' er'):
 er=er'∧R=R'.map (aI.ren (lK (iE net) x.links.l))∧∀e∈R',e.l<L.l.length:=by
 have hcd:cW (x.aK L)=0:=zZ _ L hL hc
 cases oU:Ab x v net with
 | false=>
  have hbd:Ab (x.aK L) v net=false:=by
   unfold Ab at oU ⊢;rw[hcd];rw[hc]at oU;exact oU
  obtain⟨rfl,rfl⟩:=h.1 oU;obtain⟨rfl,rfl⟩:=h'.1 hbd;exact⟨rfl,rfl,fun e he=>by cases he⟩
 | true=>
  obtain⟨-,hv0,Me,qw,NI⟩:=oV.1 oU;obtain⟨k,rfl⟩:∃k:Nat,v=(k:Int):=⟨v.toNat,oz⟩;have hk:k<x.aF.l.length:=by omega
  have hy:x.aF.l[k]∈x.aF.l:=List.getElem_mem hk;obtain⟨h1,h2⟩:=h.2 k hk rfl qw NI;obtain⟨h3,h4⟩:=h'.2 k hk rfl qw NI;obtain⟨hr,hi⟩:=OT (net:=net) hc hy L hL;have hat:∀m,(dW (x.aK L) net x.aF.l[k]).at m=(dW x net x.aF.l[k]).at m:=fun m=>by unfold aQ.at;rw[hr.d]
  have hds:bV (x.aK L) x.aF.l[k]=bV x x.aF.l[k]:=Rq L;have hss:dX (x.aK L) x.aF.l[k]=dX x x.aF.l[k]:=Fc L;change (∀m∈bV (x.aK L) x.aF.l[k],0≤(dW (x.aK L) net x.aF.l[k]).at m)→er'=0∧R'.Perm (jj (dW (x.aK L) net x.aF.l[k]) (dX (x.aK L) x.aF.l[k]) (bV (x.aK L) x.aF.l[k]) [])∧R'.Pairwise (aI.before (dW (x.aK L) net x.aF.l[k]))at h3;change (∃m∈bV (x.aK L) x.aF.l[k],(dW (x.aK L) net x.aF.l[k]).at m<0)→R'= []∧er'=6 at h4;rw[hds]at h3 h4;rw[hss]at h3;by_cases rG:∃m∈bV x x.aF.l[k],(dW x net x.aF.l[k]).at m<0
  ·obtain⟨rfl,rfl⟩:=h2 rG
   obtain⟨m,hm,hlt⟩:=rG;obtain⟨rfl,rfl⟩:=h4 ⟨m,hm,by rw[hat];exact hlt⟩;exact⟨rfl,rfl,fun e he=>by cases he⟩
  ·have aJ:∀m∈bV x x.aF.l[k],0≤(dW x net x.aF.l[k]).at m:=fun m hm=>by
    have h:¬((dW x net x.aF.l[k]).at m<0):=fun h=>rG ⟨m,hm,h⟩
    omega
   have Zs:∀m∈bV x x.aF.l[k],0≤(dW (x.aK L) net x.aF.l[k]).at m:=fun m hm=>by rw[hat];exact aJ m hm
   obtain⟨rfl,hp,ho⟩:=h1 aJ;obtain⟨rfl,hp',ho'⟩:=h3 Zs;refine⟨rfl,Rs hc hy L hL aJ hp ho hp' ho',fun e he=> ?_⟩;have Fw:=CR hi (bV x x.aF.l[k]) Zs;have hR:jk (gj (x.aK L) net (dX x x.aF.l[k])) (dW (x.aK L) net x.aF.l[k]) (dX x x.aF.l[k]) (bV x x.aF.l[k]) R':=jk.Ky Fw hp' ho';obtain⟨i,hi',rfl⟩:=List.getElem_of_mem he;have h5:=(Lf hi hR Zs i hi').1;obtain⟨hj,-⟩:=oT.1 h5;exact hj
theorem aES(x:ay)(v net:Int)(w:World)(hr:x.rd w w.heap.size)(hL:ct w)(hx:∀r∈x.causes.l,r.x.n≤8796093021952):
 CU 4 #[x.val,.int .i64 v,.int .i64 net] w (.bool true):=by
 obtain⟨y0,bR⟩:=ez (w.alloc (.cells #[.slice x.mods.a x.mods.l.length x.mods.c,.slice x.aj.a x.aj.l.length x.aj.c,.slice x.aP.a x.aP.l.length x.aP.c,.slice x.links.a x.links.l.length x.links.c,.slice x.aF.a x.aF.l.length x.aF.c,.slice x.bQ.a x.bQ.l.length x.bQ.c,.slice x.causes.a x.causes.l.length x.causes.c,.slice x.aA.a x.aA.l.length x.aA.c] 31));obtain⟨gc,uW⟩:=ez w.heap.size;have bW:Below w.heap.size w y0:=by rw[bR];exact bN
 have bS:ah y0 gc 31 x.arr:=by rw[bR,uW];exact ah.new w _ _
 have hs0:y0.heap.size=gc+1:=by rw[bR,uW];simp
 have haw:=La y0 (hL.below bW);have Haw:=lz haw;have gW:Hid (∀W,Below y0.heap.size y0 W→W.cell? ⟨gc,0,none⟩=some (.slice x.mods.a x.mods.l.length x.mods.c)∧W.cell? ⟨gc,1,none⟩=some (.slice x.aj.a x.aj.l.length x.aj.c)∧W.cell? ⟨gc,2,none⟩=some (.slice x.aP.a x.aP.l.length x.aP.c)∧W.cell? ⟨gc,3,none⟩=some (.slice x.links.a x.links.l.length x.links.c)∧W.cell? ⟨gc,4,none⟩=some (.slice x.aF.a x.aF.l.length x.aF.c)∧W.cell? ⟨gc,5,none⟩=some (.slice x.bQ.a x.bQ.l.length x.bQ.c)∧W.cell? ⟨gc,6,none⟩=some (.slice x.causes.a x.causes.l.length x.causes.c)∧W.cell? ⟨gc,7,none⟩=some (.slice x.aA.a x.aA.l.length x.aA.c)):=lz fun W hW=>by
  have h:=bS.below hW oz;exact⟨h.cell 0,h.cell 1,h.cell 2,h.cell 3,h.cell 4,h.cell 5,h.cell 6,h.cell 7⟩
 have kX:Hid (∀W,Below y0.heap.size y0 W→x.rd W W.heap.size∧ct W∧Below w.heap.size w W):=lz fun W hW=>by
  have h:=bW.trans (hW.mono bW.size);exact⟨hr.below h,hL.below h,h⟩
 have Hx:=lz hx;have dV:=lz bR;have Oc:=lz uW;have Hs0:=lz hs0;clear bR uW bW bS hs0 haw hr hL hx;go_enter Tryz.func4,Tryz.ntmps4;go_wp2_with fail;rw[←dV.out,←Oc.out];refine Haw.out.mono ?_;rintro e W1 ⟨rfl,aU⟩;obtain⟨c0,c1,c2,c3,c4,c5,c6,c7⟩:=gW.out W1 aU;have cU:=lz aU;clear aU;go_wp2_with fail;clear c0 c1 c2 c3 c4 c5 c6 c7;refine(Q0 x W1 (kX.out W1 cU.out).1).mono ?_;rintro e W2 ⟨⟨zs,rfl⟩,dI⟩;have eF:=lz (cU.out.trans (dI.mono cU.out.size));obtain⟨c0,c1,c2,c3,c4,c5,c6,c7⟩:=gW.out W2 eF.out;clear dI;by_cases hzs:zs>600
 ·go_wp2_with fail
  go_ret;exact⟨rfl,(kX.out W2 eF.out).2.2⟩
 go_wp2_with fail;clear c0 c1 c2 c3 c4 c5 c6 c7;refine(yx x W2 (kX.out W2 eF.out).1 (kX.out W2 eF.out).2.1 Hx.out).mono ?_;rintro e W3 ⟨rfl,kq⟩;have mP:=lz (eF.out.trans (kq.mono eF.out.size));obtain⟨c0,c1,c2,c3,c4,c5,c6,c7⟩:=gW.out W3 mP.out;clear kq;by_cases hc0:cW x≠0
 ·generalize cW x=zc at*
  have hcz:(zc !=0)=true:=by simpa using hc0
  go_wp2;go_ret;exact⟨rfl,(kX.out W3 mP.out).2.2⟩
 have hc:cW x=0:=Decidable.of_not_not hc0;rw[hc];have Hc:=lz hc;clear hc hc0;obtain⟨W4,Ql⟩:=ez (W3.alloc (.cells (Vg x (.slice none 0 0)) 31));obtain⟨db,hdb⟩:=ez W3.heap.size;have aL0:Zq W3 W4 db db x (.slice none 0 0) [] (.slice none 0 0) []:=by
  rw[Ql,hdb];exact⟨ah.new W3 31 _,World.ownsRow_nil _ _ _ _,World.ownsRow_nil _ _ _ _,bN,qz,nL⟩
 have hdc:(W3.alloc (.cells #[.slice x.mods.a x.mods.l.length x.mods.c,.slice x.aj.a x.aj.l.length x.aj.c,.slice x.aP.a x.aP.l.length x.aP.c,.slice x.links.a x.links.l.length x.links.c,.slice x.aF.a x.aF.l.length x.aF.c,.slice x.bQ.a x.bQ.l.length x.bQ.c,.slice x.causes.a x.causes.l.length x.causes.c,.slice x.aA.a x.aA.l.length x.aA.c] 31)).frozen? ⟨W3.heap.size,3,none⟩=false:=(ah.new W3 31 x.arr).frozen 3;have C5:=jv Hc.out;have Uq:gc<db:=by have:=mP.out.size;have:=Hs0.out;omega
 unfold Vg at Ql;obtain⟨hc1,qc,hc3,hc4⟩:=C5;have Qp:=lz Ql;have Hdb:=lz hdb;have Hcw:Hid (∀W,Below db W3 W→Below y0.heap.size y0 W):=lz fun W hW=>mP.out.trans (hW.mono (by rw[Hdb.out];exact mP.out.size))
 have hz4:y0.heap.size≤db:=by rw[hdb];exact mP.out.size
 have aGo:=lz aL0;clear aL0 hdb Ql;go_upto_region 8 with fail
 rw[←Qp.out,←Hdb.out];clear hdc;obtain⟨c0,c1,c2,c3,c4,c5,c6,c7⟩:=gW.out W4 (Hcw.out _ aGo.out.lE);go_wp2_with fail;clear c0 c1 c2 c3 c4 c5 c6 c7;go_loopw [31,8] (fun t V wr=>∃(i:Nat) (vl:Value) (K:List aO) (ids:List Nat),i≤x.links.l.length∧t= .int .i64 i∧Hid (K=(x.links.l.take i).filter (iE net)∧ids.length=K.length∧∀j (h:j<ids.length),ids[j]=lK (iE net) x.links.l j)∧Zq W3 wr db db x vl K V ids) (fun t _ _=>x.links.l.length-(intOf t).toNat)
 case atStart=>exact⟨0,_,[],[],oz,rfl,lz ⟨rfl,rfl,fun j h=>absurd h qz⟩,aGo.out⟩
 case round=>
  clear aGo Qp;obtain⟨i,vl,K,ids,hi,rfl,hK,hS⟩:=hrel;have Bv:=Hcw.out _ hS.lE;by_cases hlt:i<x.links.l.length
  ·obtain⟨bl,ol,FZ,Ef,hlc⟩:=(kX.out wr Bv).1.links oz
   obtain⟨d0,d1,d2,d3⟩:=hlc i hlt;obtain⟨l,hl⟩:=ez (x.links.l[i]);rw[←hl]at d0 d1 d2 d3;have hii:(i:Int)<(x.links.l.length:Int):=by omega
   have HS:=lz hS;have Hl:=lz hl;have yp:(x.links.l.take (i+1)).filter (iE net)=(x.links.l.take i).filter (iE net)++ [l].filter (iE net):=by
    rw[List.take_succ_eq_append_getElem hlt,List.filter_append,hl]
   clear hS hl hlc Bv;rw[FZ];by_cases pQ:l.net=net
   ·have hne:(l.net==net)=true:=by simpa using pQ
    rw[show[l].filter (iE net)= [l]by simp[iE,pQ]]at yp;have NM:=lz yp;clear yp;go_upto_region 12 with fail
    clear d0 d1 d2 d3 FZ Ef hne;obtain⟨Wl,hWl⟩:=ez (wr.alloc (.cells #[.string l.a,.string l.b,.int .i64 net,.int .i64 l.slow] 46));obtain⟨lb,hlb⟩:=ez wr.heap.size;rw[←hlb,←hWl];have Ef:ah Wl lb 46 #[.string l.a,.string l.b,.int .i64 net,.int .i64 l.slow]:=by rw[hWl,hlb];exact ah.new wr _ _
    have qR:Below wr.heap.size wr Wl:=by rw[hWl];exact bN
    have sE:=lz (HS.out.below qR);obtain⟨e0,e1,e2,e3,k3⟩:Wl.cell? ⟨lb,0,none⟩=some (.string l.a)∧Wl.cell? ⟨lb,1,none⟩=some (.string l.b)∧Wl.cell? ⟨lb,2,none⟩=some (.int .i64 net)∧Wl.cell? ⟨lb,3,none⟩=some (.int .i64 l.slow)∧Wl.cell? ⟨db,3,none⟩=some vl:=⟨Ef.cell 0,Ef.cell 1,Ef.cell 2,Ef.cell 3,sE.out.box.cell 3⟩;have hkl:K.length≤i:=by
     rw[hK.out.1];exact nT (List.length_filter_le _ _) (by rw[List.length_take];omega)
    have YO:ids.length≤i:=by rw[hK.out.2.1];exact hkl
    obtain⟨i0,lX,hz0,hz1,hz2⟩:=info_parts Zp;obtain⟨i1,Wq,bR,K1,KT⟩:=info_parts Nw;have hz5:=sE.out.sz;clear hWl hlb Ef qR HS;go_wp2_with (at_builtin;refine wpList_append_own _ rfl (.tmp 41) (.tmp 43) 25 rfl db 46 i0 (.agg #[.string ⟨#[]⟩,.string ⟨#[]⟩,.int .i64 0,.int .i64 0]) 4 48 Tryz.underlying25 lX hz0 hz1 hz2 rfl dz _ _ _ rfl (sE.out.GS.alloc _) ⟨Wl.heap.size,0,none⟩ 1 1 [.string l.a,.string l.b,.int .i64 net,.int .i64 l.slow] rfl rfl ?c1 ?c2 ?c3 ?c4 ?c5 ?_)
    case c1=>
     intro j u' hj;rw[bO,Nat.zero_add,(ah.new Wl 46 #[.string l.a,.string l.b,.int .i64 net,.int .i64 l.slow]).cell j];simpa using hj
    case c2=>intro u' kQ;simp at kQ;rcases kQ with rfl | rfl | rfl | rfl<;>rfl
    case c3=>unfold maxLen;omega
    case c4=>omega
    case c5=>simp;omega
    intro v5 w5 dQ mE _;obtain⟨A5,c5,rfl,-,-⟩:=bp dQ;obtain⟨hA,jU⟩:=sE.out.aQX (y:=l) (by rw[show l.cells= [.string l.a,.string l.b,.int .i64 l.net,.int .i64 l.slow]from rfl,pQ];exact dQ) mE;have HA:=lz hA;obtain⟨k5,k6⟩:w5.cell? ⟨db,3,none⟩=some vl∧w5.frozen? ⟨db,3,none⟩=false:=⟨jU.cell 3,jU.frozen 3⟩;have hz6:db≤w5.heap.size:=by have:=hA.sz;simpa using this
    clear hA jU dQ mE e0 e1 e2 e3 k3 sE lX hz0 hz1 hz2 hz5;go_wp2_with (at_builtin;refine wpList_append_own _ rfl (.tmp 46) (.tmp 48) 36 rfl db 3 i1 (.int .i64 0) 1 8 Tryz.underlying36 Wq bR K1 KT rfl dz _ _ _ rfl (HA.out.Fe.alloc _) ⟨w5.heap.size,0,none⟩ 1 1 [.int .i64 i] rfl rfl ?c1 ?c2 ?c3 ?c4 ?c5 ?_)
    case c1=>
     intro j' u hj';rcases j' with _ | j'
     ·simp at hj'
      subst hj';rw[bO];have h:=(ah.new (w5.setCell ⟨db,3,none⟩ (.slice A5 (K.length+1) c5)) 3 #[.int .i64 i]).cell 0;simpa using h
     ·simp at hj'
    case c2=>simp[Value.oneCell']
    case c3=>unfold maxLen;omega
    case c4=>omega
    case c5=>simp;omega
    intro v6 w6 OU hg6 _;have HB:=lz (HA.out.aQY (i:=i) OU hg6);clear OU hg6 HA Wq bR K1 KT k5 k6 hz6;go_wp2;go_roundw
    case rel=>
     refine⟨i+1,_,_,_,oz,by go_num,lz ⟨?_,?_,fun j hj=> ?_⟩,HB.out⟩
     ·rw[NM.out,hK.out.1]
     ·simp[hK.out.2.1]
     ·by_cases c:j<ids.length
      ·rw[List.getElem_append_left c]
       exact hK.out.2.2 j c
      ·rw[List.getElem_append_right oz]
       have hj2:j=ids.length:=by simp at hj;omega
       subst hj2;have h3:=Tb (iE net) x.links.l i hlt (by rw[←Hl.out];simp[iE,pQ]);rw[←hK.out.1,←hK.out.2.1]at h3;simp[h3]
    case measure=>simp[intOf];omega
   ·have hne:(l.net==net)=false:=by simpa using pQ
    rw[show[l].filter (iE net)= []by simp[iE,pQ],List.append_nil]at yp;have NM:=lz yp;clear yp;go_wp2;go_roundw
    case rel=>exact⟨i+1,vl,K,ids,oz,by go_num,lz (by rw[NM.out];exact hK.out),HS.out.below (bN)⟩
    case measure=>simp[intOf];omega
  ·have sy:i=x.links.l.length:=by omega
   subst sy;have hK1:=hK.out.1;rw[List.take_length]at hK1;obtain⟨Al,cl,rfl,aQb,aBj⟩:=bp hS.GS;obtain⟨Ai,ci,rfl,aYO,aYP⟩:=bp hS.Fe;obtain⟨c0,c1,c2,c3,c4,c5,c6,c7⟩:=gW.out wr Bv;have HS:=lz hS;have yY:=lz Bv;have HK1:=lz hK1;clear hS Bv hlt hi hK1;go_wp2_with fail;clear c0 c1 c2 c3 c4 c5 c6 c7;refine(JJ x v net wr (kX.out wr yY.out).1 (kX.out wr yY.out).2.1 Hx.out Hc.out).mono ?_;rintro e W5 ⟨A,cp,n,R,er,rfl,hRl,aQF,h1,h2,iO,hRR,jU⟩;have qu:=lz (HS.out.below jU);have ND:=lz (Hcw.out _ qu.out.lE);have rA:=lz iO;have HRR:=lz hRR;have HRl:=lz hRl;clear HS yY jU iO hRR hRl;obtain⟨c0,c1,c2,c3,c4,c5,c6,c7⟩:W5.cell? ⟨db,0,none⟩=some (.slice x.mods.a x.mods.l.length x.mods.c)∧W5.cell? ⟨db,1,none⟩=some (.slice x.aj.a x.aj.l.length x.aj.c)∧W5.cell? ⟨db,2,none⟩=some (.slice x.aP.a x.aP.l.length x.aP.c)∧W5.cell? ⟨db,3,none⟩=some (.slice Al K.length cl)∧W5.cell? ⟨db,4,none⟩=some (.slice x.aF.a x.aF.l.length x.aF.c)∧W5.cell? ⟨db,5,none⟩=some (.slice x.bQ.a x.bQ.l.length x.bQ.c)∧W5.cell? ⟨db,6,none⟩=some (.slice x.causes.a x.causes.l.length x.causes.c)∧W5.cell? ⟨db,7,none⟩=some (.slice x.aA.a x.aA.l.length x.aA.c):=⟨qu.out.box.cell 0,qu.out.box.cell 1,qu.out.box.cell 2,qu.out.box.cell 3,qu.out.box.cell 4,qu.out.box.cell 5,qu.out.box.cell 6,qu.out.box.cell 7⟩;go_wp2_with fail;clear c0 c1 c2 c3 c4 c5 c6 c7;have DF:(x.aK ⟨Al,cl,K⟩).rd W5 W5.heap.size:={(kX.out W5 ND.out).1 with D2:=aQb,D3:=aBj,links:=uJ qu.out.GS};refine(JJ (x.aK ⟨Al,cl,K⟩) v net W5 DF (kX.out W5 ND.out).2.1 Hx.out (zZ (iE net) _ HK1.out Hc.out)).mono ?_;rintro e W6 ⟨A',cp',n',R',er',rfl,aC4,-,h1',h2',Zt,aL2,rz⟩;obtain⟨rfl,hmap,hlk⟩:=Zr Hc.out ⟨Al,cl,K⟩ HK1.out HRR.out aL2;obtain rfl:n=n':=by rw[←HRl.out,←aC4,hmap,List.length_map]
   have aQd:=lz hmap;have Hlk:=lz hlk;have Zu:=lz aC4;obtain⟨g,hg⟩:∃g,0<n→A'=some ⟨g,0,none⟩∧W5.heap.size≤g∧mM W6 g R' (lK (iE net) x.links.l) 0:=by
    by_cases qw:0<n
    ·obtain⟨g,cap,hv,hg1,eG⟩:=Zt.form (by rw[aC4];exact qw)
     obtain rfl:A'=some ⟨g,0,none⟩:=by injection hv
     exact⟨g,fun _=>⟨rfl,hg1,mM.start Zt⟩⟩
    ·exact⟨0,fun h=>absurd h qw⟩
   have Hg:=lz hg;have Hb6:=lz rz;clear DF hmap hlk aC4 hg rz Zt aL2 HRR;go_wp2;go_loopw [77] (fun t wq=>∃i:Nat,i≤n∧t= .int .i64 i∧(0<n→mM wq g R' (lK (iE net) x.links.l) i)∧Below W5.heap.size W5 wq) (fun t _=>n-(intOf t).toNat)
   case atStart=>exact⟨0,nZ,rfl,fun h=>(Hg.out h).2.2,Hb6.out⟩
   case round=>
    clear Hb6;obtain⟨i,hi,rfl,hH,hB⟩:=hrel;have HB:=lz hB;by_cases hlt:i<n
    ·obtain⟨rfl,mE,-⟩:=Hg.out oz
     have hH':=hH oz;have hiR:i<R'.length:=by rw[Zu.out];exact hlt
     obtain⟨r0,r1⟩:=hH'.read hiR;have aGp:=hH'.set hiR;have hq:=Hlk.out _ (List.getElem_mem hiR);obtain⟨q,VG⟩:=ez (R'[i].l);rw[←VG]at r0 aGp hq;have hqK:q<ids.length:=by rw[hK.out.2.1];exact hq
     have hir:=cO (X:=fun j=>W5.heap.size≤j) qu.out.Fe (Gr.ak hB) (fun j hj h=>by have:=(qu.out.Fe.lt j hj).2;omega);obtain⟨bi,oi,rfl,hbi,hci⟩:=aGn hir oz;have hcq:=hci q hqK;rw[hK.out.2.2 q hqK]at hcq;have Rh:(q:Int)<(ids.length:Int):=by omega
     have hii:(i:Int)<(n:Int):=by omega
     generalize lK (iE net) x.links.l q=fq at *;have aQf:=lz aGp;have HBs:=lz (hB.setCell (p:=⟨g,i*3+2,none⟩) mE (.int .i64 (fq:Int)));clear hH hH' hB aGp hq VG hir hci hbi;go_wp2;go_roundw
     case rel=>exact⟨i+1,oz,by go_num,fun _=>aQf.out,HBs.out⟩
     case measure=>simp[intOf];omega
    ·obtain rfl:i=n:=by omega
     have aL3:iq wr wr.heap.size A R:=(gV rA.out).below hB;have aL4:iq wr wr.heap.size A' (R'.map (aI.ren (lK (iE net) x.links.l))):=fun h0=>by
      have qw:0<R'.length:=by simpa using h0
      have hH':=hH (by rw[←Zu.out];exact qw);rw[←Zu.out]at hH';obtain⟨rfl,-⟩:=Hg.out (by rw[←Zu.out];exact qw);exact hH'.done h0
     have hsm:=Ev R (R'.map (aI.ren (lK (iE net) x.links.l))) A A' cp cp' wr aL3 aL4 (by rw[HRl.out];omega);rw[tI aQd.out,HRl.out,List.length_map,Zu.out]at hsm;have Hsm:=lz hsm;clear hsm aL3 aL4 hH hB;go_wp2_with fail;refine Hsm.out.mono ?_;rintro e W9 ⟨rfl,Ms⟩;go_wp2;go_ret;exact⟨rfl,(kX.out W9 (ND.out.trans ((HB.out.trans (Ms.mono HB.out.size)).mono ND.out.size))).2.2⟩
end
end Go.Proofs.YtmdgooofdmpcjaaGreatDoor
