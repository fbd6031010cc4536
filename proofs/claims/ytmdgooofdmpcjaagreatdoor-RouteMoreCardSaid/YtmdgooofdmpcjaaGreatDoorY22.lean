import Derived.Test.YtmdgooofdmpcjaaGreatDoorY18
import Derived.Test.YtmdgooofdmpcjaaGreatDoorY20
import Derived.Test.YtmdgooofdmpcjaaGreatDoorY21
set_option maxRecDepth 100000
set_option maxHeartbeats 8000000
set_option linter.unusedSimpArgs false
set_option linter.unusedVariables false
set_option linter.unusedSectionVars false
open Go.Proofs.Tryz renaming prog → pG
open List renaming getElem_mem->CS,nil_append->GY
open Nat renaming zero_add->E9
open Option renaming none->Ag,some->Ai,some->ES
open Go.Proofs.Tryz
namespace Go.Proofs.YtmdgooofdmpcjaaGreatDoor
open Go renaming Value->Bn,World->Al,maxLen->EW
open RowKit renaming Below->BD,intOf->E8
open RowKit.Below renaming refl->BK
section
open Go.ChangeShapes Go.WideShapes Go.ChangeAt Go.RowKit
attribute [local go_sem] Oper.semAt_some
open Go.Act renaming put → zP
open List renaming setIfInBounds_toArray → zA, set_cons_zero → zB, set_cons_succ → zC
theorem aIG(r x:aI)(W:Al):(binOp .eql 53 r.val x.val).run pG W= .ok (.bool (decide (r=x))) W:=by
 have u3:=underlying3;have hS:pG.underlying 53=Ai (.struct (pG.fieldsOf 53)):=by kernel_rfl
 have hp:pG.stoodInHeld 53=false:=by kernel_rfl
 obtain⟨a,b,c⟩:=r;obtain⟨a',b',c'⟩:=x;rw[run_eql_struct,show(10000:Nat)=9999+1 from rfl,run_equalIn_agg W 9999 53 _ _ hS hp];simp only[Program.fieldsOf,underlying53];go_simp;by_cases h1:a=a'<;>by_cases h2:b=b'<;>by_cases h3:c=c'<;>simp[h1,h2,h3]<;>omega
theorem aEE(r x:aI)(a b:Operand)(W:Al):(eqGuard .eql 53 a b r.val x.val).run pG W= .ok () W:=run_eqGuard_agg W .eql 53 a b _ _ kz
theorem aGO.any{s:aQ}{src:Nat}{ds:List Nat}{w w':Al}{e:Ending}(h:aGO s src ds w e w'):∃A n c er,e= .returned (.tuple #[.slice A n c,.int .i64 er]):=by
 by_cases hn:∃m∈ds,s.at m<0
 .exact⟨_,_,_,_,h.2 hn⟩
 .obtain⟨A,c,R,e,-⟩:=h.1 λm hm=>by
   have:¬s.at m<0:=λh=>hn ⟨m,hm,h⟩
   omega
  exact⟨_,_,_,_,e⟩
theorem aMv:(pG.info? 46).map (λi=>(i.zero,i.size,i.bytes))=Ai (Ai (.agg #[.string ⟨#[]⟩,.string ⟨#[]⟩,.int .i64 0,.int .i64 0]),4,48):=by kernel_rfl
theorem aLR{x:ay}{w:Al}{B:Nat}(h:x.rd w B)(s:Sl aO)(h1:s.l.length<=s.c)(h2:s.c<=EW)(h3:fZ w B s.a s.l):({x with links:=s}:ay).rd w B:=
 ⟨h.AU,h.AV,h.mods,h.DZ,h.D1,h.aj,h.aBH,h.aBI,h.aP,h1,h2,h3,h.T9,h.Ua,h.aF,h.aBJ,h.aBK,h.bQ,h.CN,h.CO,h.causes,h.R9,h.Sb,h.aA⟩
theorem aLa(x:ay)(v:Nat)(net:Int)(w:Al)(hr:x.rd w w.heap.size)(hL:ct w)(hx:∀r∈x.causes.l,r.x.n<=8796093021952)(hc:cW x=0)(hv:v<x.aF.l.length)(qw:0<=net)(NI:net<=1):
 Calls pG 11 #[x.val,.int .i64 (v:Int),.int .i64 net] w λe w'=>∃g c,e= .returned (.tuple #[.slice (Ai ⟨g,0,Ag⟩) (x.mods.l.length+x.aP.l.length) c,.int .i64 0])/\x.mods.l.length+x.aP.l.length<=c/\
  (∀W,BD w'.heap.size w' W->∀j:Nat,j<x.mods.l.length+x.aP.l.length->W.cell? ⟨g,j,Ag⟩=Ai (.int .i64 ((dW x net x.aF.l[v]).at j)))/\BD w.heap.size w w':=by
 refine(ql x v net w hr hL hx hc hv qw NI).mono ?_;rintro e w' ⟨A,c,rfl,h1,h2,iO,hb⟩;have yu:x.aF.l[v]∈x.aF.l:=CS hv;have I6:=JF hc net yu;have hda:=Zg hc net yu;have Qc:=(En hc yu).1;obtain⟨g,cap,hvv,hg1,eG⟩:=iO.form oz;have hA:A=Ai ⟨g,0,Ag⟩:=by injection hvv
 subst hA;rw[<-I6];refine⟨g,c,rfl,h1,λW hW j hj=> ?_,hb⟩;have c0:=iO.cells (g:=g) rfl j (.int .i64 (mh x net x.aF.l[v])[j]) (by simp[hj]);rw[add_plain,E9]at c0;rw[<-hda j hj];exact(hW.cell (p:=⟨g,j,Ag⟩) eG).trans c0
theorem aLh(x:ay)(v:Nat)(net:Int)(w:Al)(hr:x.rd w w.heap.size)(hL:ct w)(hx:∀r∈x.causes.l,r.x.n<=8796093021952)(hv:v<x.aF.l.length)(qw:0<=net)(NI:net<=1):
 Calls pG 11 #[x.val,.int .i64 (v:Int),.int .i64 net] w λe w'=>∃(A:Option Addr) (n c:Nat) (er:Int),e= .returned (.tuple #[.slice A n c,.int .i64 er])/\((er==0)=false\/((er==0)=true/\cW x=0/\∃g,A=Ai ⟨g,0,Ag⟩/\n=x.mods.l.length+x.aP.l.length/\
  ∀W,BD w'.heap.size w' W->∀j:Nat,j<x.mods.l.length+x.aP.l.length->W.cell? ⟨g,j,Ag⟩=Ai (.int .i64 ((dW x net x.aF.l[v]).at j))))/\BD w.heap.size w w':=by
 cases hb:Ab x (v:Int) net with
 | false=>
  refine(K4 x v net w hr hL hx hb).mono ?_;rintro e w' ⟨rfl,hb⟩;exact⟨_,_,_,_,rfl,.inl rfl,hb⟩
 | true=>
  obtain⟨hc,-,-,-,-⟩:=oV.1 hb;refine(aLa x v net w hr hL hx hc hv qw NI).mono ?_;rintro e w' ⟨g,c,rfl,-,hd,hb⟩;exact⟨_,_,_,_,rfl,.inr ⟨rfl,hc,g,rfl,rfl,hd⟩,hb⟩
theorem aLl{b1:Nat}{W:Al}{t:TypeId}{cs:Array Bn}(h:ah W b1 t cs){base:Nat}{Q:List jK}(ho:dA W base Q)(hq:∀r∈Q,r.t≠t)(v:Nat->Bn):
 ∀n,∃W' cs',W'=(List.range n).foldl (λW i=>W.setCell ⟨b1,i,Ag⟩ (v i)) W/\ah W' b1 t cs'/\dA W' base Q/\Gr (· =b1) W W':=by
 intro n
 induction n with
 | zero=>exact⟨W,cs,rfl,h,ho,Gr.refl _ _⟩
 | succ n ih=>
  obtain⟨W',cs',e,h1,h2,h3⟩:=ih;exact⟨_,_,by rw[List.range_succ,List.foldl_append,<-e];rfl,h1.bX n (v n),h2.set h1 hq (v n),h3.trans' (Gr.setCell (X:=(· =b1)) _ _ _ rfl) (λj _ e=>e)⟩
theorem aMw{Q T:Al->Nat->Bn->Nat->Prop}{G:Prop}(h:(∀W n v b,Q W n v b->T W n v b)->G)(k:∀W n v b,Q W n v b->T W n v b):G:=h k
theorem aEu{ops:Array Oper}{o:Oper}{a:Act}{w:Al}{K:Act->Al->Prop}{Q:Exit->Act->Al->Prop}{E:Prop}(hgd:o.guard=Ag)(s x:Operand)(t:TypeId)
 (ho:o.op= .call {callee:= .builtin .append,args:= #[s,x],argTypes:= #[t,t]})
 (base:Nat) (e:TypeId) (i:TypeInfo) (z:Bn) (size bytes:Nat) (ht:pG.underlying t=Ai (.slice e)) (hi:pG.info? e=Ai i) (hz:i.zero=Ai z)
 (hsize:i.size=size) (hby:i.bytes=bytes) (hzs:z.cells.size=size) (hsz:0<size)
 (v:Bn) (n:Nat) (xs:List Bn) (hs:a.eval s=v) (hown:w.ownsRow base e size v n xs)
 (B:Nat) (A:Option Addr) (m c:Nat) (news:List Bn) (hx:a.eval x= .slice A m c) (hr:Reads w B size A m news) (h1:∀u∈news,u.oneCell'=true)
 (h63:n+m<=EW) (hbytes:(n+m)*bytes<=140737488355328) (hbase:base<=w.heap.size)
 (h:∀v' w',w'.ownsRow base e size v' (n+m) (xs++news)->w.grownBy w' v.ownBlock->(v'.ownBlock=v.ownBlock\/v'.ownBlock=Ai w.heap.size)->K (a.put o.dst v') w'):
 if Region.wanted o (yielded ops a.tmps)=true then Oper.wp pG o a w K Q else E:=by
 have hw:Region.wanted o (yielded ops a.tmps)=true:=by simp[Region.wanted,hgd]
 rw[if_pos hw];exact uw w s x t ho base e i z size bytes ht hi hz hsize hby hzs hsz v n xs hs hown B A m c news hx hr h1 h63 hbytes hbase h
theorem more_c(x:ay)(v net:Int)(l:aO)(at_:Int)(w:Al)(hr:x.rd w w.heap.size)(hL:ct w)(hx:∀r∈x.causes.l,r.x.n<=8796093021952)(hat:0<=at_/\at_<=255):
 CU 5 #[x.val,.int .i64 v,.int .i64 net,l.val,.int .u8 at_] w (.bool true):=by
 obtain⟨y0,bR⟩:=ez ((w.alloc (.cells #[.slice x.mods.a x.mods.l.length x.mods.c,.slice x.aj.a x.aj.l.length x.aj.c,.slice x.aP.a x.aP.l.length x.aP.c,.slice x.links.a x.links.l.length x.links.c,.slice x.aF.a x.aF.l.length x.aF.c,.slice x.bQ.a x.bQ.l.length x.bQ.c,.slice x.causes.a x.causes.l.length x.causes.c,.slice x.aA.a x.aA.l.length x.aA.c] 31)).alloc (.cells #[.string l.a,.string l.b,.int .i64 l.net,.int .i64 l.slow] 46));obtain⟨gc,uW⟩:=ez w.heap.size;have bW:BD w.heap.size w y0:=by rw[bR];exact(bN).alloc qz _
 have bS:ah y0 gc 31 x.arr:=by rw[bR,uW];exact(ah.new w _ _).alloc _
 have aMx:ah y0 (gc+1) 46 #[.string l.a,.string l.b,.int .i64 l.net,.int .i64 l.slow]:=by rw[bR,uW];have h:=ah.new (w.alloc (.cells #[.slice x.mods.a x.mods.l.length x.mods.c,.slice x.aj.a x.aj.l.length x.aj.c,.slice x.aP.a x.aP.l.length x.aP.c,.slice x.links.a x.links.l.length x.links.c,.slice x.aF.a x.aF.l.length x.aF.c,.slice x.bQ.a x.bQ.l.length x.bQ.c,.slice x.causes.a x.causes.l.length x.causes.c,.slice x.aA.a x.aA.l.length x.aA.c] 31)) 46 #[.string l.a,.string l.b,.int .i64 l.net,.int .i64 l.slow];rw[World.size_alloc]at h;exact h
 have hs0:y0.heap.size=gc+2:=by rw[bR,uW];simp
 have haw:=La y0 (hL.below bW);have Haw:=lz haw;have gW:Hid (∀W,BD y0.heap.size y0 W->W.cell? ⟨gc,0,Ag⟩=Ai (.slice x.mods.a x.mods.l.length x.mods.c)/\W.cell? ⟨gc,1,Ag⟩=Ai (.slice x.aj.a x.aj.l.length x.aj.c)/\W.cell? ⟨gc,2,Ag⟩=Ai (.slice x.aP.a x.aP.l.length x.aP.c)/\W.cell? ⟨gc,3,Ag⟩=Ai (.slice x.links.a x.links.l.length x.links.c)/\W.cell? ⟨gc,4,Ag⟩=Ai (.slice x.aF.a x.aF.l.length x.aF.c)/\W.cell? ⟨gc,5,Ag⟩=Ai (.slice x.bQ.a x.bQ.l.length x.bQ.c)/\W.cell? ⟨gc,6,Ag⟩=Ai (.slice x.causes.a x.causes.l.length x.causes.c)/\W.cell? ⟨gc,7,Ag⟩=Ai (.slice x.aA.a x.aA.l.length x.aA.c)):=lz λW hW=>by
  have h:=bS.below hW oz;exact⟨h.cell 0,h.cell 1,h.cell 2,h.cell 3,h.cell 4,h.cell 5,h.cell 6,h.cell 7⟩
 have Hlb:Hid (∀W,BD y0.heap.size y0 W->ah W (gc+1) 46 #[.string l.a,.string l.b,.int .i64 l.net,.int .i64 l.slow]):=lz λW hW=>aMx.below hW aMx.lt
 have kX:Hid (∀W,BD y0.heap.size y0 W->x.rd W W.heap.size/\ct W/\BD w.heap.size w W):=lz λW hW=>by
  have h:=bW.trans (hW.mono bW.size);exact⟨hr.below h,hL.below h,h⟩
 have Hx:=lz hx;have dV:=lz bR;have Oc:=lz uW;have Hs0:=lz hs0;clear aMx bR uW bW bS hs0 haw hr hL hx;go_enter func5,ntmps5;go_wp2_with fail;rw[<-dV.out,<-Oc.out];refine Haw.out.mono ?_;rintro e W1 ⟨rfl,aU⟩;obtain⟨c0,c1,c2,c3,c4,c5,c6,c7⟩:=gW.out W1 aU;have cU:=lz aU;clear aU;go_wp2_with fail;clear c0 c1 c2 c3 c4 c5 c6 c7;refine(Q0 x W1 (kX.out W1 cU.out).1).mono ?_;rintro e W2 ⟨⟨zs,rfl⟩,dI⟩;have eF:=lz (cU.out.trans (dI.mono cU.out.size));obtain⟨c0,c1,c2,c3,c4,c5,c6,c7⟩:=gW.out W2 eF.out;clear dI;by_cases hzs:zs>600
 .go_wp2_with fail
  go_ret;exact⟨rfl,(kX.out W2 eF.out).2.2⟩
 go_wp2_with fail;clear c0 c1 c2 c3 c4 c5 c6 c7;refine(yx x W2 (kX.out W2 eF.out).1 (kX.out W2 eF.out).2.1 Hx.out).mono ?_;rintro e W3 ⟨rfl,kq⟩;have mP:=lz (eF.out.trans (kq.mono eF.out.size));obtain⟨c0,c1,c2,c3,c4,c5,c6,c7⟩:=gW.out W3 mP.out;clear kq;by_cases hc0:cW x≠0
 .generalize cW x=zc at*
  have hcz:(zc !=0)=true:=by simpa using hc0
  go_wp2;go_ret;exact⟨rfl,(kX.out W3 mP.out).2.2⟩
 have hc:cW x=0:=Decidable.of_not_not hc0;rw[hc];have Hc:=lz hc;clear hc hc0;go_wp2_with fail;clear c0 c1 c2 c3 c4 c5 c6 c7;obtain⟨gd,hgd⟩:=ez W3.heap.size;obtain⟨W4,Ql⟩:=ez (W3.alloc (.cells #[.slice x.mods.a x.mods.l.length x.mods.c,.slice x.aj.a x.aj.l.length x.aj.c,.slice x.aP.a x.aP.l.length x.aP.c,.slice x.links.a x.links.l.length x.links.c,.slice x.aF.a x.aF.l.length x.aF.c,.slice x.bQ.a x.bQ.l.length x.bQ.c,.slice x.causes.a x.causes.l.length x.causes.c,.slice x.aA.a x.aA.l.length x.aA.c] 31));have aNB:BD W3.heap.size W3 W4:=by rw[Ql];exact bN
 have hd4:ah W4 gd 31 x.arr:=by rw[Ql,hgd];exact ah.new W3 _ _
 rw[<-hgd,<-Ql];have pN:=lz (mP.out.trans (aNB.mono mP.out.size));have Hd4:=lz hd4;have aNj:gd<W4.heap.size:=hd4.lt;have hgy:y0.heap.size<=gd:=by rw[hgd];exact mP.out.size
 clear Ql hgd aNB hd4;have C5:=jv Hc.out;obtain⟨MI,lS,Pc,hq4⟩:=C5;obtain⟨i0,lX,hz0,hz1,hz2⟩:=info_parts aMv;have Hlk:Hid (∀W,BD W4.heap.size W4 W->fZ W W.heap.size x.links.a x.links.l):=lz λW hW=>(kX.out W (pN.out.trans (hW.mono pN.out.size))).1.links
 have cC:∀W,BD W4.heap.size W4 W->W.cell? ⟨gc,3,Ag⟩=Ai (.slice x.links.a x.links.l.length x.links.c)/\W.cell? ⟨gc+1,0,Ag⟩=Ai (.string l.a)/\W.cell? ⟨gc+1,1,Ag⟩=Ai (.string l.b)/\W.cell? ⟨gc+1,2,Ag⟩=Ai (.int .i64 l.net)/\W.cell? ⟨gc+1,3,Ag⟩=Ai (.int .i64 l.slow):=λW hW=>by
  have hBW:=pN.out.trans (hW.mono pN.out.size);obtain⟨c0,c1,c2,c3,c4,c5,c6,c7⟩:=gW.out W hBW;have h:=Hlb.out W hBW;exact⟨c3,h.cell 0,h.cell 1,h.cell 2,h.cell 3⟩
 have Ej:=lz cC;have HBq:Hid (BD W4.heap.size W4 W4.drew):=lz (BK _ _).drew;have hHeld:=cC W4.drew HBq.out;clear cC;refine aMw (Q:=λW n v b=>BD W4.heap.size W4 W/\W.ownsRow W4.heap.size 46 4 v x.links.l.length (x.links.l.flatMap aO.cells)/\ah W b 46 #[.string l.a,.string l.b,.int .i64 l.net,.int .i64 l.slow]/\v.ownBlock≠Ai b) (T:= ?T) ?main ?key
 case main=>
  intro hkey;have UU:=lz hkey;clear hkey;refine aT (λW=>W.cell? ⟨gc,3,Ag⟩=Ai (.slice x.links.a x.links.l.length x.links.c)/\W.cell? ⟨gc+1,0,Ag⟩=Ai (.string l.a)/\W.cell? ⟨gc+1,1,Ag⟩=Ai (.string l.b)/\W.cell? ⟨gc+1,2,Ag⟩=Ai (.int .i64 l.net)/\W.cell? ⟨gc+1,3,Ag⟩=Ai (.int .i64 l.slow)) 8 kz hHeld (λhHeld=> ?_);refine TS 1 rfl hHeld ?_;simp only[zP,zA,zB,zC];refine TS 2 rfl hHeld ?_;simp only[zP,zA,zB,zC];refine TS 4 rfl hHeld ?_;simp only[zP,zA,zB,zC];refine jB (rs:= [0,5]) kz qz ?_;refine dx.cons rfl (λK hK=> ?_) (dx.cons rfl (λK hK=> ?_) dx.nil)
  .go_simp
   obtain⟨Vf,Lh⟩:∃n,n=W4.heap.size:=⟨_,rfl⟩;obtain⟨Wa,yJ⟩:∃W,W=(W4.alloc (.cells #[] 46)).drew:=⟨_,rfl⟩;have Li:BD W4.heap.size W4 Wa:=by rw[yJ];exact(((BK _ W4).alloc nL (.cells #[] 46)).drew)
   have qM:BD W4.heap.size W4 Wa:=Li;have JH:Wa.ownsRow W4.heap.size 46 4 (.slice (Ai ⟨Vf,0,Ag⟩) 0 0) 0 []:=by rw[yJ,Lh];exact World.ownsRow_made (base:=W4.heap.size) W4 #[] 0 nL nZ rfl
   rw[<-Lh,<-yJ];have hHeld:=Ej.out Wa qM;refine hK.out _ _ (λ_=>hHeld) ?_;clear hK;clear yJ;have aLv:=lz Lh;clear Lh;refine jB (rs:= [3,5]) kz qz ?_;refine dx.cons rfl (λK hK=> ?_) (dx.cons rfl (λK hK=> ?_) dx.nil)
   .refine aEu rfl (.tmp 39) (.tmp 41) 25 rfl W4.heap.size 46 i0 _ 4 48 underlying25 lX hz0 hz1 hz2 rfl dz (.slice (Ai ⟨Vf,0,Ag⟩) 0 0) 0 [] rfl JH Wa.heap.size x.links.a x.links.l.length x.links.c (x.links.l.flatMap aO.cells) rfl (RdG.reads (E:=aO.cells) (sz:=4) dz (λ_=>rfl) (aFR (Hlk.out Wa qM))) (aFC _) (by unfold EW;omega) oz qM.size ?_
    intro v59 Wb yL aEK aGk;have mU:BD W4.heap.size W4 Wb:=qM.grown aEK qM.size (λj e=>(JH.lt j e).1);rw[GY,E9]at yL;have hHeld:=Ej.out Wb mU;refine hK.out _ _ (λ_=>hHeld) ?_;clear hK;refine RQ 5 rfl λK hK=> ?_
    go_simp;obtain⟨Pt,yM⟩:∃n,n=Wb.heap.size:=⟨_,rfl⟩;obtain⟨Wc,Ta⟩:∃W,W=Wb.alloc (.cells #[.string l.a,.string l.b,.int .i64 l.net,.int .i64 l.slow] 46):=⟨_,rfl⟩;have Rn:BD Wb.heap.size Wb Wc:=by rw[Ta];exact(((BK _ Wb).alloc nL (.cells #[.string l.a,.string l.b,.int .i64 l.net,.int .i64 l.slow] 46)))
    have yN:BD W4.heap.size W4 Wc:=mU.trans (Rn.mono mU.size);have JI:ah Wc Pt 46 #[.string l.a,.string l.b,.int .i64 l.net,.int .i64 l.slow]:=by rw[Ta,yM];exact ah.new Wb _ _
    rw[<-yM,<-Ta];have hHeld:=Ej.out Wc yN;refine hK.out _ _ (λ_=>hHeld) ?_;clear hK;clear Ta;have aC0:=lz yM;clear yM;have hv9:v59.ownBlock≠Ai Pt:=λh=>by have:=(yL.lt _ h).2;have:=aC0.out;omega
    have pX:=cO (X:=λj=>Wb.heap.size<=j) yL (Gr.ak Rn) (λj hj h=>by have:=(yL.lt j hj).2;omega);have HT:=ai yN (ai pX (ai JI hv9));clear hHeld JH qM mU yL aEK aGk JI yN Rn Li hv9 pX;exact UU.out Wc Vf v59 Pt HT
   .go_simp
    obtain⟨Pt,yM⟩:∃n,n=Wa.heap.size:=⟨_,rfl⟩;obtain⟨Wb,yO⟩:∃W,W=Wa.alloc (.cells #[.string l.a,.string l.b,.int .i64 l.net,.int .i64 l.slow] 46):=⟨_,rfl⟩;have Fa:BD Wa.heap.size Wa Wb:=by rw[yO];exact(((BK _ Wa).alloc nL (.cells #[.string l.a,.string l.b,.int .i64 l.net,.int .i64 l.slow] 46)))
    have mU:BD W4.heap.size W4 Wb:=qM.trans (Fa.mono qM.size);have OB:ah Wb Pt 46 #[.string l.a,.string l.b,.int .i64 l.net,.int .i64 l.slow]:=by rw[yO,yM];exact ah.new Wa _ _
    rw[<-yM,<-yO];have hHeld:=Ej.out Wb mU;refine hK.out _ _ (λ_=>hHeld) ?_;clear hK;clear yO;have aC0:=lz yM;clear yM;have OC:=cO (X:=λj=>Wa.heap.size<=j) JH (Gr.ak Fa) (λj hj h=>by have:=(JH.lt j hj).2;omega);have hne:Vf≠Pt:=by have:=(JH.lt Vf rfl).2;have:=aC0.out;omega
    refine RQ 3 rfl λK hK=> ?_
    refine aEu rfl (.tmp 39) (.tmp 41) 25 rfl W4.heap.size 46 i0 _ 4 48 underlying25 lX hz0 hz1 hz2 rfl dz (.slice (Ai ⟨Vf,0,Ag⟩) 0 0) 0 [] rfl OC Wb.heap.size x.links.a x.links.l.length x.links.c (x.links.l.flatMap aO.cells) rfl (RdG.reads (E:=aO.cells) (sz:=4) dz (λ_=>rfl) (aFR (Hlk.out Wb mU))) (aFC _) (by unfold EW;omega) oz mU.size ?_;intro v59 Wc pX OD Ro;have yN:BD W4.heap.size W4 Wc:=mU.grown OD mU.size (λj e=>(OC.lt j e).1);rw[GY,E9]at pX;have hHeld:=Ej.out Wc yN;refine hK.out _ _ (λ_=>hHeld) ?_;clear hK;have JI:=OB.grown OD (λh=>hne (ES.inj h).symm);have hv9:v59.ownBlock≠Ai Pt:=λh=>by
     have h1:=OB.lt;rcases Ro with q1 | q1
     .rw[h]at q1;exact hne (ES.inj q1).symm
     .rw[h]at q1;have:=ES.inj q1;omega
    have HT:=ai yN (ai pX (ai JI hv9));exact UU.out Wc Vf v59 Pt HT
  .go_simp
   obtain⟨Pt,yM⟩:∃n,n=W4.heap.size:=⟨_,rfl⟩;obtain⟨Wa,yJ⟩:∃W,W=(W4.alloc (.cells #[.string l.a,.string l.b,.int .i64 l.net,.int .i64 l.slow] 46)).drew:=⟨_,rfl⟩;have Li:BD W4.heap.size W4 Wa:=by rw[yJ];exact(((BK _ W4).alloc nL (.cells #[.string l.a,.string l.b,.int .i64 l.net,.int .i64 l.slow] 46)).drew)
   have qM:BD W4.heap.size W4 Wa:=Li;have Zm:ah Wa Pt 46 #[.string l.a,.string l.b,.int .i64 l.net,.int .i64 l.slow]:=by rw[yJ,yM];exact(ah.new W4 _ _).drew
   rw[<-yM,<-yJ];have hHeld:=Ej.out Wa qM;refine hK.out _ _ (λ_=>hHeld) ?_;clear hK;clear yJ;have aC0:=lz yM;clear yM;refine RQ 0 rfl λK hK=> ?_
   go_simp;obtain⟨Vf,Lh⟩:∃n,n=Wa.heap.size:=⟨_,rfl⟩;obtain⟨Wb,yO⟩:∃W,W=Wa.alloc (.cells #[] 46):=⟨_,rfl⟩;have Fa:BD Wa.heap.size Wa Wb:=by rw[yO];exact(((BK _ Wa).alloc nL (.cells #[] 46)))
   have mU:BD W4.heap.size W4 Wb:=qM.trans (Fa.mono qM.size);have OC:Wb.ownsRow W4.heap.size 46 4 (.slice (Ai ⟨Vf,0,Ag⟩) 0 0) 0 []:=by rw[yO,Lh];exact World.ownsRow_made (base:=W4.heap.size) Wa #[] 0 qM.size nZ rfl
   rw[<-Lh,<-yO];have hHeld:=Ej.out Wb mU;refine hK.out _ _ (λ_=>hHeld) ?_;clear hK;clear yO;have aLv:=lz Lh;clear Lh;have OB:=Zm.below Fa Zm.lt;have hne:Vf≠Pt:=by have:=Zm.lt;have:=aLv.out;omega
   refine RQ 3 rfl λK hK=> ?_
   refine aEu rfl (.tmp 39) (.tmp 41) 25 rfl W4.heap.size 46 i0 _ 4 48 underlying25 lX hz0 hz1 hz2 rfl dz (.slice (Ai ⟨Vf,0,Ag⟩) 0 0) 0 [] rfl OC Wb.heap.size x.links.a x.links.l.length x.links.c (x.links.l.flatMap aO.cells) rfl (RdG.reads (E:=aO.cells) (sz:=4) dz (λ_=>rfl) (aFR (Hlk.out Wb mU))) (aFC _) (by unfold EW;omega) oz mU.size ?_;intro v59 Wc pX OD Ro;have yN:BD W4.heap.size W4 Wc:=mU.grown OD mU.size (λj e=>(OC.lt j e).1);rw[GY,E9]at pX;have hHeld:=Ej.out Wc yN;refine hK.out _ _ (λ_=>hHeld) ?_;clear hK;have JI:=OB.grown OD (λh=>hne (ES.inj h).symm);have hv9:v59.ownBlock≠Ai Pt:=λh=>by
    have h1:=OB.lt;rcases Ro with q1 | q1
    .rw[h]at q1;exact hne (ES.inj q1).symm
    .rw[h]at q1;have:=ES.inj q1;omega
   have HT:=ai yN (ai pX (ai JI hv9));exact UU.out Wc Vf v59 Pt HT
 case key=>
  rintro W10 Vf v59 Pt ⟨aC1,Rp,aGl,aQV⟩;refine RQ 6 rfl λK hK=> ?_
  refine aEu rfl (.tmp 42) (.tmp 44) 25 rfl W4.heap.size 46 i0 _ 4 48 underlying25 lX hz0 hz1 hz2 rfl dz v59 x.links.l.length _ rfl Rp W10.heap.size (Ai ⟨Pt,0,Ag⟩) 1 1 ([l].flatMap aO.cells) rfl ⟨rfl,λ_=>⟨⟨Pt,0,Ag⟩,rfl,aGl.lt,λj u hj=>by
   rw[add_plain,E9,aGl.cell j];simpa [aO.cells]using hj⟩⟩ (aFC _) (by unfold EW;omega) oz aC1.size ?_
  intro v11 wv Fb aLw _;have Zn:BD W4.heap.size W4 wv:=aC1.grown aLw aC1.size (λj e=>(Rp.lt j e).1);have hHeld:=Ej.out wv Zn;refine hK.out _ _ (λ_=>hHeld) ?_;clear hK;obtain⟨Ad,cd,rfl,k1,k2⟩:=bp Fb;have g11:=Hd4.out.below Zn aNj;have hHb:=lz (ai Zn (ai Fb g11));clear Fb aLw Rp aGl aQV aC1 Zn;refine RQ 7 rfl λK hK=> ?_
  go_simp;refine hK.out _ _ (λ_=>hHeld) ?_;clear hK;have f3:=g11.frozen 3;have e3:=g11.cell 3;clear g11;refine RQ 8 rfl λK hK=> ?_
  go_simp;refine hK.out _ _ (λh=>absurd h dz) ?_;clear hK;refine aL kz ?_ _;obtain⟨Zn,Fb,g11⟩:=hHb.out;obtain⟨d,hd⟩:∃d:ay,d={x with links:=⟨Ad,cd,x.links.l++ [l]⟩}:=⟨_,rfl⟩;obtain⟨sI,tM⟩:=ez (wv.setCell ⟨gd,3,Ag⟩ (.slice Ad (x.links.l.length+1) cd));have hgr:Gr (· =gd) wv sI:=by rw[tM];exact Gr.setCell _ _ _ rfl
  have aC2:BD y0.heap.size y0 sI:=by rw[tM];exact(pN.out.trans (Zn.mono pN.out.size)).setCell hgy _
  have XK:x.links.l.length+1=(x.links.l++ [l]).length:=by simp
  rw[<-List.flatMap_append,XK]at Fb;have aLp:=cO Fb hgr (λk hk e=>aW Fb g11 dz (e▸hk));have aN3:ah sI gd 31 d.arr:=by
   have h:=g11.bX 3 (.slice Ad (x.links.l.length+1) cd);rw[<-tM]at h;rw[hd];simpa [ay.arr]using h
  have DF:∀W,BD sI.heap.size sI W->d.rd W W.heap.size:=λW hW=>by
   rw[hd];refine aLR (kX.out W (aC2.trans (hW.mono aC2.size))).1 _ (by rw[<-XK];exact k1) k2 ?_;exact(uJ aLp).below hW
  have hdx:∀r∈d.causes.l,r.x.n<=8796093021952:=by rw[hd];exact Hx.out
  have aLq:=aN3.lt;have aCi:=lz aC2;have aMy:=lz aN3;have Hdr:=lz DF;have Hdx:=lz hdx;have Hd:=lz hd;have ZE:=lz tM;have hdv:d.aF=x.aF:=by rw[hd]
  have aNC: #[.slice x.mods.a x.mods.l.length x.mods.c,.slice x.aj.a x.aj.l.length x.aj.c,.slice x.aP.a x.aP.l.length x.aP.c,.slice Ad (x.links.l.length+1) cd,.slice x.aF.a x.aF.l.length x.aF.c,.slice x.bQ.a x.bQ.l.length x.bQ.c,.slice x.causes.a x.causes.l.length x.causes.c,.slice x.aA.a x.aA.l.length x.aA.c]=d.arr:=by rw[hd,XK];rfl
  have Hdv:=lz hdv;have aND:=lz aNC;clear hdv aNC aC2 aN3 DF hdx hd hgr aLp Fb g11 Zn hHb hHeld f3 e3 XK tM lX hz0 hz1 hz2;obtain⟨c0,c1,c2,c3,c4,c5,c6,c7⟩:=gW.out sI aCi.out;rw[<-ZE.out];go_wp2_with fail;have aMd:d.val= .agg #[.slice x.mods.a x.mods.l.length x.mods.c,.slice x.aj.a x.aj.l.length x.aj.c,.slice x.aP.a x.aP.l.length x.aP.c,.slice Ad (x.links.l.length+1) cd,.slice x.aF.a x.aF.l.length x.aF.c,.slice x.bQ.a x.bQ.l.length x.bQ.c,.slice x.causes.a x.causes.l.length x.causes.c,.slice x.aA.a x.aA.l.length x.aA.c]:=by rw[Hd.out];show Value.agg #[_,_,_,.slice Ad (x.links.l++ [l]).length cd,_,_,_,_]=_;rw[List.length_append];rfl
  have aMe:=lz aMd;have aMz:d.aF=x.aF:=Hdv.out;have Pm:d.mods.l.length+d.aP.l.length=x.mods.l.length+x.aP.l.length:=by rw[Hd.out]
  have aNE:Ab d v net=true->Ab x v net=true:=λh=>by
   obtain⟨-,h2⟩:=oV.1 h;rw[aMz]at h2;exact oV.2 ⟨Hc.out,h2⟩
  have Hbd:=lz aNE;have aM0:=lz aMz;have Hms:=lz Pm;have aLs:∀W,BD sI.heap.size sI W->W.cell? ⟨gd,0,Ag⟩=Ai (.slice x.mods.a x.mods.l.length x.mods.c)/\W.cell? ⟨gd,1,Ag⟩=Ai (.slice x.aj.a x.aj.l.length x.aj.c)/\W.cell? ⟨gd,2,Ag⟩=Ai (.slice x.aP.a x.aP.l.length x.aP.c)/\W.cell? ⟨gd,3,Ag⟩=Ai (.slice Ad (x.links.l.length+1) cd)/\W.cell? ⟨gd,4,Ag⟩=Ai (.slice x.aF.a x.aF.l.length x.aF.c)/\W.cell? ⟨gd,5,Ag⟩=Ai (.slice x.bQ.a x.bQ.l.length x.bQ.c)/\W.cell? ⟨gd,6,Ag⟩=Ai (.slice x.causes.a x.causes.l.length x.causes.c)/\W.cell? ⟨gd,7,Ag⟩=Ai (.slice x.aA.a x.aA.l.length x.aA.c):=λW hW=>by
   have q:=aMy.out.below hW aLq;rw[<-aND.out]at q;exact⟨q.cell 0,q.cell 1,q.cell 2,q.cell 3,q.cell 4,q.cell 5,q.cell 6,q.cell 7⟩
  have Hdc:=lz aLs;clear aMd aMz Pm aNE aLs c0 c1 c2 c3 c4 c5 c6 c7
  cases oU:Ab x v net with
  | false=>
   have hbd:Ab d v net=false:=by
    cases h:Ab d v net with
    | false=>rfl
    | true=>rw[Hbd.out h]at oU;cases oU
   refine(K4 x v net sI (kX.out sI aCi.out).1 (kX.out sI aCi.out).2.1 Hx.out oU).mono ?_;rintro e VH ⟨rfl,Aj⟩;have aH7:=lz (aCi.out.trans (Aj.mono aCi.out.size));have H13:=lz Aj;obtain⟨z0,z1,z2,z3,z4,z5,z6,z7⟩:=Hdc.out VH H13.out;have hdn:=K4 d v net VH (Hdr.out VH H13.out) (kX.out VH aH7.out).2.1 Hdx.out hbd;rw[aMe.out]at hdn;have Hdn:=lz hdn;clear Aj oU hbd hdn;go_wp2_with fail;clear z0 z1 z2 z3 z4 z5 z6 z7;refine Hdn.out.mono ?_;rintro e W14 ⟨rfl,aIk⟩;have aMZ:=lz (aH7.out.trans (aIk.mono aH7.out.size));clear aIk;go_wp2;go_loopw [63] (λt wr=>t= .int .i64 0/\wr=W14) (λ_ _=>0)
   case atStart=>exact⟨rfl,rfl⟩
   case round=>
    obtain⟨rfl,rfl⟩:=hrel;go_wp2;go_ret;exact⟨rfl,(kX.out _ aMZ.out).2.2⟩
  | true=>
   obtain⟨-,hv0,Me,qw,NI⟩:=oV.1 oU;obtain⟨k,rfl⟩:∃k:Nat,v=(k:Int):=⟨v.toNat,oz⟩;have hk:k<x.aF.l.length:=by omega
   have QG:k<d.aF.l.length:=by rw[aM0.out];exact hk
   clear oU;refine(aLa x k net sI (kX.out sI aCi.out).1 (kX.out sI aCi.out).2.1 Hx.out Hc.out hk qw NI).mono ?_;rintro e VH ⟨g1,c1,rfl,hc1,aNF,Aj⟩;have aH7:=lz (aCi.out.trans (Aj.mono aCi.out.size));have H13:=lz Aj;have aNk:=lz aNF;obtain⟨z0,z1,z2,z3,z4,z5,z6,z7⟩:=Hdc.out VH H13.out;have hdn:=aLh d k net VH (Hdr.out VH H13.out) (kX.out VH aH7.out).2.1 Hdx.out QG qw NI;rw[aMe.out]at hdn;have Hdn:=lz hdn;clear Aj hdn aNF;go_wp2_with fail;clear z0 z1 z2 z3 z4 z5 z6 z7;refine Hdn.out.mono ?_;rintro e W14 ⟨Ay,ny,cy,er,rfl,hyd,aIk⟩;have aMZ:=lz (aH7.out.trans (aIk.mono aH7.out.size));have H14:=lz aIk;have Hyd:=lz hyd;obtain⟨N,hN⟩:=ez (x.mods.l.length+x.aP.l.length);rw[<-hN]at hc1 ⊢;have aOi:N<=12:=by rw[hN];exact Eo Hc.out
   have HN:=lz hN;clear aIk hyd hN Hdn;go_wp2;go_loopw [63] (λt wr=>∃i:Nat,i<=N/\t= .int .i64 i/\BD W14.heap.size W14 wr) (λt wr=>N-(E8 t).toNat)
   case atStart=>exact⟨0,nZ,rfl,BK _ _⟩
   case round=>
    obtain⟨i,hi,rfl,hB⟩:=hrel;by_cases hlt:i<N
    .have hiN:(i:Int)<(N:Int):=by omega
     have HB:=lz hB;obtain⟨a,ha⟩:=ez ((dW x net x.aF.l[k]).at i);have e1:=aNk.out wr (H14.out.trans (hB.mono H14.out.size)) i (by have:=HN.out;omega);rw[<-ha]at e1;clear hB;rcases Hyd.out with he0 | ⟨he0,hcd,gy,hAy,hny,hcy⟩
     .clear ha
      go_wp2_with fail;go_quiet (fail);go_wp2;go_roundw
      case rel=>exact⟨i+1,oz,by go_num,aD HB.out⟩
      case measure=>simp[E8];omega
     .have aNo:ny=N:=by rw[hny,Hms.out,<-HN.out]
      subst hAy aNo;have e2:=hcy wr HB.out i (by rw[<-hny];exact hlt);obtain⟨b,hb⟩:=ez ((dW d net d.aF.l[k]).at i);rw[<-hb]at e2;have IK:0<=a->0<=b/\b<=a:=λh0=>by
       rw[ha]at h0 ⊢;rw[hb];have hyk:d.aF.l[k]=x.aF.l[k]:=by congr 1;rw[aM0.out]
       rw[hyk];exact aH3 Hc.out hcd (CS hk) (by rw[aM0.out];exact CS hk) l (by rw[Hd.out]) (λs=>by rw[Hd.out];rfl) (by rw[Hd.out]) net i h0
      clear hcy hny ha hb;have hfc:∃(p q r:Bool),(a<b)=(p=true)/\(0<=a)=(q=true)/\(b<0)=(r=true)/\(q=true->p=false/\r=false):=⟨decide (a<b),decide (0<=a),decide (b<0),qz,qz,qz,λh=>by
       have h:=IK (of_decide_eq_true h);exact⟨dF oz,dF oz⟩⟩
      obtain⟨p,q,r,f1,f2,f3,f4⟩:=hfc;clear IK
      cases q
      all_goals cases p
      all_goals cases r
      all_goals first | (exact absurd (f4 rfl).1 dz) | (exact absurd (f4 rfl).2 dz) | skip
      all_goals
       clear f4;go_wp2_with fail;go_quiet (fail);go_wp2;go_roundw
       case rel=>exact⟨i+1,oz,by go_num,aD HB.out⟩
       case measure=>simp[E8];omega
    .have hie:i=N:=by omega
     have hiN:((i:Int)<(N:Int))=False:=eq_false oz;have aGP:=lz (aMZ.out.trans (hB.mono aMZ.out.size));have H15:=lz (H13.out.trans ((H14.out.trans (hB.mono H14.out.size)).mono H13.out.size));obtain⟨bv,ov,hva,hbv,hvc⟩:=(kX.out wr aGP.out).1.aF (show 0<x.aF.l.length by omega);obtain⟨u0,u1,u2,u3,u4,u5,u6,-⟩:=hvc k hk;obtain⟨y,hy⟩:=ez (x.aF.l[k]);rw[<-hy]at u6;have u6':wr.cell? ⟨bv,ov+k*7+6,Ag⟩=Ai (.slice y.dst.a y.dst.l.length y.dst.c):=u6;obtain⟨c0,c1,c2,c3,c4,c5,c6,c7⟩:=gW.out wr aGP.out;rw[hva]at c4;have hkv:(k:Int)<(x.aF.l.length:Int):=by omega
     have Hy:=lz hy;have Hva:=lz hva;clear hB hie u0 u1 u2 u3 u4 u5 u6 hvc hy hva;by_cases h2:y.dst.l.length<2
     .have h2t:((y.dst.l.length:Int)<2)=True:=eq_true oz
      go_wp2;go_ret;exact⟨rfl,(kX.out wr aGP.out).2.2⟩
     have h2f:((y.dst.l.length:Int)<2)=False:=eq_false oz;go_wp2_with fail;rw[<-Hva.out];refine(aHs x wr (kX.out wr aGP.out).1 (aLH Hc.out (kX.out wr aGP.out).1)).mono ?_;rintro e W16 ⟨x',rfl,her,iO,aKJ⟩;have g16:=(aMy.out.below H15.out aLq).below aKJ (aMy.out.below H15.out aLq).lt;rw[<-aND.out]at g16;obtain⟨z0,z1,z2,z3,z4,z5,z6,z7⟩:W16.cell? ⟨gd,0,Ag⟩=Ai (.slice x.mods.a x.mods.l.length x.mods.c)/\W16.cell? ⟨gd,1,Ag⟩=Ai (.slice x.aj.a x.aj.l.length x.aj.c)/\W16.cell? ⟨gd,2,Ag⟩=Ai (.slice x.aP.a x.aP.l.length x.aP.c)/\W16.cell? ⟨gd,3,Ag⟩=Ai (.slice Ad (x.links.l.length+1) cd)/\W16.cell? ⟨gd,4,Ag⟩=Ai (.slice x.aF.a x.aF.l.length x.aF.c)/\W16.cell? ⟨gd,5,Ag⟩=Ai (.slice x.bQ.a x.bQ.l.length x.bQ.c)/\W16.cell? ⟨gd,6,Ag⟩=Ai (.slice x.causes.a x.causes.l.length x.causes.c)/\W16.cell? ⟨gd,7,Ag⟩=Ai (.slice x.aA.a x.aA.l.length x.aA.c):=⟨g16.cell 0,g16.cell 1,g16.cell 2,g16.cell 3,g16.cell 4,g16.cell 5,g16.cell 6,g16.cell 7⟩;have y0':=g16.frozen 0;have y1':=g16.frozen 1;have y2':=g16.frozen 2;have y3':=g16.frozen 3;have y4':=g16.frozen 4;have y5':=g16.frozen 5;have y6':=g16.frozen 6;have y7':=g16.frozen 7;obtain⟨Vl,aOs,aMf,g17,aE3,aL1⟩:=aLl g16 iO (λr hr=>aC3 (aIN x' r hr) dz) (λi=>(x'.arr[i]?).getD undef) 8;have aM2:Vl=((((((((W16.setCell ⟨gd,0,Ag⟩ (.slice x'.mods.a x'.mods.l.length x'.mods.c)).setCell ⟨gd,1,Ag⟩ (.slice x'.aj.a x'.aj.l.length x'.aj.c)).setCell ⟨gd,2,Ag⟩ (.slice x'.aP.a x'.aP.l.length x'.aP.c)).setCell ⟨gd,3,Ag⟩ (.slice x'.links.a x'.links.l.length x'.links.c)).setCell ⟨gd,4,Ag⟩ (.slice x'.aF.a x'.aF.l.length x'.aF.c)).setCell ⟨gd,5,Ag⟩ (.slice x'.bQ.a x'.bQ.l.length x'.bQ.c)).setCell ⟨gd,6,Ag⟩ (.slice x'.causes.a x'.causes.l.length x'.causes.c)).setCell ⟨gd,7,Ag⟩ (.slice x'.aA.a x'.aA.l.length x'.aA.c)):=by rw[aMf];rfl
     clear aMf;have q17:=((((((((g16.bX 0 (.slice x'.mods.a x'.mods.l.length x'.mods.c)).bX 1 (.slice x'.aj.a x'.aj.l.length x'.aj.c)).bX 2 (.slice x'.aP.a x'.aP.l.length x'.aP.c)).bX 3 (.slice x'.links.a x'.links.l.length x'.links.c)).bX 4 (.slice x'.aF.a x'.aF.l.length x'.aF.c)).bX 5 (.slice x'.bQ.a x'.bQ.l.length x'.bQ.c)).bX 6 (.slice x'.causes.a x'.causes.l.length x'.causes.c)).bX 7 (.slice x'.aA.a x'.aA.l.length x'.aA.c));simp only[List.setIfInBounds_toArray,List.set_cons_zero,List.set_cons_succ]at q17;rw[<-aM2]at q17;have aIm:BD y0.heap.size y0 Vl:=j8 (aGP.out.trans (aKJ.mono aGP.out.size)) (nT aGP.out.size aKJ.size) aL1 (λj e=>by rw[e];exact hgy);have hlen:x'.aF.l.length=x.aF.l.length:=by have e:=congrArg (λz:ay=>z.aF.l.length) her;simpa [ay.er]using e
     have WH:k<x'.aF.l.length:=by rw[hlen];exact hk
     have hye:x'.aF.l[k].er=x.aF.l[k].er:=by
      have e:x'.aF.l.map fU.er=x.aF.l.map fU.er:=by have e:=congrArg (λz:ay=>z.aF.l) her;exact e
      have e2:=congrArg (λz:List fU=>z[k]?) e;simpa [hk,WH]using e2
     obtain⟨y',hy'⟩:=ez (x'.aF.l[k]);rw[<-hy',<-Hy.out]at hye;have hyd:y'.dst.l=y.dst.l:=by have e:=congrArg (λz:fU=>z.dst.l) hye;exact e
     have hrv:Vl.ownsRow wr.heap.size 44 7 (.slice x'.aF.a x'.aF.l.length x'.aF.c) x'.aF.l.length (x'.aF.l.flatMap fU.cells):=aE3 (aDT 44 7 fU.cells x'.aF) (by simp[ay.fq]);obtain⟨gv,aOt,hvv,aOw,aO1⟩:=hrv.form (show 0<x'.aF.l.length by omega);have aHT:x'.aF.a=Ai ⟨gv,0,Ag⟩:=by injection hvv
     have hym:y'∈x'.aF.l:=by rw[hy'];exact CS WH
     have hrt:Vl.ownsRow wr.heap.size 41 3 (.slice y'.dst.a y'.dst.l.length y'.dst.c) y'.dst.l.length (y'.dst.l.flatMap bw.cells):=aE3 (aDT 41 3 bw.cells y'.dst) (by
      simp only[ay.fq,List.mem_append,List.mem_cons,List.mem_flatMap];exact .inl (.inl (.inl (.inr (.inr ⟨y',hym,by simp[fU.fq]⟩)))))
     obtain⟨bt,aO2,hvt,aO4,aO5⟩:=hrt.form (show 0<y'.dst.l.length by rw[hyd];omega);have hta:y'.dst.a=Ai ⟨bt,0,Ag⟩:=by injection hvt
     have hcv:=RdG.Pw (E:=fU.cells) (sz:=7) (λ_=>rfl) (cp:=x'.aF.c) hrv (show 0<x'.aF.l.length by omega);obtain⟨b2,o2,aNG,aNH,hcv⟩:=hcv;have aM3:(⟨b2,o2,Ag⟩:Addr)=⟨gv,0,Ag⟩:=ES.inj (aNG.symm.trans aHT);injection aM3 with aM3 aNq
     subst aM3 aNq;clear aNG;have v6:=hcv k WH 6 _ rfl;rw[<-hy']at v6;have v6':Vl.cell? ⟨b2,k*7+6,Ag⟩=Ai (.slice (Ai ⟨bt,0,Ag⟩) y.dst.l.length y'.dst.c):=by
      have e:y'.dst.val= .slice (Ai ⟨bt,0,Ag⟩) y.dst.l.length y'.dst.c:=by show Value.slice y'.dst.a y'.dst.l.length y'.dst.c=_;rw[hta,hyd]
      rw[<-e];simpa using v6
     have q4:Vl.cell? ⟨gd,4,Ag⟩=Ai (.slice (Ai ⟨b2,0,Ag⟩) x.aF.l.length x'.aF.c):=by rw[<-aHT,<-hlen];exact q17.cell 4
     have H17:=lz (ai aE3 (ai q17 (ai aIm (ai her (ai hrv hrt)))));have HL:=lz (ai hlen (ai hye (ai hyd (ai aHT (ai hta hy')))));have aNJ:=lz aM2;have aNr:=lz (ai aKJ aL1);have Hv6:=lz (ai v6' q4);clear v6' q4 aE3 q17 aIm her hrv hrt hlen hye hyd aHT hta hy' aM2 aKJ aL1 iO g16 g17 v6 hcv hvv hvt hym;go_upto_region 18 with fail
     rw[<-aNJ.out];obtain⟨v6',q4⟩:=Hv6.out;clear y0' y1' y2' y3' y4' y5' y6' y7' z0 z1 z2 z3 z4 z5 z6 z7;go_wp2_with fail;have hn2:y.dst.l.length<=8:=(Jp Hc.out (Hy.out▸CS hk)).2;obtain⟨q,hq⟩:∃q:Nat,at_%(y.dst.l.length:Int)=(q:Int):=⟨(at_%(y.dst.l.length:Int)).toNat,by have:=Int.emod_nonneg at_ (show(y.dst.l.length:Int)≠0 by omega);omega⟩;have Fz:q<y.dst.l.length:=by have:=Int.emod_lt_of_pos at_ (show(0:Int)<(y.dst.l.length:Int)by omega);omega
     rw[hq];clear hq;obtain⟨cp,KQ⟩:=ez y'.dst.c;have aIh:y.dst.l.length<=cp/\cp<=maxLen:=by
      obtain⟨-,-,-,-,-,hrt⟩:=H17.out;obtain⟨A,c,hv,k1,k2⟩:=bp hrt;injection hv with _ _ e3
      rw[KQ,e3,<-HL.out.2.2.1];exact⟨k1,k2⟩
     rw[<-KQ]at v6' ⊢;obtain⟨aNK,hcap2⟩:=aIh;have Dg:(q:Int)<=(cp:Int):=by omega
     have hx2:(0:Int)<=(q:Int):=by omega
     have hwr:IntKind.i64.wrap ((q:Int)+1)=((q+1:Nat):Int):=by rw[IntWalk.i64_in _ oz];omega
     have hx3:(q:Int)+1<=(y.dst.l.length:Int):=by omega
     have hx4:(0:Int)<=(q:Int)+1:=by omega
     have hx5:(y.dst.l.length:Int)<=(cp:Int):=by omega
     have hx6:(q:Int)<=(y.dst.l.length:Int):=by omega
     have Xy:=lz KQ;have aHh:BD Vl.heap.size Vl Vl.drew:=(BK _ _).drew;have hHeld:Vl.drew.cell? ⟨b2,k*7+6,Ag⟩=Ai (.slice (Ai ⟨bt,0,Ag⟩) y.dst.l.length cp):=(aHh.cell (p:=⟨b2,k*7+6,Ag⟩) aNH).trans v6';have HHv:=lz v6';clear v6' q4 KQ;have aMh:Hid (∀W,BD Vl.heap.size Vl W->RdG W W.heap.size (Ai ⟨bt,0,Ag⟩) bw.cells 3 y.dst.l):=lz λW hW=>by
      obtain⟨-,-,-,-,-,hrt⟩:=H17.out;obtain⟨-,-,hyd,-,hta,-⟩:=HL.out;have h:=cO (X:=λj=>Vl.heap.size<=j) hrt (Gr.ak hW) (λj hj h=>by have:=(hrt.lt j hj).2;omega);have h2:=RdG.Pw (E:=bw.cells) (sz:=3) (λ_=>rfl) (cp:=y'.dst.c) h;rw[hta,hyd]at h2;exact h2
     refine aT (λW=>W.cell? ⟨b2,k*7+6,Ag⟩=Ai (.slice (Ai ⟨bt,0,Ag⟩) y.dst.l.length cp)) 18 kz hHeld (λhHeld=> ?_);refine TS 0 rfl hHeld ?_;simp only[zP,zA,zB,zC];refine TS 1 rfl hHeld ?_;simp only[zP,zA,zB,zC];refine TS 2 rfl hHeld ?_;simp only[zP,zA,zB,zC];refine TS 3 rfl hHeld ?_;simp only[zP,zA,zB,zC];refine TS 4 rfl hHeld ?_;simp only[zP,zA,zB,zC];refine TS 5 rfl hHeld ?_;simp only[zP,zA,zB,zC];refine TS 6 rfl hHeld ?_;simp only[zP,zA,zB,zC];refine TS 7 rfl hHeld ?_;simp only[zP,zA,zB,zC];refine TS 8 rfl hHeld ?_;simp only[zP,zA,zB,zC];refine TS 9 rfl hHeld ?_;simp only[zP,zA,zB,zC];refine TS 10 rfl hHeld ?_;simp only[zP,zA,zB,zC];refine TS 11 rfl hHeld ?_;simp only[zP,zA,zB,zC];refine TS 12 rfl hHeld ?_;simp only[zP,zA,zB,zC];refine TS 13 rfl hHeld ?_;simp only[zP,zA,zB,zC];refine TS 14 rfl hHeld ?_;simp only[zP,zA,zB,zC];refine RQ 15 rfl λK hK=> ?_
     refine step_drop rfl (.tmp 134) (.tmp 141) rfl y.dst.l q Fz cp aNK oz bt (aMh.out _ aHh) (by go_simp) _ rfl (cp-(q+1)) (by go_simp) ?_;rintro v W18 ⟨sd,rfl,Qc,hs1,Pb,QM,aNM,hs4⟩;have Hsl:=lz Qc;clear Qc;have aIn:BD Vl.heap.size Vl W18:=aHh.grown aNM aHh.size (λj e=>by cases e);have hHeld:=(aIn.cell (p:=⟨b2,k*7+6,Ag⟩) aNH).trans HHv.out;refine hK.out _ _ (λ_=>hHeld) ?_;clear hK;refine RQ 16 rfl λK hK=> ?_
     go_simp;refine hK.out _ _ (λ_=>hHeld) ?_;clear hK;refine RQ 17 rfl λK hK=> ?_
     go_simp;refine hK.out _ _ (λ_=>hHeld) ?_;clear hK;have hfz:W18.frozen? ⟨b2,k*7+6,Ag⟩=false:=by
      obtain⟨aE3,-⟩:=H17.out;have h:W18.ownsRow wr.heap.size 44 7 (.slice x'.aF.a x'.aF.l.length x'.aF.c) x'.aF.l.length (x'.aF.l.flatMap fU.cells):=aE3.below aIn (aDT 44 7 fU.cells x'.aF) (by simp[ay.fq]);rw[HL.out.2.2.2.1]at h;exact h.frozenAt _
     refine RQ 18 rfl λK hK=> ?_
     go_simp;refine hK.out _ _ (λh=>absurd h dz) ?_;clear hK;refine aL kz ?_ _;clear hfz;generalize (if cp=q+1 then Ai (⟨bt,0,Ag⟩:Addr)else Ai ⟨bt,(q+1)*3,Ag⟩)=A52;obtain⟨VJ,aL5⟩:=ez (W18.setCell ⟨b2,k*7+6,Ag⟩ sd.val);rw[<-aL5];obtain⟨aE3,q17,aIm,her,hrv,hrt⟩:=H17.out;obtain⟨hlen,hye,hyd,aHT,hta,hy'⟩:=HL.out;have WH:k<x'.aF.l.length:=by rw[hlen];exact hk
     obtain⟨z,hz⟩:∃z:ay,z={x' with aF:=⟨x'.aF.a,x'.aF.c,x'.aF.l.set k {x'.aF.l[k]with dst:=sd}⟩}:=⟨_,rfl⟩;have Sw:b2≠bt:=λe=>Db hrt hrv dz bt (by rw[hta];rfl) (by rw[aHT,e];rfl)
     have aNN:=hrv.lt b2 (by rw[aHT];rfl);have aNy:y0.heap.size<=b2:=nT aGP.out.size aNN.1;have Ec:gd≠b2:=by
      have h1:=H15.out.size;have h2:=aNN.1;omega
     have hzr:z.rd VJ VJ.heap.size:=by
      rw[hz,aL5];refine aMt her (kX.out wr aGP.out).1 aE3 aIn WH aHT sd hs1 Pb QM (λo f e=> ?_);rcases hs4 _ _ _ e with h | h
      .exact Sw h
      .have h:Vl.heap.size<=b2:=h
       omega
     have aNO:BD y0.heap.size y0 VJ:=by
      rw[aL5];exact(aIm.trans (aIn.mono aIm.size)).setCell (p:=⟨b2,k*7+6,Ag⟩) aNy _
     have tO:ah VJ gd 31 z.arr:=by
      have h:=Gr.blk (X:=(· =b2)) (Gr.setCell W18 ⟨b2,k*7+6,Ag⟩ sd.val rfl) (q17.below aIn q17.lt) Ec;rw[<-aL5]at h;rw[hz];simpa [ay.arr]using h
     have hzs:sd.l=x.aF.l[k].dst.l.eraseIdx q:=by rw[Hsl.out,Hy.out]
     obtain⟨hcz,hkz,hbz,hsz,hdz⟩:=aMu her Hc.out hk WH net sd q hzs (by rw[Hsl.out,List.length_eraseIdx];split<;>omega) _ _ z hz;have hzx:∀r∈z.causes.l,r.x.n<=8796093021952:=by have h:=aH6 her Hx.out;rw[hz];exact h
     have aH8:=lz aNO;have Hrz:Hid (∀W,BD VJ.heap.size VJ W->Calls pG 13 #[z.val,.int .i64 (k:Int),.int .i64 net] W λe w'=>aGO (dW x net x.aF.l[k]) (dX x x.aF.l[k]) (bV z z.aF.l[k]) W e w'/\BD W.heap.size W w'):=lz λW hW=>by
      have h:=qL z k net W (hzr.below hW) (kX.out W (aH8.out.trans (hW.mono aH8.out.size))).2.1 hzx hcz hkz qw NI;rw[hbz,hsz]at h;exact h
     have Hzc:Hid (∀W,BD VJ.heap.size VJ W->W.cell? ⟨gd,0,Ag⟩=Ai (.slice z.mods.a z.mods.l.length z.mods.c)/\W.cell? ⟨gd,1,Ag⟩=Ai (.slice z.aj.a z.aj.l.length z.aj.c)/\W.cell? ⟨gd,2,Ag⟩=Ai (.slice z.aP.a z.aP.l.length z.aP.c)/\W.cell? ⟨gd,3,Ag⟩=Ai (.slice z.links.a z.links.l.length z.links.c)/\W.cell? ⟨gd,4,Ag⟩=Ai (.slice z.aF.a z.aF.l.length z.aF.c)/\W.cell? ⟨gd,5,Ag⟩=Ai (.slice z.bQ.a z.bQ.l.length z.bQ.c)/\W.cell? ⟨gd,6,Ag⟩=Ai (.slice z.causes.a z.causes.l.length z.causes.c)/\W.cell? ⟨gd,7,Ag⟩=Ai (.slice z.aA.a z.aA.l.length z.aA.c)):=lz λW hW=>by
      have h:=tO.below hW tO.lt;exact⟨h.cell 0,h.cell 1,h.cell 2,h.cell 3,h.cell 4,h.cell 5,h.cell 6,h.cell 7⟩
     generalize hD:bV z z.aF.l[k]=D at *;clear hD aE3 q17 aIm her hrv hrt hlen hye hyd aHT hta hy' hz hzr aNO tO hzs hcz hkz hbz hsz hzx aL5 hHeld hs1 Pb QM hs4 aNM Hsl aIn aHh aMh H17 HL aNJ aNr Xy HHv Hv6;obtain⟨c0,c1,c2,c3,c4,c5,c6,c7⟩:=gW.out VJ aH8.out;go_wp2_with fail;clear c0 c1 c2 c3 c4 c5 c6 c7;refine(qL x k net VJ (kX.out VJ aH8.out).1 (kX.out VJ aH8.out).2.1 Hx.out Hc.out hk qw NI).mono ?_;rintro e W20 ⟨hP,aMa⟩;have H20:=lz aMa;have aMb:=lz (aH8.out.trans (aMa.mono aH8.out.size));by_cases rG:∃m∈bV x x.aF.l[k],(dW x net x.aF.l[k]).at m<0
     .obtain rfl:=hP.2 rG
      clear hP rG aMa;obtain⟨z0,z1,z2,z3,z4,z5,z6,z7⟩:=Hzc.out W20 H20.out;go_wp2_with fail;clear z0 z1 z2 z3 z4 z5 z6 z7;refine(Hrz.out W20 H20.out).mono ?_;rintro e W21 ⟨hQ,aIt⟩;obtain⟨A2,n2,c2,er2,rfl⟩:=hQ.any;have aNP:=lz (aMb.out.trans (aIt.mono aMb.out.size));clear hQ aIt;go_wp2;go_ret;exact⟨rfl,(kX.out W21 aNP.out).2.2⟩
     have aJ:∀m∈bV x x.aF.l[k],0<=(dW x net x.aF.l[k]).at m:=λm hm=>by
      have h:¬((dW x net x.aF.l[k]).at m<0):=λh=>rG ⟨m,hm,h⟩
      omega
     obtain⟨A1,c1',R,rfl,hp,ho,aNL,aNR,aMi⟩:=hP.1 aJ;have cD:=jw Hc.out net (CS hk);have Fw:=CR cD.inv (bV x x.aF.l[k]) aJ;have HR:=lz (jk.Ky Fw hp ho);have HrR:=lz (gV aMi);have Co:=lz aJ;have Hdz:=lz hdz;have dU:=lz cD;clear rG hP hp ho aMi Fw aJ hdz cD aMa;obtain⟨z0,z1,z2,z3,z4,z5,z6,z7⟩:=Hzc.out W20 H20.out;go_wp2_with fail;clear z0 z1 z2 z3 z4 z5 z6 z7;refine(Hrz.out W20 H20.out).mono ?_;rintro e W21 ⟨hQ,aIt⟩;obtain⟨A2,c2',T,rfl,zO,ho2,-,-,aMj⟩:=hQ.1 λm hm=>Co.out m (Hdz.out m hm)
     have aNQ:=CR dU.out.inv D λm hm=>Co.out m (Hdz.out m hm)
     have aN0:=route_fewer HR.out (jk.Ky aNQ zO ho2) Hdz.out;obtain⟨sy,hle⟩:=aN0;have VT:=lz sy;have HrS:=lz (gV aMj);have aO7:=lz (HrR.out.below aIt);have aNP:=lz (aMb.out.trans (aIt.mono aMb.out.size));have hRl:R.length<=9223372036854775807:=nT aNL aNR;have aQB:(T.length:Int)<=(R.length:Int):=by omega
     clear hQ zO ho2 aMj aNQ sy aIt HR HrR Co Hdz dU;go_wp2;go_loopw [163] (λt wr=>∃i:Nat,i<=T.length/\t= .int .i64 i/\BD W21.heap.size W21 wr) (λt wr=>T.length-(E8 t).toNat)
     case atStart=>exact⟨0,nZ,rfl,BK _ _⟩
     case round=>
      obtain⟨i,hi,rfl,hB⟩:=hrel;by_cases hlt:i<T.length
      .have hii:(i:Int)<(T.length:Int):=by omega
       obtain⟨b1,o1,hA1,aU,hc1⟩:=(HrS.out.below hB) oz;obtain⟨d0,d1,d2⟩:=hc1 i hlt;obtain⟨a,ha⟩:=ez (T[i]);have Ham:=lz (show a∈R by rw[ha];exact VT.out _ (CS hlt));rw[<-ha]at d0 d1 d2;obtain⟨wb,hwb⟩:=ez (wr.alloc (.cells #[.int .i64 a.f,.int .i64 a.t,.int .i64 a.l] 53));have DH:ah wb wr.heap.size 53 #[.int .i64 a.f,.int .i64 a.t,.int .i64 a.l]:=by rw[hwb];exact ah.new _ _ _
       have hBb:BD W21.heap.size W21 wb:=by rw[hwb];exact hB.alloc hB.size _
       have Hwb:=lz hwb;have Hbk:=lz DH;have HBb:=lz hBb;rw[hA1];clear hc1 ha hwb DH hBb hB hA1;go_wp2_with fail;rw[<-Hwb.out];go_loopw [25,169] (λfd t wq=>∃j:Nat,j<=R.length/\t= .int .i64 j/\fd= .bool (decide (a∈R.take j))/\BD wb.heap.size wb wq) (λ_ t wq=>R.length-(E8 t).toNat)
       case atStart=>exact⟨0,nZ,rfl,qz,BK _ _⟩
       case round=>
        obtain⟨j,hj,rfl,rfl,hBq⟩:=hrel;have pq:=HBb.out.trans (hBq.mono HBb.out.size);by_cases hjl:j<R.length
        .have CA:(j:Int)<(R.length:Int):=by omega
         obtain⟨b3,o3,hA3,kq,hc3⟩:=(aO7.out.below pq) oz;obtain⟨e0,e1,e2⟩:=hc3 j hjl;obtain⟨b,NC⟩:=ez (R[j]);have WY:R.take (j+1)=R.take j++ [b]:=by rw[NC];exact List.take_succ_eq_append_getElem hjl
         rw[<-NC]at e0 e1 e2;have hka:=(Hbk.out.below hBq Hbk.out.lt).alloc (.cells #[.int .i64 b.f,.int .i64 b.t,.int .i64 b.l] 53);have k0:=hka.cell 0;have k1:=hka.cell 1;have k2:=hka.cell 2;have hq:=λW=>aIG a b W
         have hg:=λx y W=>aEE a b x y W
         have pE:decide (a∈R.take (j+1))=(decide (a∈R.take j)||decide (a=b)):=by rw[WY];simp
         generalize decide (a=b)=ab at hq pE;generalize decide (a∈R.take j)=fd at *;have tT:=lz (hBq.alloc hBq.size (.cells #[.int .i64 b.f,.int .i64 b.t,.int .i64 b.l] 53));have HBq:=lz hBq;have lg:=lz pE;rw[hA3];clear hc3 NC WY hka pq hBq pE hA3
         cases fd
         .go_wp2_with fail
          go_roundw
          case rel=>exact⟨j+1,oz,by go_num,by rw[lg.out];rfl,tT.out⟩
          case measure=>simp[E8];omega
         .go_wp2_with fail
          go_roundw
          case rel=>exact⟨j+1,oz,by go_num,by rw[lg.out];rfl,tT.out⟩
          case measure=>simp[E8];omega
        .obtain rfl:j=R.length:=by omega
         have hft:decide (a∈R.take R.length)=true:=by rw[List.take_length];exact dT Ham.out
         have eF:=lz pq;rw[hft];clear hft pq hBq;go_wp2;go_roundw
         case rel=>exact⟨i+1,oz,by go_num,eF.out⟩
         case measure=>simp[E8];omega
      .have hie:i=T.length:=by omega
       have hii:((i:Int)<(T.length:Int))=False:=eq_false oz;have hle3:((T.length:Int)<=(R.length:Int))=True:=eq_true aQB;have aNS:=lz (aNP.out.trans (hB.mono aNP.out.size));clear hB aQB;go_wp2;go_ret;exact⟨rfl,(kX.out wr aNS.out).2.2⟩
