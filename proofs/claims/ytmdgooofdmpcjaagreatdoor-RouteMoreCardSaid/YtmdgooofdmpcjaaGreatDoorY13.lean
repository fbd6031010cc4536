import Derived.Lib.ItoaLen
import Derived.Test.YtmdgooofdmpcjaaGreatDoorY12
set_option maxRecDepth 100000
set_option maxHeartbeats 8000000
set_option linter.unusedSimpArgs false
set_option linter.unusedVariables false
set_option linter.unusedSectionVars false
open Go.Proofs.Tryz renaming prog → pG
open Array renaming getElem?_eq_none->GX,getElem?_setIfInBounds_ne->Dm,replicate->G5
open Bool renaming false->Bj,true->BR
open List renaming all_eq_true->EL,getElem_mem->CS,length_cons->Ia,mem_append->E2,mem_map->GR,range->EO
open Nat renaming lt_or_ge->Ii
open Option renaming none->Ag,some->Ai,some->ES
open Go.Proofs.Tryz
namespace Go.Proofs.YtmdgooofdmpcjaaGreatDoor
open Go renaming Calls->ET,Value->Bn,World->Al,callFunc->EZ,undef->BA
open Go.Proofs renaming enters_of->Df
open Instr renaming lookup->E4,mapEntry->Lf
open Region renaming wanted->G6
open RowKit renaming Below->BD,intOf->E8
open RowKit.Below renaming refl->BK
open Value renaming string->GI
open World renaming block_lt_of_cell?->G4,size_alloc->Dj
section
open Go.ChangeShapes Go.WideShapes Go.ChangeAt Go.RowKit
attribute [local go_sem] Oper.semAt_some
open Go.Act renaming put → zP
open List renaming setIfInBounds_toArray → zA, set_cons_zero → zB, set_cons_succ → zC
def oN(x:ay)(q:aM)(m:Int)(vl:Bool)(used:List bw)(r:bw):Option (List bw):=
 if (fD x r).2<0 then Ag else if (fD x r).1.out=BR then Ag else if¬(fD x r).1.kd=q.kd then Ag else if¬(fD x r).1.sz=q.sz then Ag
 else if¬(!((fD x r).2==m))=vl then Ag else if fP r used=BR then Ag else Ai (used++ [r])
def jl(x:ay)(q:aM)(m:Int)(vl:Bool):List bw->List bw->Option (List bw)
 | [],used=>Ai used
 | r :: t,used=>(oN x q m vl used r).bind (jl x q m vl t)
def lu(x:ay)(used:List bw)(y:dZ):Option (List bw):=
 if (fD x y.src).2<0 then Ag else if (fD x y.src).1.out=Bj then Ag else if fP y.src used=BR then Ag
 else jl x (fD x y.src).1 (fD x y.src).2 y.vl y.dst.l (used++ [y.src])
def jq(x:ay):List dZ->List bw->Option (List bw)
 | [],used=>Ai used
 | y :: t,used=>(lu x used y).bind (jq x t)
def oO(x:ay):Bool:=(jq x (gi x) []).isSome
theorem vR(x:ay)(q:aM)(m:Int)(vl:Bool)(r:bw):∀(l:List bw) (u:List bw),jl x q m vl (l++ [r]) u=(jl x q m vl l u).bind λv=>oN x q m vl v r
 | [],u=>by
  show(oN x q m vl u r).bind (jl x q m vl [])=oN x q m vl u r
  cases oN x q m vl u r<;>rfl
 | z :: t,u=>by
  show(oN x q m vl u z).bind (jl x q m vl (t++ [r]))=((oN x q m vl u z).bind (jl x q m vl t)).bind λv=>oN x q m vl v r
  cases oN x q m vl u z with
  | none=>rfl
  | some v=>exact vR x q m vl r t v
theorem QD{x:ay}{q:aM}{m:Int}{vl:Bool}{l:List bw}{u:List bw}{k:Nat}(hk:k<=l.length)(h:jl x q m vl (l.take k) u=Ag):jl x q m vl l u=none:=by
 obtain⟨d,hd⟩:=ez (l.length-k)
 induction d generalizing k with
 | zero=>rwa[List.take_of_length_le oz]at h
 | succ d ih=>
  refine ih (k:=k+1) oz ?_ oz;rw[tZ oz,vR,h];rfl
theorem vS(x:ay)(y:dZ):∀(l:List dZ) (u:List bw),jq x (l++ [y]) u=(jq x l u).bind λv=>lu x v y
 | [],u=>by
  show(lu x u y).bind (jq x [])=lu x u y
  cases lu x u y<;>rfl
 | z :: t,u=>by
  show(lu x u z).bind (jq x (t++ [y]))=((lu x u z).bind (jq x t)).bind λv=>lu x v y
  cases lu x u z with
  | none=>rfl
  | some v=>exact vS x y t v
theorem Ux(x:ay){T:List dZ}(xs:List dZ)(h:T <+: xs)(hn:jq x T []=Ag):jq x xs []=none:=by
 obtain⟨t,rfl⟩:=h;have:∀(l:List dZ) (u:List bw),jq x l u=Ag->jq x (l++t) u=none:=by
  intro l
  induction l with
  | nil=>intro u h;cases h
  | cons z r ih=>
   intro u h;have h:(lu x u z).bind (jq x r)=none:=h;show(lu x u z).bind (jq x (r++t))=Ag
   cases hz:lu x u z with
   | none=>rfl
   | some v=>rw[hz]at h;exact ih v h
 exact this T [] hn
def Eh(x:ay)(T:List dZ)(o:Option (List bw)):Prop:=jq x T []=o
theorem aBy{x:ay}{w:Al}{B:Nat}(h:x.rd w B){y:dZ}(hy:y∈gi x):jo w B y.dst.a y.dst.l:=by
 unfold gi at hy;rcases E2.1 hy with hy | hy
 .obtain⟨z,hz,rfl⟩:=GR.1 hy
  obtain⟨i,hi,rfl⟩:=List.mem_iff_getElem.1 hz;obtain⟨b,o,_,_,hc⟩:=h.aj oz;exact(hc i hi).2.2.2.2.dst
 .obtain⟨z,hz,rfl⟩:=GR.1 hy
  obtain⟨i,hi,rfl⟩:=List.mem_iff_getElem.1 hz;obtain⟨b,o,_,_,hc⟩:=h.aF oz;exact(hc i hi).2.2.2.2.2.2.2.dst
structure aJL(x:ay):Prop where
 n:(gi x).length<=1000
 r:∀y∈gi x,y.src.ok/\y.dst.l.length<=1000/\∀r∈y.dst.l,r.ok
theorem XM{x:ay}{q:aM}{m:Int}{vl:Bool}{u v:List bw}{r:bw}(h:oN x q m vl u r=Ai v):v.length<=u.length+1:=by
 unfold oN at h;repeat (split at h;·cases h)
 injection h with h
 subst h;simp
theorem zS{x:ay}{q:aM}{m:Int}{vl:Bool}:∀{l u v:List bw},jl x q m vl l u=Ai v->v.length<=u.length+l.length
 | [],u,v,h=>by injection h with h;subst h;simp
 | r :: t,u,v,h=>by
  have h:(oN x q m vl u r).bind (jl x q m vl t)=Ai v:=h
  cases hz:oN x q m vl u r with
  | none=>rw[hz]at h;cases h
  | some z=>
   rw[hz]at h;have h1:=zS (l:=t) (u:=z) h;have h2:=XM hz;simp only[Ia];omega
theorem aBz(x:ay)(g:Nat)(w:Al)(h:tU w g x)(hr:x.rd w w.heap.size)(Fw:aJL x):CU 28 #[.pointer (Ai ⟨g,0,Ag⟩)] w (.bool (oO x)):=by
 obtain⟨w1,cN⟩:=ez ((((((w.alloc (.cells #[.pointer (Ai ⟨g,0,Ag⟩)] 92)).alloc (.cells #[.bool Bj] 4)).alloc (.map #[] 0)).alloc (.cells #[.map (Ai (w.heap.size+1+1))] 175)).alloc (.cells #[.pointer (Ai ⟨g,0,Ag⟩)] 92)));have aU:BD w.heap.size w w1:=by rw[cN];exact(((((bN).alloc qz _).alloc qo _).alloc qo _).alloc qo _)
 have DH:ah w1 (w.heap.size) 92 #[.pointer (Ai ⟨g,0,Ag⟩)]:=by
  rw[cN];have:=ah.new w 92 #[.pointer (Ai ⟨g,0,Ag⟩)];try simp only[Dj]at this
  exact((((this).alloc _).alloc _).alloc _).alloc _
 have jy:ah w1 (w.heap.size+1) 4 #[.bool Bj]:=by
  rw[cN];have:=ah.new (w.alloc (.cells #[.pointer (Ai ⟨g,0,Ag⟩)] 92)) 4 #[.bool Bj];try simp only[Dj]at this
  exact(((this).alloc _).alloc _).alloc _
 have hbu:ah w1 (w.heap.size+1+1+1) 175 #[.map (Ai (w.heap.size+1+1))]:=by
  rw[cN];have:=ah.new (((w.alloc (.cells #[.pointer (Ai ⟨g,0,Ag⟩)] 92)).alloc (.cells #[.bool Bj] 4)).alloc (.map #[] 0)) 175 #[.map (Ai (w.heap.size+1+1))];try simp only[Dj]at this
  exact(this).alloc _
 have gP:ah w1 (w.heap.size+1+1+1+1) 92 #[.pointer (Ai ⟨g,0,Ag⟩)]:=by
  rw[cN];have:=ah.new ((((w.alloc (.cells #[.pointer (Ai ⟨g,0,Ag⟩)] 92)).alloc (.cells #[.bool Bj] 4)).alloc (.map #[] 0)).alloc (.cells #[.map (Ai (w.heap.size+1+1))] 175)) 92 #[.pointer (Ai ⟨g,0,Ag⟩)];try simp only[Dj]at this
  exact this
 have aJM:aH KF w1 (w.heap.size+1+1) []:=by
  rw[cN];have:=aH.made (M:=KF) ((w.alloc (.cells #[.pointer (Ai ⟨g,0,Ag⟩)] 92)).alloc (.cells #[.bool Bj] 4));simp only[Dj]at this;exact(this.alloc _).alloc _
 have hz:w1.heap.size=w.heap.size+5:=by rw[cN];simp
 have gH:D6 w1 g (w.heap.size+1+1+1+1) w.heap.size x:=⟨gP,h.below aU,hr.dn nL (cZ aU),oz⟩;have wu:=ah.lt h;have um:=lz (WI x g (w.heap.size+1+1+1+1) w.heap.size (λk=>k=w.heap.size+1+1) w1 (λk e=>by subst e;exact⟨oz,oz,oz⟩) gH (nT hr.DZ (nT hr.D1 dz)) (nT hr.T9 (nT hr.Ua dz)));have Mk:=lz gH;have lH:=lz cN;have gh:=lz aU;have rT:=lz jy;have Hbk:=lz DH;have Hbu:=lz hbu;have aOV:=lz aJM;have Hz:=lz hz;have Hok:=lz Fw;have hmk:= @run_makeMap pG;have c00:((((w.alloc (.cells #[.pointer (Ai ⟨g,0,Ag⟩)] 92)).alloc (.cells #[.bool Bj] 4)).alloc (.map #[] 0)).alloc (.cells #[.map (Ai (w.heap.size+1+1))] 175)).cell? ⟨w.heap.size,0,Ag⟩=Ai (.pointer (Ai ⟨g,0,Ag⟩)):=((((ah.new w 92 #[.pointer (Ai ⟨g,0,Ag⟩)]).alloc _).alloc _).alloc _).cell 0;clear h hr cN aU jy gP hz gH Fw DH hbu aJM;refine(callsIn_wide (n:=9)).1 ?_;refine callsIn_of_wp_marks func28 rfl trivial ?_ rfl;simp only[ntmps28,List.size_toArray,Ia,List.length_nil,Nat.reduceAdd,Nat.reduceSub,Array.replicate_succ,Array.replicate_zero,List.push_toArray,List.append_toArray,List.nil_append,List.cons_append];refine wpIn_wide.2 ?_;go_wp2_with (go_at_call 65;refine(Sr _ _).mono ?_;rintro e w' ⟨rfl,hw'⟩);rw[<-lH.out];clear hw' c00;refine(wpIn_wide (n:=9)).1 ?_;have hz1:w.heap.size+5<=w1.heap.size:=Nat.le_of_eq Hz.out.symm;have Xm:w1.heap.size<=w.heap.size+5:=Nat.le_of_eq Hz.out;refine tQ (gf:=143) (lb:= #[.pointer (Ai ⟨w.heap.size+1+1+1+1,0,Ag⟩)]) (encs:=dZ.enc) (xs:=gi x) (X:=λk=>k=w.heap.size+1+1) (XE:=λk=>k=w.heap.size+1+1\/k=w.heap.size+1) rfl (Df func143 kz rfl) (λ_=>rfl) (λk e=>by omega) (λk e=>by omega) um.out
  (λT W=>∃used,Eh x T (Ai used)/\used.length<=1001*T.length/\aH KF W (w.heap.size+1+1) used/\Gr (λk=>k=w.heap.size+1+1) w1 W)
  (λT W=>ah W (w.heap.size+1) 4 #[.bool Bj]/\BD w.heap.size w W/\Eh x T Ag) ?hI ?RU ?TG
  (λy a' W=>∃Bc,w1.heap.size<=Bc/\ah W Bc 149 #[.string y.src.m,.string y.src.p,.string y.src.o,.slice y.dst.a y.dst.l.length y.dst.c,.bool y.vl]/\a'={tmps:= #[.pointer (Ai ⟨g,0,Ag⟩),.pointer (Ai ⟨w.heap.size,0,Ag⟩),.pointer (Ai ⟨w.heap.size+1,0,Ag⟩),.pointer (Ai ⟨w.heap.size+1+1+1,0,Ag⟩),.pointer (Ai ⟨Bc,0,Ag⟩),BA,BA,BA,BA,BA,BA,.map (Ai (w.heap.size+1+1)),.pointer (Ai ⟨g,0,Ag⟩),.func (.func 143) #[] #[.pointer (Ai ⟨w.heap.size+1+1+1+1,0,Ag⟩)],y.val,BA,BA,BA,BA,BA,BA,BA,BA,BA,BA,BA,BA,BA,BA,BA,BA,BA,BA,BA,BA,BA,BA,BA,BA,BA,BA,BA,BA,BA,BA,BA,BA,BA,BA,BA,BA,BA,BA,BA,BA,BA,BA,BA,BA,BA,BA,BA,BA,BA,BA,BA,BA,BA,BA,BA,BA,BA,BA,BA,BA,BA,BA,BA,BA,BA,BA,BA,BA,BA,BA,BA,BA,BA,BA,BA,BA,BA,BA,BA,BA,BA,BA],defers:= []}) ?Kf ?assign ?body ?done ?ret
 case hI=>
  rintro T W W' ⟨used,h1,h2,h3,h4⟩ hb;exact⟨used,h1,h2,h3.below hb oz,XC h4 hb⟩
 case RU=>exact λT W W' h hb=>⟨ah.below h.1 hb oz,h.2.1.trans (hb.mono oz),h.2.2⟩
 case TG=>exact⟨[],rfl,qz,aOV.out,Gr.refl _ _⟩
 case Kf=>
  rintro y l a' W o o' hl ho hc ⟨Bc,h1,h3,h5⟩;exact⟨Bc,h1,mW h3 ho hc,h5⟩
 case assign=>
  intro l T y W K hT hsz hK;gi_wp2;exact hK _ _ (bN) ⟨W.heap.size,oz,ah.new W _ _,rfl⟩
 case ret=>
  rintro D T W3 hD hs hT ⟨h1,h2,h3⟩ hk;have HF:=lz (show oO x=Bj by unfold oO;rw[Ux x _ hT h3];rfl);have KJ:D<W3.heap.size:=(gE hk).1;refine bP [D] W3 D qz (λE hE=>by simp at hE;subst hE;exact⟨nL,hk⟩) λW' j5=> ?_
  have z0:=(ah.below h1 j5.below oz).cell 0;exact⟨.bool Bj,by simp[results,f28,go_sem,z0],by rw[HF.out],h2.trans (j5.below.mono oz)⟩
 case done=>
  rintro D W hD hs ⟨used,h1,h2,h3,hgr⟩ hk;have HF:=lz (show oO x=BR by unfold oO;rw[show jq x (gi x) []=Ai used from h1];rfl);have iY:=hgr.blk rT.out oz;have HB:Hid (BD w.heap.size w W):=lz (⟨hgr.os.trans gh.out.os,hgr.tape.trans gh.out.tape,hgr.output.trans gh.out.output,nT gh.out.size hgr.size,λk hk=>(hgr.block k oz oz).trans (gh.out.block k hk)⟩);have r0:=iY.cell 0;have f0:=iY.frozen 0;have HR:=lz iY;have Hk:=lz hk;clear h1 h2 h3 hgr iY hk;go_wp2_with fail;refine vO D (w.heap.size+1) w.heap.size BR Bj w W HR.out Hk.out oz HB.out oz (λW' z0=>by simp[results,f28,go_sem,z0]) (λW' hB=>⟨by rw[HF.out]<;>rfl,hB⟩)
 case body=>
  rintro l T ⟨src,dst,vl⟩ a' W hT hsz hG ⟨used,hu,hul,Pk,hgr⟩ ⟨Bc,aU6,yh,rfl⟩;dsimp only at yh;have iU:=CW hT;obtain⟨aFO,I6,aFP⟩:=Hok.out.r _ iU;dsimp only at aFO I6 aFP;have XO:T.length<=1000:=by
   have h1:=hT.length_le;have h2:=Hok.out.n;simp at h1;omega
  have hu1:used.length<=1001000:=nT hul oz;have HUL:=lz hul;have hF:∀W',Gr (λk=>k=w.heap.size+1+1) W W'->ah W' w.heap.size 92 #[.pointer (Ai ⟨g,0,Ag⟩)]/\tU W' g x/\x.rd W' W'.heap.size/\ah W' (w.heap.size+1) 4 #[.bool Bj]/\ah W' (w.heap.size+1+1+1) 175 #[.map (Ai (w.heap.size+1+1))]/\ah W' Bc 149 #[.string src.m,.string src.p,.string src.o,.slice dst.a dst.l.length dst.c,.bool vl]/\jo W' W'.heap.size dst.a dst.l:=λW' hW=>by
   have h1:=hgr.trans hW;have hc:=Mk.out.gr (X:=λk=>k=w.heap.size+1+1) (λk e=>by subst e;exact⟨oz,oz,oz⟩) h1;exact⟨h1.blk Hbk.out oz,hc.g,hc.r.more hc.B,h1.blk rT.out oz,h1.blk Hbu.out oz,hW.blk yh oz,(aBy hc.r iU).more hc.B⟩
  have yg:∀W',Gr (λk=>k=w.heap.size+1+1) W W'->lu x used ⟨src,dst,vl⟩=Ag->(Gr (λk=>k=w.heap.size+1+1\/k=w.heap.size+1) W (W'.setCell ⟨w.heap.size+1,0,Ag⟩ (.bool Bj))/\ah (W'.setCell ⟨w.heap.size+1,0,Ag⟩ (.bool Bj)) (w.heap.size+1) 4 #[.bool Bj]/\BD w.heap.size w (W'.setCell ⟨w.heap.size+1,0,Ag⟩ (.bool Bj))/\Eh x (T++ [⟨src,dst,vl⟩]) Ag)/\W'.cell? ⟨w.heap.size+1,0,Ag⟩=Ai (.bool Bj)/\W'.frozen? ⟨w.heap.size+1,0,Ag⟩=false:=λW' hW hn=>by
   have h4:=(hF W' hW).2.2.2.1;have h1:=hgr.trans hW;have aBp:BD w.heap.size w W':=⟨h1.os.trans gh.out.os,h1.tape.trans gh.out.tape,h1.output.trans gh.out.output,nT gh.out.size h1.size,λk hk=>(h1.block k oz oz).trans (gh.out.block k hk)⟩;refine⟨⟨(hW.mono λk _ e=> .inl e).trans (Gr.setCell W' ⟨w.heap.size+1,0,Ag⟩ _ (.inr rfl)),by simpa using h4.bX 0 (.bool Bj),aBp.setCell (p:=⟨w.heap.size+1,0,Ag⟩) (by show w.heap.size<=w.heap.size+1;omega) _,?_⟩,h4.cell 0,h4.frozen 0⟩;unfold Eh at *;rw[vS,hu];exact hn
  have aDq:∀v,lu x used ⟨src,dst,vl⟩=Ai v->Eh x (T++ [⟨src,dst,vl⟩]) (Ai v):=λv hv=>by
   unfold Eh at *;rw[vS,hu];exact hv
  obtain⟨⟨q,m⟩,hq⟩:∃q,q=fD x src:=⟨_,rfl⟩;have hW0:=hF W (Gr.refl _ _);have KQ:=KR x src g W hW0.2.1 hW0.2.2.1;rw[<-hq]at KQ;have aZ:lu x used ⟨src,dst,vl⟩=if m<0 then Ag else if q.out=Bj then Ag else if fP src used=BR then Ag else jl x q m vl dst.l (used++ [src]):=by
   unfold lu;rw[show fD x (dZ.mk src dst vl).src=(q,m)from hq.symm]
  have c0:=hW0.1.cell 0;have d0:=yh.cell 0;have d1:=yh.cell 1;have d2:=yh.cell 2;have hlc:=yh.lt;have Xy:=lz KQ;have eP:=lz aZ;have HF:=lz hF;have ox:=lz yg;have aJN:=lz aDq;have Hcm:=lz Pk;have Hgr:=lz hgr;have aOW:=lz aFP;have aJO:=lz aFO;clear KQ aZ hF yg aDq Pk hgr aFP aFO hu hW0 hq hG yh iU hT hul;gi_wp2;refine jS Xy.out ?_;rintro e W2 ⟨rfl,dI⟩;dsimp only;obtain⟨W3,Bv⟩:=ez (W2.alloc (.cells #[.string q.nm,.int .u8 q.kd,.bool q.out,.int .i64 q.sz,.int .i64 q.dp,.int .i64 q.rf] 73));have Pn:BD W.heap.size W W3:=by rw[Bv];exact dI.alloc dI.size _
  have hqb:ah W3 W2.heap.size 73 #[.string q.nm,.int .u8 q.kd,.bool q.out,.int .i64 q.sz,.int .i64 q.dp,.int .i64 q.rf]:=by rw[Bv];exact ah.new W2 _ _
  have hg3:Gr (λk=>k=w.heap.size+1+1) W W3:=Gr.ak Pn;have QE:aH KF W3 (w.heap.size+1+1) used:=Hcm.out.next Pn
  have QF:=aJO.out;have hF3:=HF.out W3 hg3;have hkU:=hF3.2.2.2.2.1.cell 0;have Vt:=hF3.2.2.2.2.2.1.cell 0;have Cq:=hF3.2.2.2.2.2.1.cell 1;have rZ:=hF3.2.2.2.2.2.1.cell 2;have Pq:=dI.size;obtain⟨Bf,hBf⟩:=ez W2.heap.size;rw[<-hBf]at hqb Pq;have yY:=lz Bv;have HBf:=lz hBf;have Hqb:=lz hqb;have Hg3:=lz hg3;clear Bv Pn hqb hg3 hF3 dI c0 d0 d1 d2 hBf Xy;obtain⟨v0,stq,W1,W2,hE,hL,hSt,hC2,eG,hcell⟩:=(aH.drew QE).Qq (M:=KF) aFB KF.und (by unfold maxLen;omega) (y:=src) QF;have XL:=vA src used;have hcb:(dR src used:Int)<=9223372036854775806:=by omega
  have hc0:(0:Int)<=(dR src used:Int):=by omega
  have hwr:IntKind.i64.wrap ((dR src used:Int)+1)=(dR src used:Int)+1:=IntWalk.i64_in _ oz;have HSt:=lz (show(Instr.entryStore 175 (.map (Ai (w.heap.size+1+1))) (.int .i64 ((stq:Nat):Int)) (.int .i64 ((dR src used:Int)+1))).run pG W1= .ok () W2 from hSt);have HE:=lz (show(Lf 175 (.map (Ai (w.heap.size+1+1))) (.agg #[.string src.m,.string src.p,.string src.o])).run pG W3.drew= .ok (.tuple #[v0,.int .i64 ((stq:Nat):Int)]) W1 from hE);have hHeld:(λW=>W.cell? ⟨w.heap.size+1+1+1,0,Ag⟩=Ai (.map (Ai (w.heap.size+1+1)))/\W.cell? ⟨Bc,0,Ag⟩=Ai (.string src.m)/\W.cell? ⟨Bc,1,Ag⟩=Ai (.string src.p)/\W.cell? ⟨Bc,2,Ag⟩=Ai (.string src.o)/\(E4 175 (.map (Ai (w.heap.size+1+1))) (.agg #[.string src.m,.string src.p,.string src.o]) Bj).run pG W= .ok (.int .i64 (dR src used)) W) W3.drew:=⟨hkU,Vt,Cq,rZ,(aH.drew QE).iH (M:=KF) (y:=src) QF⟩;have HH1:Hid ((λW=>W.cell? ⟨w.heap.size+1+1+1,0,Ag⟩=Ai (.map (Ai (w.heap.size+1+1)))/\W.cell? ⟨Bc,0,Ag⟩=Ai (.string src.m)/\W.cell? ⟨Bc,1,Ag⟩=Ai (.string src.p)/\W.cell? ⟨Bc,2,Ag⟩=Ai (.string src.o)/\(E4 175 (.map (Ai (w.heap.size+1+1))) (.agg #[.string src.m,.string src.p,.string src.o]) Bj).run pG W= .ok (.int .i64 (dR src used)) W) W1):=lz (⟨(hcell ⟨w.heap.size+1+1+1,0,Ag⟩ (by show¬w.heap.size+1+1+1=w.heap.size+1+1;omega)).trans hkU,(hcell ⟨Bc,0,Ag⟩ (by show¬Bc=w.heap.size+1+1;omega)).trans Vt,(hcell ⟨Bc,1,Ag⟩ (by show¬Bc=w.heap.size+1+1;omega)).trans Cq,(hcell ⟨Bc,2,Ag⟩ (by show¬Bc=w.heap.size+1+1;omega)).trans rZ,hL⟩);have HC2:=lz hC2;have C6:=lz (show Gr (λk=>k=w.heap.size+1+1) W3 W2 from⟨eG.os,eG.tape,eG.output,eG.size,λi hi hne=>eG.block i hi (λe=>hne (ES.inj e))⟩);clear hE hL hSt hC2 eG hcell XL hcb hkU Vt Cq rZ;gi_wp2_with fail;rw[<-yY.out,<-HBf.out];refine nU (λW=>W.cell? ⟨w.heap.size+1+1+1,0,Ag⟩=Ai (.map (Ai (w.heap.size+1+1)))/\W.cell? ⟨Bc,0,Ag⟩=Ai (.string src.m)/\W.cell? ⟨Bc,1,Ag⟩=Ai (.string src.p)/\W.cell? ⟨Bc,2,Ag⟩=Ai (.string src.o)/\(E4 175 (.map (Ai (w.heap.size+1+1))) (.agg #[.string src.m,.string src.p,.string src.o]) Bj).run pG W= .ok (.int .i64 (dR src used)) W) 7 kz kz ?hq hHeld (λhHeld=> ?_)
  case hq=>rintro⟨_,_,h⟩;rcases h with⟨h,-⟩ | ⟨h,-⟩<;>cases h
  refine TS 0 rfl hHeld ?_
  simp only[zP,zA,zB,zC];refine TS 1 rfl hHeld ?_
  simp only[zP,zA,zB,zC];refine TS 2 rfl hHeld ?_
  simp only[zP,zA,zB,zC];refine TS 3 rfl hHeld ?_
  simp only[zP,zA,zB,zC];refine TS 4 rfl hHeld ?_
  simp only[zP,zA,zB,zC];refine RQ 5 rfl λK hK=> ?_;have hfx:=HE.out;go_simp;refine hK.out _ _ (λ_=>HH1.out) ?_;clear hK hfx;have hHeld:=HH1.out;refine TS 6 rfl hHeld ?_
  simp only[zP,zA,zB,zC];refine RQ 7 rfl λK hK=> ?_;have hfx:=HSt.out;go_simp;refine hK.out _ _ (λh=>absurd h dz) ?_;clear hK hfx;clear hHeld HH1 HE HSt hwr hc0;refine aL kz ?_ _;have HGW:=lz (show Gr (λk=>k=w.heap.size+1+1) W W2 from Hg3.out.trans C6.out);have Xg:=HF.out W2 HGW.out;have lS:=C6.out.blk Hqb.out oz;have f2:=lS.cell 2;have u0:=Xg.2.2.2.2.1.cell 0;have d0:=Xg.2.2.2.2.2.1.cell 0;have d1:=Xg.2.2.2.2.2.1.cell 1;have d2:=Xg.2.2.2.2.2.1.cell 2;have d3:=Xg.2.2.2.2.2.1.cell 3;have d4:=Xg.2.2.2.2.2.1.cell 4;have aBw:(E4 175 (.map (Ai (w.heap.size+1+1))) (.agg #[.string src.m,.string src.p,.string src.o]) Bj).run pG W2= .ok (.int .i64 (dR src (used++ [src]))) W2:=HC2.out.iH (M:=KF) (y:=src) aJO.out;have tE:=sP src src used;rw[if_pos rfl]at tE;have og:=JU src used;obtain⟨cn,C5⟩:∃c,c=dR src used:=⟨_,rfl⟩;rw[tE,<-C5]at aBw;rw[<-C5]at og;have lBf:=lS.lt;have lBc:=Xg.2.2.2.2.2.1.lt;clear tE C5 Xg lS QF QE yY HBf;by_cases yc:m<0
  .have e1:decide (m<0)=true:=dT yc
   have hb:=ox.out W2 HGW.out (by rw[eP.out,if_pos yc]);have r0:=hb.2.1;have f0:=hb.2.2;have vN:=lz hb.1;clear hb og;gi_wp2;exact vN.out
  .have e1:decide (m<0)=false:=dF yc
   cases ho:q.out with
   | false=>
    rw[ho]at f2;have hb:=ox.out W2 HGW.out (by rw[eP.out,if_neg yc,if_pos ho]);have r0:=hb.2.1;have f0:=hb.2.2;have vN:=lz hb.1;clear hb og ho;gi_wp2;exact vN.out
   | true=>
    rw[ho]at f2
    cases iU:fP src used with
    | true=>
     rw[iU]at og;have h9:0<cn:=of_decide_eq_true og;have h8:decide (1<cn+1)=true:=dT oz;have hb:=ox.out W2 HGW.out (by rw[eP.out,if_neg yc,if_neg (by rw[ho];decide),if_pos iU]);have r0:=hb.2.1;have f0:=hb.2.2;have vN:=lz hb.1;clear hb og ho iU;gi_wp2;exact vN.out
    | false=>
     rw[iU]at og;have h9:¬0<cn:=of_decide_eq_false og;have h8:decide (1<cn+1)=false:=dF oz;have HD:=lz (show lu x used ⟨src,dst,vl⟩=jl x q m vl dst.l (used++ [src])by rw[eP.out,if_neg yc,if_neg (by rw[ho];decide),if_neg (by rw[iU];decide)]);have aU9:(dst.l.length:Int)<=1000:=by omega
     clear og ho iU eP;gi_wp2;gi_loopw [46] (λt wr=>∃(k:Nat) (u:List bw),k<=dst.l.length/\t= .int .i64 k/\Hid (jl x q m vl (dst.l.take k) (used++ [src])=Ai u)/\aH KF wr (w.heap.size+1+1) u/\Gr (λk=>k=w.heap.size+1+1) W2 wr) (λt wr=>dst.l.length-(E8 t).toNat)
     case atStart=>exact⟨0,used++ [src],nZ,rfl,lz rfl,HC2.out,Gr.refl _ _⟩
     case round=>
      clear f2 u0 d0 d1 d2 d3 d4 aBw;obtain⟨k,u,hk,rfl,Ml,aB0,Xd⟩:=hrel;have HG4:=lz Xd;have hGw:Gr (λk=>k=w.heap.size+1+1) W wr:=HGW.out.trans Xd;have hF4:=HF.out wr hGw;by_cases hlt:k<dst.l.length
      .obtain⟨b',o,hA,mz,Mh⟩:=hF4.2.2.2.2.2.2 oz
       obtain⟨e0,e1,e2⟩:=Mh k hlt;have hrk:=aOW.out _ (CS hlt);have yp:jl x q m vl (dst.l.take (k+1)) (used++ [src])=oN x q m vl u dst.l[k]:=by rw[tZ hlt,vR,Ml.out];rfl
       obtain⟨r,hr⟩:=ez (dst.l[k]);rw[<-hr]at e0 e1 e2 hrk yp;have hul:u.length<=1002001:=by
        have h1:=zS Ml.out;simp at h1;omega
       obtain⟨⟨t,n⟩,ht⟩:∃q,q=fD x r:=⟨_,rfl⟩;have hds:oN x q m vl u r=if n<0 then Ag else if t.out=BR then Ag else if¬t.kd=q.kd then Ag else if¬t.sz=q.sz then Ag else if¬(!(n==m))=vl then Ag else if fP r u=BR then Ag else Ai (u++ [r]):=by
        unfold oN;rw[<-ht]
       have hnone:oN x q m vl u r=Ag->lu x used ⟨src,dst,vl⟩=none:=λh=>by
        rw[HD.out];exact QD (k:=k+1) oz (by rw[yp];exact h)
       have hG5:Gr (λk=>k=w.heap.size+1+1) W (wr.alloc (.cells #[.string r.m,.string r.p,.string r.o] 41)):=hGw.trans (Gr.alloc _ _ _);have hF5:=HF.out _ hG5;have KQ:=KR x r g (wr.alloc (.cells #[.string r.m,.string r.p,.string r.o] 41)) hF5.2.1 hF5.2.2.1;rw[<-ht]at KQ;have c0:=hF4.1.cell 0;have lk0:=hF4.1.lt;have lb0:b'<wr.heap.size:=mz;have i0:(0:Int)<=(k:Int):=by omega
       have i1:(k:Int)<(dst.l.length:Int):=by omega
       have Xy:=lz KQ;have Vz:=lz hds;have HN:=lz hnone;have NM:=lz yp;have FB:=lz hGw;have aJT:=lz aB0;have aJU:=hGw.size;have aOZ:=Xd.size;clear KQ hds hnone yp Mh hF4 hF5 hG5 hGw Ml aB0 ht Xd hr HD;rw[hA]at *;gi_wp2;refine jS Xy.out ?_;rintro e W6 ⟨rfl,rz⟩;dsimp only;obtain⟨Br,CP⟩:=ez wr.heap.size;obtain⟨W7,Cw⟩:=ez (W6.alloc (.cells #[.string t.nm,.int .u8 t.kd,.bool t.out,.int .i64 t.sz,.int .i64 t.dp,.int .i64 t.rf] 73));have Cp:BD wr.heap.size wr (wr.alloc (.cells #[.string r.m,.string r.p,.string r.o] 41)):=bN;have NN:BD wr.heap.size wr W7:=by rw[Cw];exact(Cp.trans (rz.mono Cp.size)).alloc (nT Cp.size rz.size) _
       have iy:ah W7 wr.heap.size 41 #[.string r.m,.string r.p,.string r.o]:=by rw[Cw];exact((ah.new wr 41 #[.string r.m,.string r.p,.string r.o]).below rz qz).alloc _
       have Pa:ah W7 W6.heap.size 73 #[.string t.nm,.int .u8 t.kd,.bool t.out,.int .i64 t.sz,.int .i64 t.dp,.int .i64 t.rf]:=by rw[Cw];exact ah.new W6 _ _
       have hs6:wr.heap.size<W6.heap.size:=by have:=rz.size;simp at this;omega
       obtain⟨Bt,hBt⟩:=ez W6.heap.size;rw[<-hBt]at Pa hs6;have Vv:Gr (λk=>k=w.heap.size+1+1) W W7:=FB.out.trans (Gr.ak NN);have QE:aH KF W7 (w.heap.size+1+1) u:=aJT.out.next NN
       have QF:=hrk;have hF7:=HF.out W7 Vv;rw[<-CP]at iy hs6 ⊢;have aVA:Br<W7.heap.size:=iy.lt;have hkU:=hF7.2.2.2.2.1.cell 0;have Vt:=iy.cell 0;have Cq:=iy.cell 1;have rZ:=iy.cell 2;have Uy:=lz Cw;have HBt:=lz hBt;have Xn:=lz Pa;have XI:=lz iy;have Hg7:=lz Vv;have H4b:=lz (show Gr (λk=>k=w.heap.size+1+1) W2 W7 from HG4.out.trans (Gr.ak NN));have aOb:=lz ((H4b.out.blk (C6.out.blk Hqb.out oz) oz));have aVC:w.heap.size+1+1<Br:=by omega
       clear Cw Cp NN iy Pa Vv hF7 rz hBt CP Xy c0 e0 e1 e2 aJT;obtain⟨v0,stq,W1,W2,hE,hL,hSt,hC2,eG,hcell⟩:=(aH.drew QE).Qq (M:=KF) aFB KF.und (by unfold maxLen;omega) (y:=r) QF;have XL:=vA r u;have hcb:(dR r u:Int)<=9223372036854775806:=by omega
       have hc0:(0:Int)<=(dR r u:Int):=by omega
       have hwr:IntKind.i64.wrap ((dR r u:Int)+1)=(dR r u:Int)+1:=IntWalk.i64_in _ oz;have HSt:=lz (show(Instr.entryStore 175 (.map (Ai (w.heap.size+1+1))) (.int .i64 ((stq:Nat):Int)) (.int .i64 ((dR r u:Int)+1))).run pG W1= .ok () W2 from hSt);have HE:=lz (show(Lf 175 (.map (Ai (w.heap.size+1+1))) (.agg #[.string r.m,.string r.p,.string r.o])).run pG W7.drew= .ok (.tuple #[v0,.int .i64 ((stq:Nat):Int)]) W1 from hE);have hHeld:(λW=>W.cell? ⟨w.heap.size+1+1+1,0,Ag⟩=Ai (.map (Ai (w.heap.size+1+1)))/\W.cell? ⟨Br,0,Ag⟩=Ai (.string r.m)/\W.cell? ⟨Br,1,Ag⟩=Ai (.string r.p)/\W.cell? ⟨Br,2,Ag⟩=Ai (.string r.o)/\(E4 175 (.map (Ai (w.heap.size+1+1))) (.agg #[.string r.m,.string r.p,.string r.o]) Bj).run pG W= .ok (.int .i64 (dR r u)) W) W7.drew:=⟨hkU,Vt,Cq,rZ,(aH.drew QE).iH (M:=KF) (y:=r) QF⟩;have HH1:Hid ((λW=>W.cell? ⟨w.heap.size+1+1+1,0,Ag⟩=Ai (.map (Ai (w.heap.size+1+1)))/\W.cell? ⟨Br,0,Ag⟩=Ai (.string r.m)/\W.cell? ⟨Br,1,Ag⟩=Ai (.string r.p)/\W.cell? ⟨Br,2,Ag⟩=Ai (.string r.o)/\(E4 175 (.map (Ai (w.heap.size+1+1))) (.agg #[.string r.m,.string r.p,.string r.o]) Bj).run pG W= .ok (.int .i64 (dR r u)) W) W1):=lz (⟨(hcell ⟨w.heap.size+1+1+1,0,Ag⟩ (by show¬w.heap.size+1+1+1=w.heap.size+1+1;omega)).trans hkU,(hcell ⟨Br,0,Ag⟩ (by show¬Br=w.heap.size+1+1;omega)).trans Vt,(hcell ⟨Br,1,Ag⟩ (by show¬Br=w.heap.size+1+1;omega)).trans Cq,(hcell ⟨Br,2,Ag⟩ (by show¬Br=w.heap.size+1+1;omega)).trans rZ,hL⟩);have HC2:=lz hC2;have C6:=lz (show Gr (λk=>k=w.heap.size+1+1) W7 W2 from⟨eG.os,eG.tape,eG.output,eG.size,λi hi hne=>eG.block i hi (λe=>hne (ES.inj e))⟩);clear hE hL hSt hC2 eG hcell XL hcb hkU Vt Cq rZ;gi_wp2_with fail;rw[<-Uy.out,<-HBt.out];refine nU (λW=>W.cell? ⟨w.heap.size+1+1+1,0,Ag⟩=Ai (.map (Ai (w.heap.size+1+1)))/\W.cell? ⟨Br,0,Ag⟩=Ai (.string r.m)/\W.cell? ⟨Br,1,Ag⟩=Ai (.string r.p)/\W.cell? ⟨Br,2,Ag⟩=Ai (.string r.o)/\(E4 175 (.map (Ai (w.heap.size+1+1))) (.agg #[.string r.m,.string r.p,.string r.o]) Bj).run pG W= .ok (.int .i64 (dR r u)) W) 6 kz kz ?hq hHeld (λhHeld=> ?_)
       case hq=>rintro⟨_,_,h⟩;rcases h with⟨h,-⟩ | ⟨h,-⟩<;>cases h
       refine TS 0 rfl hHeld ?_
       simp only[zP,zA,zB,zC];refine TS 1 rfl hHeld ?_
       simp only[zP,zA,zB,zC];refine TS 2 rfl hHeld ?_
       simp only[zP,zA,zB,zC];refine TS 3 rfl hHeld ?_
       simp only[zP,zA,zB,zC];refine RQ 4 rfl λK hK=> ?_;have hfx:=HE.out;go_simp;refine hK.out _ _ (λ_=>HH1.out) ?_;clear hK hfx;have hHeld:=HH1.out;refine TS 5 rfl hHeld ?_
       simp only[zP,zA,zB,zC];refine RQ 6 rfl λK hK=> ?_;have hfx:=HSt.out;go_simp;refine hK.out _ _ (λh=>absurd h dz) ?_;clear hK hfx;clear hHeld HH1 HE HSt hwr hc0;refine aL kz ?_ _;have HG9:=lz (show Gr (λk=>k=w.heap.size+1+1) W W2 from Hg7.out.trans C6.out);have aJV:=lz (H4b.out.trans C6.out);have hF9:=HF.out W2 HG9.out;have hq9:=C6.out.blk aOb.out oz;have ht9:=C6.out.blk Xn.out oz;have hr9:=C6.out.blk XI.out oz;have q1:=hq9.cell 1;have q3:=hq9.cell 3;have t1:=ht9.cell 1;have t2:=ht9.cell 2;have t3:=ht9.cell 3;have d4:=hF9.2.2.2.2.2.1.cell 4;have u0:=hF9.2.2.2.2.1.cell 0;have r1:=hr9.cell 0;have r2:=hr9.cell 1;have r3:=hr9.cell 2;have aOe:(E4 175 (.map (Ai (w.heap.size+1+1))) (.agg #[.string r.m,.string r.p,.string r.o]) Bj).run pG W2= .ok (.int .i64 (dR r (u++ [r]))) W2:=HC2.out.iH (M:=KF) (y:=r) hrk;have tE:=sP r r u;rw[if_pos rfl]at tE;have og:=JU r u;obtain⟨cn2,C5⟩:∃c,c=dR r u:=⟨_,rfl⟩;rw[tE,<-C5]at aOe;rw[<-C5]at og;clear tE C5 hF9 hq9 ht9 hr9 QF QE Uy HBt hrk;by_cases qw:n<0
       .have e1:decide (n<0)=true:=dT qw
        have hb:=ox.out W2 HG9.out (HN.out (by rw[Vz.out,if_pos qw]));have r0:=hb.2.1;have f0:=hb.2.2;have vN:=lz hb.1;clear hb og;gi_wp2;exact vN.out
       .have e1:decide (n<0)=false:=dF qw
        cases Mn:t.out with
        | true=>
         rw[Mn]at t2;have hb:=ox.out W2 HG9.out (HN.out (by rw[Vz.out,if_neg qw,if_pos Mn]));have r0:=hb.2.1;have f0:=hb.2.2;have vN:=lz hb.1;clear hb og Mn;gi_wp2;exact vN.out
        | false=>
         rw[Mn]at t2;by_cases QG:t.kd=q.kd;rotate_left
         .have e2:(t.kd==q.kd)=false:=by simpa using QG
          have hb:=ox.out W2 HG9.out (HN.out (by rw[Vz.out,if_neg qw,if_neg (by rw[Mn];decide),if_pos QG]));have r0:=hb.2.1;have f0:=hb.2.2;have vN:=lz hb.1;clear hb og Mn;gi_wp2;exact vN.out
         .have e2:(t.kd==q.kd)=true:=by simpa using QG
          by_cases hsz:t.sz=q.sz;rotate_left
          .have e3:(t.sz==q.sz)=false:=by simpa using hsz
           have hb:=ox.out W2 HG9.out (HN.out (by rw[Vz.out,if_neg qw,if_neg (by rw[Mn];decide),if_neg (λh=>h QG),if_pos hsz]));have r0:=hb.2.1;have f0:=hb.2.2;have vN:=lz hb.1;clear hb og Mn;gi_wp2;exact vN.out
          .have e3:(t.sz==q.sz)=true:=by simpa using hsz
           by_cases hvl:(!(n==m))=vl;rotate_left
           .by_cases uU:n=m
            .have e4:(n==m)=true:=by simpa using uU
             have e5:vl=true:=by rw[e4]at hvl;cases vl<;>simp_all
             subst e5;have hb:=ox.out W2 HG9.out (HN.out (by rw[Vz.out,if_neg qw,if_neg (by rw[Mn];decide),if_neg (λh=>h QG),if_neg (λh=>h hsz),if_pos hvl]));have r0:=hb.2.1;have f0:=hb.2.2;have vN:=lz hb.1;clear hb og Mn hvl;gi_wp2;exact vN.out
            .have e4:(n==m)=false:=by simpa using uU
             have e6:(n !=m)=true:=by simp[bne,e4]
             have e5:vl=false:=by rw[e4]at hvl;cases vl<;>simp_all
             subst e5;have hb:=ox.out W2 HG9.out (HN.out (by rw[Vz.out,if_neg qw,if_neg (by rw[Mn];decide),if_neg (λh=>h QG),if_neg (λh=>h hsz),if_pos hvl]));have r0:=hb.2.1;have f0:=hb.2.2;have vN:=lz hb.1;clear hb og Mn hvl;gi_wp2;exact vN.out
           .have Hvl:=lz hvl
            clear hvl
            cases FC:fP r u with
            | true=>
             rw[FC]at og;have h19:0<cn2:=of_decide_eq_true og;have h18:decide (1<cn2+1)=true:=dT oz;by_cases uU:n=m
             .have e4:(n==m)=true:=by simpa using uU
              have e5:vl=false:=by rw[<-Hvl.out,e4];rfl
              subst e5;have hb:=ox.out W2 HG9.out (HN.out (by rw[Vz.out,if_neg qw,if_neg (by rw[Mn];decide),if_neg (λh=>h QG),if_neg (λh=>h hsz),if_neg (λh=>h Hvl.out),if_pos FC]));have r0:=hb.2.1;have f0:=hb.2.2;have vN:=lz hb.1;clear hb og Mn FC;gi_wp2;exact vN.out
             .have e4:(n==m)=false:=by simpa using uU
              have e6:(n !=m)=true:=by simp[bne,e4]
              have e5:vl=true:=by rw[<-Hvl.out,e4];rfl
              subst e5;have hb:=ox.out W2 HG9.out (HN.out (by rw[Vz.out,if_neg qw,if_neg (by rw[Mn];decide),if_neg (λh=>h QG),if_neg (λh=>h hsz),if_neg (λh=>h Hvl.out),if_pos FC]));have r0:=hb.2.1;have f0:=hb.2.2;have vN:=lz hb.1;clear hb og Mn FC;gi_wp2;exact vN.out
            | false=>
             rw[FC]at og;have h19:¬0<cn2:=of_decide_eq_false og;have h18:decide (1<cn2+1)=false:=dF oz;have Hgo:=lz (show jl x q m vl (dst.l.take (k+1)) (used++ [src])=Ai (u++ [r])by rw[NM.out,Vz.out,if_neg qw,if_neg (by rw[Mn];decide),if_neg (λh=>h QG),if_neg (λh=>h hsz),if_neg (λh=>h Hvl.out),if_neg (by rw[FC];decide)]);clear og Mn FC;by_cases uU:n=m
             .have e4:(n==m)=true:=by simpa using uU
              have e5:vl=false:=by rw[<-Hvl.out,e4];rfl
              subst e5;gi_wp2;go_roundw
              case rel=>exact⟨k+1,u++ [r],oz,by go_num,lz Hgo.out,HC2.out,aJV.out⟩
              case measure=>simp[E8];omega
             .have e4:(n==m)=false:=by simpa using uU
              have e6:(n !=m)=true:=by simp[bne,e4]
              have e5:vl=true:=by rw[<-Hvl.out,e4];rfl
              subst e5;gi_wp2;go_roundw
              case rel=>exact⟨k+1,u++ [r],oz,by go_num,lz Hgo.out,HC2.out,aJV.out⟩
              case measure=>simp[E8];omega
      .obtain rfl:k=dst.l.length:=by omega
       have Cx:=Ml.out;rw[List.take_length]at Cx;have Hnd:Hid (Eh x (T++ [⟨src,dst,vl⟩]) (Ai u)):=lz (aJN.out u (by rw[HD.out];exact Cx));have hul:=zS Cx;have Hcu:=lz aB0;have FB:=lz hGw;have HTl:=lz (show u.length<=1001*(T.length+1)by have h1:=HUL.out;simp at hul;omega);clear aB0 hGw Cx hul Ml hF4 Xd;gi_wp2;exact⟨FB.out,u,Hnd.out,HTl.out,Hcu.out,Hgr.out.trans FB.out⟩
noncomputable def aJX (id:Nat):Code:=(f85.body.bind (uE id)).getD .skip
noncomputable def av:Array Oper:=match aJX 6 with | .region _ ops _=>ops | _=> #[]
def zT:List (Nat×Nat):= [(2,25),(4,26),(5,27),(7,28),(8,29),(10,30),(11,31),(13,32),(14,33),(16,34),(17,35),(19,36),(20,37),(22,38),(23,39),(24,40),(25,41),(26,42),(28,43),(29,44),(30,45),(31,46),(32,47),(34,48),(35,49),(36,50),(37,51),(39,52),(40,53),(41,54),(42,55),(44,56),(45,57),(46,58),(48,59),(49,11)]
structure aB2 where
 op:Nat
 key:Int
 src:Nat
 by_:Nat
def iz:List aB2:= [⟨1,119,0,0⟩,⟨3,108,25,2⟩,⟨6,114,27,5⟩,⟨9,118,29,8⟩,⟨12,99,31,11⟩,⟨15,97,33,14⟩,⟨18,111,35,17⟩,⟨21,105,37,20⟩,⟨27,115,42,26⟩,⟨33,98,47,32⟩,⟨38,101,51,37⟩,⟨43,100,55,42⟩,⟨47,106,58,46⟩]
structure Ctx where
 p:aC
 n:Int
 g3:Nat
 g5:Nat
 w0:Al
 a0:Act
abbrev pt(b o:Nat):Value:= .pointer (Ai ⟨b,o,Ag⟩)
abbrev Uz(f:Nat):Value:= .func (.func f) #[] #[]
def dw(C:Ctx)(m:Int)(v:Bn)(w:Al):Prop:=∃b,v= .func (.func 164) #[] #[pt b 0]/\w.cell? ⟨b,0,Ag⟩=Ai (.int .i64 m)
def mH(C:Ctx)(o:Bool)(v:Bn)(w:Al):Prop:=∃b,v= .func (.func 162) #[] #[pt C.g3 0,pt b 0]/\w.cell? ⟨b,0,Ag⟩=Ai (.bool o)
def bh(C:Ctx)(mb:Nat)(j:Nat)(v:Bn)(w:Al):Prop:=
 if j∈ [4,7,10,13,22,28,34,39,44]then v=Uz 163 else
 if j∈ [16,19]then v= .func (.func 161) #[] #[pt C.g3 0]else
 match j with
 | 2=>v= .func (.func 166) #[] #[pt C.g5 0,pt C.g3 0]
 | 5=>dw C 4 v w
 | 8=>dw C 256 v w
 | 11=>dw C 256 v w
 | 14=>dw C 4096 v w
 | 17=>mH C BR v w
 | 20=>mH C Bj v w
 | 23=>v=pt C.g3 4
 | 24=>v=C.p.aG.val
 | 25=>v= .int .i64 C.p.aG.l.length
 | 26=>dw C C.p.aG.l.length v w
 | 29=>v=pt C.g3 7
 | 30=>v=C.p.aX.val
 | 31=>v= .int .i64 C.p.aX.l.length
 | 32=>dw C C.p.aX.l.length v w
 | 35=>v=pt C.g3 5
 | 36=>v= .int .i64 C.p.ev
 | 37=>dw C C.p.ev v w
 | 40=>v=pt C.g3 6
 | 41=>v= .int .i64 C.p.bo
 | 42=>dw C C.p.bo v w
 | 45=>v= .int .i64 C.n
 | 46=>dw C C.n v w
 | 48=>v= .map (Ai mb)
 | 49=>v= .map (Ai mb)
 | _=>True
def Grw(w w':Al):Prop:=∃row,w.grownBy w' row/\∀r,row=Ai r->∃es c,w.heap[r]?=Ai (.map es c)
theorem Grw.cell{w w':Al}(h:Grw w w'){a:Addr}{v:Bn}(hv:w.cell? a=Ai v):w'.cell? a=Ai v:=by
 obtain⟨row,hg,hr⟩:=h;have hlt:=G4 w a hv;refine(World.cell?_of_block (hg.block a.block hlt (λe=> ?_))).trans hv;obtain⟨es,c,hh⟩:=hr _ e.symm;simp[World.cell?,hh]at hv
theorem Grw.below{w w':Al}(h:BD w.heap.size w w'):Grw w w':=⟨Ag,ux h Ag,λ_ e=>by cases e⟩
theorem dw.dn{C:Ctx}{m:Int}{v:Bn}{w w':Al}(h:dw C m v w)(hg:Grw w w'):dw C m v w':=let ⟨b,h1,h2⟩:=h;⟨b,h1,hg.cell h2⟩
theorem mH.dn{C:Ctx}{m:Bool}{v:Bn}{w w':Al}(h:mH C m v w)(hg:Grw w w'):mH C m v w':=let ⟨b,h1,h2⟩:=h;⟨b,h1,hg.cell h2⟩
theorem bh.dn{C:Ctx}{mb j:Nat}{v:Bn}{w w':Al}(h:bh C mb j v w)(hg:Grw w w'):bh C mb j v w':=by
 unfold bh at *;by_cases h1:j∈ [4,7,10,13,22,28,34,39,44]
 .rw[if_pos h1]at h ⊢;exact h
 .rw[if_neg h1]at h⊢
  by_cases h2:j∈ [16,19]
  .rw[if_pos h2]at h ⊢;exact h
  .rw[if_neg h2]at h⊢
   split at h<;>first | exact h | exact dw.dn h hg | exact mH.dn h hg
abbrev sl(a:Act)(j:Nat):Value:=a.tmps.getD j BA
def NP(a:Act)(q:aB2):Value:=if q.src=0 then Uz 165 else sl a q.src
structure dP(C:Ctx)(mb:Nat)(listed:Array Bool)(a:Act)(w:Al):Prop where
 df:a.defers= []
 sz:a.tmps.size=83
 old:∀j,j≠24->(∀q∈zT,q.2≠j)->sl a j=sl C.a0 j
 lE:BD C.w0.heap.size C.w0 w
 val:∀q∈zT,listed.getD q.1 Bj=BR->bh C mb q.1 (sl a q.2) w
 map:listed.getD 0 Bj=BR->∃k D,sl a 24= .map (Ai mb)/\C.w0.heap.size<=mb/\j4 w mb k D/\k+listed.toList.count Bj<=50/\∀q∈iz,listed.getD q.op Bj=BR->D.atKey (kI q.key) ni= .held (NP a q)
theorem XP{a:Act}{d:Nat}{v:Bn}(h:d<a.tmps.size)(j:Nat):sl (a.put (Ai d) v) j=if j=d then v else sl a j:=by
 unfold sl Act.put;by_cases e:j=d
 .subst e;simp[h]
 .simp only[if_neg e]
  rw[Array.getD_eq_getD_getElem?,Array.getD_eq_getD_getElem?,Dm (λx=>e x.symm)]
theorem vT{listed:Array Bool}{i:Nat}(hl:listed.getD i BR=Bj):(listed.setIfInBounds i BR).toList.count Bj+1=listed.toList.count false:=by
 have hlt:i<listed.size:=by
  rcases Ii i listed.size with h' | h'
  .exact h'
  .simp[GX h']at hl
 have hv:listed.toList[i]'(by simpa using hlt)=false:=by simpa [hlt]using hl
 have h2:Bj∈listed.toList:=by rw[<-hv];exact CS _
 have h3:=List.count_pos_iff.2 h2;rw[Array.toList_setIfInBounds,List.count_set (by simpa using hlt),hv];rw[if_pos (by rfl),if_neg dz];omega
theorem Jd{listed:Array Bool}{i:Nat}(hl:listed.getD i BR=Bj):listed.getD i Bj=false:=by
 rcases Ii i listed.size with h' | h'
 .simp[h']at hl ⊢;exact hl
 .simp[GX h']
theorem aB3:∀q∈iz,q.src≠0->eV .any av q.op q.by_=true:=by
 have h:(iz.all λq=>q.src==0||eV .any av q.op q.by_)=true:=by kernel_rfl
 intro q hq hn;have:=EL.1 h q hq;simpa [hn]using this
theorem KW:(∀q∈iz,eV .any av q.op 0=BR)/\eV .any av 48 0=BR/\eV .any av 49 0=true:=by
 have h:(iz.all λq=>eV .any av q.op 0)=true:=by kernel_rfl
 exact⟨λq hq=>EL.1 h q hq,by kernel_rfl,by kernel_rfl⟩
theorem Sz:∀q∈zT,∀r∈zT,q.2=r.2->q.1=r.1:=by decide
theorem XQ:∀q∈zT,q.2≠24/\q.2<83/\q.1≠0:=by decide
theorem aFW:∀q∈iz,q.src≠0->(q.by_,q.src)∈zT:=by
 have h:(iz.all λq=>q.src==0||zT.contains (q.by_,q.src))=true:=by decide
 intro q hq hn;have:=EL.1 h q hq;simpa [hn]using this
theorem XR:∀q∈iz,∀r∈zT,q.op≠r.1:=by decide
section
variable {P:Program} {Q:Exit->Act->Al->Prop} {C:Ctx} {mb:Nat} {listed:Array Bool} {a:Act} {w:Al}
theorem dP.value(h:dP C mb listed a w)(cC:Shuts .any av listed){q:Nat×Nat}(hq:q∈zT)(hl:listed.getD q.1 BR=Bj){v:Bn}{w':Al}(hb:BD w.heap.size w w')(hv:bh C mb q.1 v w'):
 dP C mb (listed.setIfInBounds q.1 BR) (a.put (Ai q.2) v) w':=by
 have h24:=XQ q hq;have hsz:=h.sz;have hput:=λj=>XP (a:=a) (v:=v) (d:=q.2) oz j
 refine⟨h.df,by simp[Act.put,h.sz],λj hj hn=> ?_,h.lE.trans (hb.mono h.lE.size),λr hr KX=> ?_,λh0=> ?_⟩
 .rw[hput,if_neg (λe=>hn q hq e.symm)];exact h.old j hj hn
 .rw[hput]
  by_cases e:r.2=q.2
  .rw[if_pos e,Sz r hr q hq e];exact hv
  .rw[if_neg e]
   have hne:q.1≠r.1:=λe2=>e (by
    have:∀q∈zT,∀r∈zT,q.1=r.1->q.2=r.2:=by decide
    exact(this q hq r hr e2).symm)
   rw[getD_set_ne Bj hne]at KX;exact(h.val r hr KX).dn (Grw.below hb)
 .rw[getD_set_ne Bj h24.2.2]at h0
  obtain⟨k,D,e1,e2,e3,e4,e5⟩:=h.map h0;refine⟨k,D,by rw[hput,if_neg (λe=>h24.1 e.symm)];exact e1,e2,e3.kept (ux hb Ag) qz,by have:=vT hl;omega,λr hr KX=> ?_⟩;rw[getD_set_ne Bj (λe=>XR r hr q hq e.symm)]at KX;rw[e5 r hr KX];unfold NP;by_cases hs:r.src=0
  .rw[if_pos hs,if_pos hs]
  .rw[if_neg hs,if_neg hs,hput,if_neg (λe=> ?_)]
   have h1:=cC _ _ (aB3 r hr hs) KX;have h2:r.by_=q.1:=Sz _ (aFW r hr hs) q hq e;rw[h2,Jd hl]at h1
   cases h1
end
section
variable {Q:Exit->Act->Al->Prop} {C:Ctx} {mb:Nat} {listed:Array Bool} {a:Act} {w:Al} {o:Oper} {i d:Nat}
theorem SA:av.size=50:=by kernel_rfl
theorem XS{C:Ctx}{m m' j:Nat}{v:Bn}{w:Al}(h:bh C m j v w)(h1:j≠48)(h2:j≠49):bh C m' j v w:=by
 unfold bh at *;by_cases e1:j∈ [4,7,10,13,22,28,34,39,44]
 .rw[if_pos e1]at h ⊢;exact h
 .rw[if_neg e1]at h⊢
  by_cases e2:j∈ [16,19]
  .rw[if_pos e2]at h ⊢;exact h
  .rw[if_neg e2]at h⊢
   split at h<;>first | exact h | exact absurd rfl h1 | exact absurd rfl h2
theorem dP.made(h:dP C mb listed a w)(cC:Shuts .any av listed)(hs:listed.size=av.size)(hl:listed.getD 0 BR=Bj):
 dP C w.heap.size (listed.setIfInBounds 0 BR) (a.put (Ai 24) (.map (Ai w.heap.size))) (w.alloc (.map #[] 0)):=by
 have hsz:=h.sz;have hput:=λj=>XP (a:=a) (v:= .map (Ai w.heap.size)) (d:=24) oz j
 have qw:∀j,eV .any av j 0=BR->listed.getD j Bj=BR->False:=λj hj hlj=>by
  have h1:=cC j 0 hj hlj;rw[Jd hl]at h1
  cases h1
 have hB:BD w.heap.size w (w.alloc (.map #[] 0)):=bN;refine⟨h.df,by simp[Act.put,h.sz],λj hj hn=> ?_,h.lE.trans (hB.mono h.lE.size),λr hr KX=> ?_,λ_=> ?_⟩
 .rw[hput,if_neg hj];exact h.old j hj hn
 .have h24:=XQ r hr
  rw[getD_set_ne Bj (λe=>h24.2.2 e.symm)]at KX;rw[hput,if_neg h24.1];exact XS (bh.dn (h.val r hr KX) (Grw.below hB)) (λe=>qw _ KW.2.1 (e▸KX)) (λe=>qw _ KW.2.2 (e▸KX))
 .refine⟨0,_,by rw[hput,if_pos rfl],h.lE.size,j4.made w,?_,λq hq hlq=> ?_⟩
  .have h1:=vT hl
   have h2:listed.toList.count Bj<=listed.toList.length:=List.count_le_length;rw[Array.length_toList,hs,SA]at h2;omega
  .have hne:(0:Nat)≠q.op:=by
    have:∀q∈iz,(0:Nat)≠q.op:=by decide
    exact this q hq
   rw[getD_set_ne Bj hne]at hlq;exact(qw _ (KW.1 q hq) hlq).elim
theorem dP.insert(h:dP C mb listed a w)(cC:Shuts .any av listed){q:aB2}(hq:q∈iz)(hl:listed.getD q.op BR=Bj)(h0:listed.getD 0 Bj=BR):
 ∃k D,sl a 24= .map (Ai mb)/\j4 w mb k D/\k<maxLen/\∀w',j4 w' mb (k+1) (D.put (kI q.key) (.held (NP a q)))->w.grownBy w' (Ai mb)->dP C mb (listed.setIfInBounds q.op BR) a w':=by
 obtain⟨k,D,e1,e2,e3,e4,e5⟩:=h.map h0;have aBj:=vT hl;have h50:(50:Nat)<maxLen:=by decide
 refine⟨k,D,e1,e3,oz,λw' hw hg=> ?_⟩;have hG:Grw w w':=⟨Ai mb,hg,λr e=>by cases e;obtain⟨⟨es,c,hh,_⟩,_⟩:=e3;exact⟨es,c,hh⟩⟩;refine⟨h.df,h.sz,h.old,h.lE.grown hg h.lE.size (λk e=>by cases e;exact e2),λr hr KX=> ?_,λ_=>⟨k+1,_,e1,e2,hw,oz,λr hr KX=> ?_⟩⟩
 .rw[getD_set_ne Bj (XR q hq r hr)]at KX
  exact(h.val r hr KX).dn hG
 .by_cases e:r.op=q.op
  .have:r=q:=by
    have hh:∀r∈iz,∀q∈iz,r.op=q.op->r.key=q.key/\r.src=q.src/\r.by_=q.by_:=by decide
    obtain⟨x1,x2,x3⟩:=hh r hr q hq e
    cases r;cases q;simp_all
   subst this;have hwf:∀q∈iz,(kI q.key).wf=true:=by decide
   exact aBS e3.2 _ (hwf r hr) _
  .rw[getD_set_ne Bj (λx=>e x.symm)]at KX
   have hk:∀r∈iz,∀q∈iz,r.key=q.key->r.op=q.op:=by decide
   rw[WU (λx=>e (hk r hr q hq x))];exact e5 r hr KX
abbrev lI(C:Ctx)(listed:Array Bool)(i:Nat)(a:Act)(w:Al):Prop:=∃mb,dP C mb (listed.setIfInBounds i BR) a w
theorem fQ(ho:av[i]?=Ai o)(hg:o.guard=Ag)(hd:o.dst=Ai d)(hq:(i,d)∈zT)(h:dP C mb listed a w)(cC:Shuts .any av listed)(hl:listed.getD i BR=Bj){v:Bn}
 (hr:(execOp a.eval o).run pG w= .ok (.value v) w) (hv:bh C mb i v w):wpOp pG av Q i (lI C listed i) a w:=wpOp_step ho λK' hK=>by
 rw[if_pos (by simp[G6,hg])];unfold Oper.wp;rw[hr,Oper.upon_value,hd];exact hK _ _ ⟨mb,h.value cC (q:=(i,d)) hq hl (BK _ _) hv⟩
theorem oP(ho:av[i]?=Ai o)(hg:o.guard=Ag)(hd:o.dst=Ai d)(hq:(i,d)∈zT)(h:dP C mb listed a w)(cC:Shuts .any av listed)(hl:listed.getD i BR=Bj){f:FuncId}{args:Array Bn}
 (hr:(execOp a.eval o).run pG w= .ok (.enter f args) w) (hc:ET pG f args w λe w'=>∃v,e= .returned v/\BD w.heap.size w w'/\bh C mb i v w'):wpOp pG av Q i (lI C listed i) a w:=wpOp_step ho λK' hK=>by
 rw[if_pos (by simp[G6,hg])];unfold Oper.wp;rw[hr,Oper.upon_enter,hd];refine hc.mono ?_;rintro e w' ⟨v,rfl,hb,hv⟩;exact hK _ _ ⟨mb,h.value cC (q:=(i,d)) hq hl hb hv⟩
theorem aFX(ho:av[0]?=Ai o)(hg:o.guard=Ag)(hd:o.dst=Ai 24)(h:dP C mb listed a w)(cC:Shuts .any av listed)(hs:listed.size=av.size)(hl:listed.getD 0 BR=Bj)
 (hr:(execOp a.eval o).run pG w= .ok (.value (.map (Ai w.heap.size))) (w.alloc (.map #[] 0))):wpOp pG av Q 0 (lI C listed 0) a w:=wpOp_step ho λK' hK=>by
 rw[if_pos (by simp[G6,hg])];unfold Oper.wp;rw[hr,Oper.upon_value,hd];exact hK _ _ ⟨_,h.made cC hs hl⟩
theorem lJ{q:aB2}(hq:q∈iz)(ho:av[q.op]?=Ai o)(hg:o.guard=Ag)(hd:o.dst=Ag){x:Operand}(hop:o.op= .insert 214 (.tmp 24) (.const (.int .i32 q.key)) x)(hx:a.eval x=NP a q)
 (h:dP C mb listed a w) (cC:Shuts .any av listed) (hl:listed.getD q.op BR=Bj) (h0:listed.getD 0 Bj=BR):wpOp pG av Q q.op (lI C listed q.op) a w:=wpOp_step ho λK' hK=>by
 rw[if_pos (by simp[G6,hg])];obtain⟨k,D,e1,e2,e3,e4⟩:=h.insert cC hq hl h0;have hwf:∀q∈iz,(kI q.key).wf=true:=by decide
 obtain⟨w',hrun,hw,hgr⟩:=e2.put e3 q.key (hwf q hq) (NP a q);have hm:a.eval (.tmp 24)= .map (Ai mb):=e1;have hk:a.eval (.const (.int .i32 q.key))= .int .i32 q.key:=rfl;unfold Oper.wp;simp[execOp,hop,hm,hk,hx,hrun,Result.andThen];rw[Oper.upon_skip,hd];exact hK _ _ ⟨mb,e4 w' hw hgr⟩
end
structure mI(C:Ctx):Prop where
 e1:sl C.a0 1= .int .i64 C.n
 e3:sl C.a0 3=pt C.g3 0
 e5:sl C.a0 5=pt C.g5 0
 e9:sl C.a0 9= .func (.func 161) #[] #[pt C.g3 0]
 e10:sl C.a0 10=Uz 163
 hp:C.p.bk C.w0 C.g3
section
variable {Q:Exit->Act->Al->Prop} {C:Ctx} {mb:Nat} {listed:Array Bool} {a:Act} {w:Al} {o:Oper} {i d:Nat}
theorem run_move{x:Operand}{v:Bn}(hop:o.op= .move x)(hv:a.eval x=v):(execOp a.eval o).run pG w= .ok (.value v) w:=by
 simp[execOp,hop,hv]
theorem run_assign{x:Operand}{v:Bn}(hop:o.op= .assign x)(hv:a.eval x=v):(execOp a.eval o).run pG w= .ok (.value v) w:=by
 simp[execOp,hop,hv]
theorem aFY(hop:o.op= .makeFunc (.func 166) #[] #[.tmp 5,.tmp 3])(e5:a.eval (.tmp 5)=pt C.g5 0)(e3:a.eval (.tmp 3)=pt C.g3 0):(execOp a.eval o).run pG w= .ok (.value (.func (.func 166) #[] #[pt C.g5 0,pt C.g3 0])) w:=by
 simp only[execOp,hop];simp[e5,e3,Instr.makeFunc,Result.andThen]
theorem run_map(hop:o.op= .makeMap 214 Ag):(execOp a.eval o).run pG w= .ok (.value (.map (Ai w.heap.size))) (w.alloc (.map #[] 0)):=by
 simp only[execOp,hop];simp[Instr.makeMap,go_sem]
theorem XT(hop:o.op= .fieldAddr 71 (.tmp 3) 4)(e3:a.eval (.tmp 3)=pt C.g3 0):(execOp a.eval o).run pG w= .ok (.value (pt C.g3 4)) w:=by
 simp only[execOp,hop,e3];simp[go_sem]
theorem XU(hop:o.op= .fieldAddr 71 (.tmp 3) 5)(e3:a.eval (.tmp 3)=pt C.g3 0):(execOp a.eval o).run pG w= .ok (.value (pt C.g3 5)) w:=by
 simp only[execOp,hop,e3];simp[go_sem]
theorem XV(hop:o.op= .fieldAddr 71 (.tmp 3) 6)(e3:a.eval (.tmp 3)=pt C.g3 0):(execOp a.eval o).run pG w= .ok (.value (pt C.g3 6)) w:=by
 simp only[execOp,hop,e3];simp[go_sem]
theorem XW(hop:o.op= .fieldAddr 71 (.tmp 3) 7)(e3:a.eval (.tmp 3)=pt C.g3 0):(execOp a.eval o).run pG w= .ok (.value (pt C.g3 7)) w:=by
 simp only[execOp,hop,e3];simp[go_sem]
theorem run_load{x:Operand}{g k:Nat}{v:Bn}(hop:o.op= .load 36 x)(hx:a.eval x=pt g k)(hc:w.cell? ⟨g,k,Ag⟩=Ai v):(execOp a.eval o).run pG w= .ok (.value v) w:=by
 simp only[execOp,hop,hx];simp[go_sem,hc]
theorem Je{x:Operand}{g k:Nat}{v:Bn}(hop:o.op= .load 3 x)(hx:a.eval x=pt g k)(hc:w.cell? ⟨g,k,Ag⟩=Ai v):(execOp a.eval o).run pG w= .ok (.value v) w:=by
 simp only[execOp,hop,hx];simp[go_sem,hc]
theorem SB{x:Operand}{A:Option Addr}{n c:Nat}(hop:o.op= .call {callee:= .builtin .len,args:= #[x],argTypes:= #[36]})(hx:a.eval x= .slice A n c):(execOp a.eval o).run pG w= .ok (.value (.int .i64 n)) w:=by
 simp only[execOp,hop];simp only[resolve,invoke,builtin,hx,List.map_toArray,List.map_cons,List.map_nil];simp[go_sem]
theorem jr{f:FuncId}(eg:∀args w,(EZ f args).run pG w= .ok (.enter f args) w){x y:Operand}{v:Bn}{lb:Array Bn}{ts:Array TypeId}(hop:o.op= .call {callee:= .value x,args:= #[y],argTypes:=ts})(hx:a.eval x= .func (.func f) #[] lb)(hy:a.eval y=v):(execOp a.eval o).run pG w= .ok (.enter f (#[v]++lb)) w:=by
 simp only[execOp,hop];simp[resolve,hx,hy,Result.andThen];simp[invoke,go_sem];exact eg _ _
theorem o0:∃o,av[0]?=Ai o/\o.guard=Ag/\o.dst=Ai 24/\o.op= .makeMap 214 none:=⟨_,rfl,rfl,rfl,rfl⟩
theorem s0(hC:mI C)(h:dP C mb listed a w)(cC:Shuts .any av listed)(hs:listed.size=av.size)(hl:listed.getD 0 BR=Bj)(hd:∀j,eV .any av 0 j=BR->listed.getD j Bj=BR):wpOp pG av Q 0 (lI C listed 0) a w:=by
 obtain⟨o,ho,hg,cw,hop⟩:=o0;exact aFX ho hg cw h cC hs hl (run_map hop)
theorem o4:∃o,av[4]?=Ai o/\o.guard=Ag/\o.dst=Ai 26/\o.op= .move (.tmp 10):=⟨_,rfl,rfl,rfl,rfl⟩
theorem vs4{v:Bn}:bh C mb 4 v w=(v=Uz 163):=by simp[bh]
theorem s4(hC:mI C)(h:dP C mb listed a w)(cC:Shuts .any av listed)(hs:listed.size=av.size)(hl:listed.getD 4 BR=Bj)(hd:∀j,eV .any av 4 j=BR->listed.getD j Bj=BR):wpOp pG av Q 4 (lI C listed 4) a w:=by
 obtain⟨o,ho,hg,cw,hop⟩:=o4;exact fQ ho hg cw dz h cC hl (run_move hop ((h.old 10 dz dz).trans hC.e10)) (by rw[vs4])
theorem o7:∃o,av[7]?=Ai o/\o.guard=Ag/\o.dst=Ai 28/\o.op= .move (.tmp 10):=⟨_,rfl,rfl,rfl,rfl⟩
theorem vs7{v:Bn}:bh C mb 7 v w=(v=Uz 163):=by simp[bh]
theorem s7(hC:mI C)(h:dP C mb listed a w)(cC:Shuts .any av listed)(hs:listed.size=av.size)(hl:listed.getD 7 BR=Bj)(hd:∀j,eV .any av 7 j=BR->listed.getD j Bj=BR):wpOp pG av Q 7 (lI C listed 7) a w:=by
 obtain⟨o,ho,hg,cw,hop⟩:=o7;exact fQ ho hg cw dz h cC hl (run_move hop ((h.old 10 dz dz).trans hC.e10)) (by rw[vs7])
theorem o10:∃o,av[10]?=Ai o/\o.guard=Ag/\o.dst=Ai 30/\o.op= .move (.tmp 10):=⟨_,rfl,rfl,rfl,rfl⟩
theorem aJY{v:Bn}:bh C mb 10 v w=(v=Uz 163):=by simp[bh]
theorem s10(hC:mI C)(h:dP C mb listed a w)(cC:Shuts .any av listed)(hs:listed.size=av.size)(hl:listed.getD 10 BR=Bj)(hd:∀j,eV .any av 10 j=BR->listed.getD j Bj=BR):wpOp pG av Q 10 (lI C listed 10) a w:=by
 obtain⟨o,ho,hg,cw,hop⟩:=o10;exact fQ ho hg cw dz h cC hl (run_move hop ((h.old 10 dz dz).trans hC.e10)) (by rw[aJY])
theorem o13:∃o,av[13]?=Ai o/\o.guard=Ag/\o.dst=Ai 32/\o.op= .move (.tmp 10):=⟨_,rfl,rfl,rfl,rfl⟩
theorem aJZ{v:Bn}:bh C mb 13 v w=(v=Uz 163):=by simp[bh]
theorem s13(hC:mI C)(h:dP C mb listed a w)(cC:Shuts .any av listed)(hs:listed.size=av.size)(hl:listed.getD 13 BR=Bj)(hd:∀j,eV .any av 13 j=BR->listed.getD j Bj=BR):wpOp pG av Q 13 (lI C listed 13) a w:=by
 obtain⟨o,ho,hg,cw,hop⟩:=o13;exact fQ ho hg cw dz h cC hl (run_move hop ((h.old 10 dz dz).trans hC.e10)) (by rw[aJZ])
theorem o22:∃o,av[22]?=Ai o/\o.guard=Ag/\o.dst=Ai 38/\o.op= .move (.tmp 10):=⟨_,rfl,rfl,rfl,rfl⟩
theorem aJa{v:Bn}:bh C mb 22 v w=(v=Uz 163):=by simp[bh]
theorem s22(hC:mI C)(h:dP C mb listed a w)(cC:Shuts .any av listed)(hs:listed.size=av.size)(hl:listed.getD 22 BR=Bj)(hd:∀j,eV .any av 22 j=BR->listed.getD j Bj=BR):wpOp pG av Q 22 (lI C listed 22) a w:=by
 obtain⟨o,ho,hg,cw,hop⟩:=o22;exact fQ ho hg cw dz h cC hl (run_move hop ((h.old 10 dz dz).trans hC.e10)) (by rw[aJa])
theorem o28:∃o,av[28]?=Ai o/\o.guard=Ag/\o.dst=Ai 43/\o.op= .move (.tmp 10):=⟨_,rfl,rfl,rfl,rfl⟩
theorem aJb{v:Bn}:bh C mb 28 v w=(v=Uz 163):=by simp[bh]
theorem s28(hC:mI C)(h:dP C mb listed a w)(cC:Shuts .any av listed)(hs:listed.size=av.size)(hl:listed.getD 28 BR=Bj)(hd:∀j,eV .any av 28 j=BR->listed.getD j Bj=BR):wpOp pG av Q 28 (lI C listed 28) a w:=by
 obtain⟨o,ho,hg,cw,hop⟩:=o28;exact fQ ho hg cw dz h cC hl (run_move hop ((h.old 10 dz dz).trans hC.e10)) (by rw[aJb])
theorem o34:∃o,av[34]?=Ai o/\o.guard=Ag/\o.dst=Ai 48/\o.op= .move (.tmp 10):=⟨_,rfl,rfl,rfl,rfl⟩
theorem aJc{v:Bn}:bh C mb 34 v w=(v=Uz 163):=by simp[bh]
theorem s34(hC:mI C)(h:dP C mb listed a w)(cC:Shuts .any av listed)(hs:listed.size=av.size)(hl:listed.getD 34 BR=Bj)(hd:∀j,eV .any av 34 j=BR->listed.getD j Bj=BR):wpOp pG av Q 34 (lI C listed 34) a w:=by
 obtain⟨o,ho,hg,cw,hop⟩:=o34;exact fQ ho hg cw dz h cC hl (run_move hop ((h.old 10 dz dz).trans hC.e10)) (by rw[aJc])
theorem o39:∃o,av[39]?=Ai o/\o.guard=Ag/\o.dst=Ai 52/\o.op= .move (.tmp 10):=⟨_,rfl,rfl,rfl,rfl⟩
theorem aJd{v:Bn}:bh C mb 39 v w=(v=Uz 163):=by simp[bh]
theorem s39(hC:mI C)(h:dP C mb listed a w)(cC:Shuts .any av listed)(hs:listed.size=av.size)(hl:listed.getD 39 BR=Bj)(hd:∀j,eV .any av 39 j=BR->listed.getD j Bj=BR):wpOp pG av Q 39 (lI C listed 39) a w:=by
 obtain⟨o,ho,hg,cw,hop⟩:=o39;exact fQ ho hg cw dz h cC hl (run_move hop ((h.old 10 dz dz).trans hC.e10)) (by rw[aJd])
theorem o44:∃o,av[44]?=Ai o/\o.guard=Ag/\o.dst=Ai 56/\o.op= .move (.tmp 10):=⟨_,rfl,rfl,rfl,rfl⟩
theorem aJe{v:Bn}:bh C mb 44 v w=(v=Uz 163):=by simp[bh]
theorem s44(hC:mI C)(h:dP C mb listed a w)(cC:Shuts .any av listed)(hs:listed.size=av.size)(hl:listed.getD 44 BR=Bj)(hd:∀j,eV .any av 44 j=BR->listed.getD j Bj=BR):wpOp pG av Q 44 (lI C listed 44) a w:=by
 obtain⟨o,ho,hg,cw,hop⟩:=o44;exact fQ ho hg cw dz h cC hl (run_move hop ((h.old 10 dz dz).trans hC.e10)) (by rw[aJe])
theorem o16:∃o,av[16]?=Ai o/\o.guard=Ag/\o.dst=Ai 34/\o.op= .move (.tmp 9):=⟨_,rfl,rfl,rfl,rfl⟩
theorem aJf{v:Bn}:bh C mb 16 v w=(v= .func (.func 161) #[] #[pt C.g3 0]):=by simp[bh]
theorem s16(hC:mI C)(h:dP C mb listed a w)(cC:Shuts .any av listed)(hs:listed.size=av.size)(hl:listed.getD 16 BR=Bj)(hd:∀j,eV .any av 16 j=BR->listed.getD j Bj=BR):wpOp pG av Q 16 (lI C listed 16) a w:=by
 obtain⟨o,ho,hg,cw,hop⟩:=o16;exact fQ ho hg cw dz h cC hl (run_move hop ((h.old 9 dz dz).trans hC.e9)) (by rw[aJf])
theorem o19:∃o,av[19]?=Ai o/\o.guard=Ag/\o.dst=Ai 36/\o.op= .move (.tmp 9):=⟨_,rfl,rfl,rfl,rfl⟩
theorem aJg{v:Bn}:bh C mb 19 v w=(v= .func (.func 161) #[] #[pt C.g3 0]):=by simp[bh]
theorem s19(hC:mI C)(h:dP C mb listed a w)(cC:Shuts .any av listed)(hs:listed.size=av.size)(hl:listed.getD 19 BR=Bj)(hd:∀j,eV .any av 19 j=BR->listed.getD j Bj=BR):wpOp pG av Q 19 (lI C listed 19) a w:=by
 obtain⟨o,ho,hg,cw,hop⟩:=o19;exact fQ ho hg cw dz h cC hl (run_move hop ((h.old 9 dz dz).trans hC.e9)) (by rw[aJg])
theorem o2:∃o,av[2]?=Ai o/\o.guard=Ag/\o.dst=Ai 25/\o.op= .makeFunc (.func 166) #[] #[.tmp 5,.tmp 3]:=⟨_,rfl,rfl,rfl,rfl⟩
theorem vs2{v:Bn}:bh C mb 2 v w=(v= .func (.func 166) #[] #[pt C.g5 0,pt C.g3 0]):=by simp[bh]
theorem s2(hC:mI C)(h:dP C mb listed a w)(cC:Shuts .any av listed)(hs:listed.size=av.size)(hl:listed.getD 2 BR=Bj)(hd:∀j,eV .any av 2 j=BR->listed.getD j Bj=BR):wpOp pG av Q 2 (lI C listed 2) a w:=by
 obtain⟨o,ho,hg,cw,hop⟩:=o2;exact fQ ho hg cw dz h cC hl (aFY hop ((h.old 5 dz dz).trans hC.e5) ((h.old 3 dz dz).trans hC.e3)) (by rw[vs2])
theorem o45:∃o,av[45]?=Ai o/\o.guard=Ag/\o.dst=Ai 57/\o.op= .move (.tmp 1):=⟨_,rfl,rfl,rfl,rfl⟩
theorem aJh{v:Bn}:bh C mb 45 v w=(v= .int .i64 C.n):=by simp[bh]
theorem s45(hC:mI C)(h:dP C mb listed a w)(cC:Shuts .any av listed)(hs:listed.size=av.size)(hl:listed.getD 45 BR=Bj)(hd:∀j,eV .any av 45 j=BR->listed.getD j Bj=BR):wpOp pG av Q 45 (lI C listed 45) a w:=by
 obtain⟨o,ho,hg,cw,hop⟩:=o45;exact fQ ho hg cw dz h cC hl (run_move hop ((h.old 1 dz dz).trans hC.e1)) (by rw[aJh])
theorem o23:∃o,av[23]?=Ai o/\o.guard=Ag/\o.dst=Ai 39/\o.op= .fieldAddr 71 (.tmp 3) 4:=⟨_,rfl,rfl,rfl,rfl⟩
theorem aJi{v:Bn}:bh C mb 23 v w=(v=pt C.g3 4):=by simp[bh]
theorem s23(hC:mI C)(h:dP C mb listed a w)(cC:Shuts .any av listed)(hs:listed.size=av.size)(hl:listed.getD 23 BR=Bj)(hd:∀j,eV .any av 23 j=BR->listed.getD j Bj=BR):wpOp pG av Q 23 (lI C listed 23) a w:=by
 obtain⟨o,ho,hg,cw,hop⟩:=o23;exact fQ ho hg cw dz h cC hl (XT hop ((h.old 3 dz dz).trans hC.e3)) (by rw[aJi])
theorem o29:∃o,av[29]?=Ai o/\o.guard=Ag/\o.dst=Ai 44/\o.op= .fieldAddr 71 (.tmp 3) 7:=⟨_,rfl,rfl,rfl,rfl⟩
theorem aJj{v:Bn}:bh C mb 29 v w=(v=pt C.g3 7):=by simp[bh]
theorem s29(hC:mI C)(h:dP C mb listed a w)(cC:Shuts .any av listed)(hs:listed.size=av.size)(hl:listed.getD 29 BR=Bj)(hd:∀j,eV .any av 29 j=BR->listed.getD j Bj=BR):wpOp pG av Q 29 (lI C listed 29) a w:=by
 obtain⟨o,ho,hg,cw,hop⟩:=o29;exact fQ ho hg cw dz h cC hl (XW hop ((h.old 3 dz dz).trans hC.e3)) (by rw[aJj])
theorem o35:∃o,av[35]?=Ai o/\o.guard=Ag/\o.dst=Ai 49/\o.op= .fieldAddr 71 (.tmp 3) 5:=⟨_,rfl,rfl,rfl,rfl⟩
theorem aJk{v:Bn}:bh C mb 35 v w=(v=pt C.g3 5):=by simp[bh]
theorem s35(hC:mI C)(h:dP C mb listed a w)(cC:Shuts .any av listed)(hs:listed.size=av.size)(hl:listed.getD 35 BR=Bj)(hd:∀j,eV .any av 35 j=BR->listed.getD j Bj=BR):wpOp pG av Q 35 (lI C listed 35) a w:=by
 obtain⟨o,ho,hg,cw,hop⟩:=o35;exact fQ ho hg cw dz h cC hl (XU hop ((h.old 3 dz dz).trans hC.e3)) (by rw[aJk])
theorem o40:∃o,av[40]?=Ai o/\o.guard=Ag/\o.dst=Ai 53/\o.op= .fieldAddr 71 (.tmp 3) 6:=⟨_,rfl,rfl,rfl,rfl⟩
theorem aJl{v:Bn}:bh C mb 40 v w=(v=pt C.g3 6):=by simp[bh]
theorem s40(hC:mI C)(h:dP C mb listed a w)(cC:Shuts .any av listed)(hs:listed.size=av.size)(hl:listed.getD 40 BR=Bj)(hd:∀j,eV .any av 40 j=BR->listed.getD j Bj=BR):wpOp pG av Q 40 (lI C listed 40) a w:=by
 obtain⟨o,ho,hg,cw,hop⟩:=o40;exact fQ ho hg cw dz h cC hl (XV hop ((h.old 3 dz dz).trans hC.e3)) (by rw[aJl])
theorem o24:∃o,av[24]?=Ai o/\o.guard=Ag/\o.dst=Ai 40/\o.op= .load 36 (.tmp 39):=⟨_,rfl,rfl,rfl,rfl⟩
theorem aJm{v:Bn}:bh C mb 24 v w=(v=C.p.aG.val):=by simp[bh]
theorem s24(hC:mI C)(h:dP C mb listed a w)(cC:Shuts .any av listed)(hs:listed.size=av.size)(hl:listed.getD 24 BR=Bj)(hd:∀j,eV .any av 24 j=BR->listed.getD j Bj=BR):wpOp pG av Q 24 (lI C listed 24) a w:=by
 obtain⟨o,ho,hg,cw,hop⟩:=o24;have e39:=h.val (23,39) dz (hd 23 kz);rw[aJi]at e39;exact fQ ho hg cw dz h cC hl (run_load hop e39 ((hC.hp.below h.lE hC.hp.lt).cell 4)) (by rw[aJm];rfl)
theorem o30:∃o,av[30]?=Ai o/\o.guard=Ag/\o.dst=Ai 45/\o.op= .load 36 (.tmp 44):=⟨_,rfl,rfl,rfl,rfl⟩
theorem aJn{v:Bn}:bh C mb 30 v w=(v=C.p.aX.val):=by simp[bh]
theorem s30(hC:mI C)(h:dP C mb listed a w)(cC:Shuts .any av listed)(hs:listed.size=av.size)(hl:listed.getD 30 BR=Bj)(hd:∀j,eV .any av 30 j=BR->listed.getD j Bj=BR):wpOp pG av Q 30 (lI C listed 30) a w:=by
 obtain⟨o,ho,hg,cw,hop⟩:=o30;have e44:=h.val (29,44) dz (hd 29 kz);rw[aJj]at e44;exact fQ ho hg cw dz h cC hl (run_load hop e44 ((hC.hp.below h.lE hC.hp.lt).cell 7)) (by rw[aJn];rfl)
theorem o36:∃o,av[36]?=Ai o/\o.guard=Ag/\o.dst=Ai 50/\o.op= .load 3 (.tmp 49):=⟨_,rfl,rfl,rfl,rfl⟩
theorem aJo{v:Bn}:bh C mb 36 v w=(v= .int .i64 C.p.ev):=by simp[bh]
theorem s36(hC:mI C)(h:dP C mb listed a w)(cC:Shuts .any av listed)(hs:listed.size=av.size)(hl:listed.getD 36 BR=Bj)(hd:∀j,eV .any av 36 j=BR->listed.getD j Bj=BR):wpOp pG av Q 36 (lI C listed 36) a w:=by
 obtain⟨o,ho,hg,cw,hop⟩:=o36;have e49:=h.val (35,49) dz (hd 35 kz);rw[aJk]at e49;exact fQ ho hg cw dz h cC hl (Je hop e49 ((hC.hp.below h.lE hC.hp.lt).cell 5)) (by rw[aJo];rfl)
theorem o41:∃o,av[41]?=Ai o/\o.guard=Ag/\o.dst=Ai 54/\o.op= .load 3 (.tmp 53):=⟨_,rfl,rfl,rfl,rfl⟩
theorem aJp{v:Bn}:bh C mb 41 v w=(v= .int .i64 C.p.bo):=by simp[bh]
theorem s41(hC:mI C)(h:dP C mb listed a w)(cC:Shuts .any av listed)(hs:listed.size=av.size)(hl:listed.getD 41 BR=Bj)(hd:∀j,eV .any av 41 j=BR->listed.getD j Bj=BR):wpOp pG av Q 41 (lI C listed 41) a w:=by
 obtain⟨o,ho,hg,cw,hop⟩:=o41;have e53:=h.val (40,53) dz (hd 40 kz);rw[aJl]at e53;exact fQ ho hg cw dz h cC hl (Je hop e53 ((hC.hp.below h.lE hC.hp.lt).cell 6)) (by rw[aJp];rfl)
theorem o25:∃o,av[25]?=Ai o/\o.guard=Ag/\o.dst=Ai 41/\o.op= .call {callee:= .builtin .len,args:= #[.tmp 40],argTypes:= #[36]}:=⟨_,rfl,rfl,rfl,rfl⟩
theorem aJq{v:Bn}:bh C mb 25 v w=(v= .int .i64 C.p.aG.l.length):=by simp[bh]
theorem s25(hC:mI C)(h:dP C mb listed a w)(cC:Shuts .any av listed)(hs:listed.size=av.size)(hl:listed.getD 25 BR=Bj)(hd:∀j,eV .any av 25 j=BR->listed.getD j Bj=BR):wpOp pG av Q 25 (lI C listed 25) a w:=by
 obtain⟨o,ho,hg,cw,hop⟩:=o25;have e40:=h.val (24,40) dz (hd 24 kz);rw[aJm]at e40;exact fQ ho hg cw dz h cC hl (SB hop e40) (by rw[aJq])
theorem o31:∃o,av[31]?=Ai o/\o.guard=Ag/\o.dst=Ai 46/\o.op= .call {callee:= .builtin .len,args:= #[.tmp 45],argTypes:= #[36]}:=⟨_,rfl,rfl,rfl,rfl⟩
theorem aJr{v:Bn}:bh C mb 31 v w=(v= .int .i64 C.p.aX.l.length):=by simp[bh]
theorem s31(hC:mI C)(h:dP C mb listed a w)(cC:Shuts .any av listed)(hs:listed.size=av.size)(hl:listed.getD 31 BR=Bj)(hd:∀j,eV .any av 31 j=BR->listed.getD j Bj=BR):wpOp pG av Q 31 (lI C listed 31) a w:=by
 obtain⟨o,ho,hg,cw,hop⟩:=o31;have e45:=h.val (30,45) dz (hd 30 kz);rw[aJn]at e45;exact fQ ho hg cw dz h cC hl (SB hop e45) (by rw[aJr])
theorem o5:∃o,av[5]?=Ai o/\o.guard=Ag/\o.dst=Ai 27/\o.op= .call {callee:= .value (.tmp 26),args:= #[.const (.int .i64 4)],argTypes:= #[3]}:=⟨_,rfl,rfl,rfl,rfl⟩
theorem vs5{v:Bn}:bh C mb 5 v w=(dw C 4 v w):=by simp[bh]
theorem s5(hC:mI C)(h:dP C mb listed a w)(cC:Shuts .any av listed)(hs:listed.size=av.size)(hl:listed.getD 5 BR=Bj)(hd:∀j,eV .any av 5 j=BR->listed.getD j Bj=BR):wpOp pG av Q 5 (lI C listed 5) a w:=by
 obtain⟨o,ho,hg,cw,hop⟩:=o5;have e26:=h.val (4,26) dz (hd 4 kz);rw[vs4]at e26;refine oP ho hg cw dz h cC hl (jr (Df func163 kz rfl) hop e26 rfl) ((ng 4 w).mono ?_);rintro e w' ⟨rfl,rfl⟩;exact⟨_,rfl,bN,by rw[vs5];exact⟨_,rfl,(ah.new w _ _).cell 0⟩⟩
theorem o8:∃o,av[8]?=Ai o/\o.guard=Ag/\o.dst=Ai 29/\o.op= .call {callee:= .value (.tmp 28),args:= #[.const (.int .i64 256)],argTypes:= #[3]}:=⟨_,rfl,rfl,rfl,rfl⟩
theorem vs8{v:Bn}:bh C mb 8 v w=(dw C 256 v w):=by simp[bh]
theorem s8(hC:mI C)(h:dP C mb listed a w)(cC:Shuts .any av listed)(hs:listed.size=av.size)(hl:listed.getD 8 BR=Bj)(hd:∀j,eV .any av 8 j=BR->listed.getD j Bj=BR):wpOp pG av Q 8 (lI C listed 8) a w:=by
 obtain⟨o,ho,hg,cw,hop⟩:=o8;have e28:=h.val (7,28) dz (hd 7 kz);rw[vs7]at e28;refine oP ho hg cw dz h cC hl (jr (Df func163 kz rfl) hop e28 rfl) ((ng 256 w).mono ?_);rintro e w' ⟨rfl,rfl⟩;exact⟨_,rfl,bN,by rw[vs8];exact⟨_,rfl,(ah.new w _ _).cell 0⟩⟩
theorem o11:∃o,av[11]?=Ai o/\o.guard=Ag/\o.dst=Ai 31/\o.op= .call {callee:= .value (.tmp 30),args:= #[.const (.int .i64 256)],argTypes:= #[3]}:=⟨_,rfl,rfl,rfl,rfl⟩
theorem aJs{v:Bn}:bh C mb 11 v w=(dw C 256 v w):=by simp[bh]
theorem s11(hC:mI C)(h:dP C mb listed a w)(cC:Shuts .any av listed)(hs:listed.size=av.size)(hl:listed.getD 11 BR=Bj)(hd:∀j,eV .any av 11 j=BR->listed.getD j Bj=BR):wpOp pG av Q 11 (lI C listed 11) a w:=by
 obtain⟨o,ho,hg,cw,hop⟩:=o11;have e30:=h.val (10,30) dz (hd 10 kz);rw[aJY]at e30;refine oP ho hg cw dz h cC hl (jr (Df func163 kz rfl) hop e30 rfl) ((ng 256 w).mono ?_);rintro e w' ⟨rfl,rfl⟩;exact⟨_,rfl,bN,by rw[aJs];exact⟨_,rfl,(ah.new w _ _).cell 0⟩⟩
theorem o14:∃o,av[14]?=Ai o/\o.guard=Ag/\o.dst=Ai 33/\o.op= .call {callee:= .value (.tmp 32),args:= #[.const (.int .i64 4096)],argTypes:= #[3]}:=⟨_,rfl,rfl,rfl,rfl⟩
theorem aJt{v:Bn}:bh C mb 14 v w=(dw C 4096 v w):=by simp[bh]
theorem s14(hC:mI C)(h:dP C mb listed a w)(cC:Shuts .any av listed)(hs:listed.size=av.size)(hl:listed.getD 14 BR=Bj)(hd:∀j,eV .any av 14 j=BR->listed.getD j Bj=BR):wpOp pG av Q 14 (lI C listed 14) a w:=by
 obtain⟨o,ho,hg,cw,hop⟩:=o14;have e32:=h.val (13,32) dz (hd 13 kz);rw[aJZ]at e32;refine oP ho hg cw dz h cC hl (jr (Df func163 kz rfl) hop e32 rfl) ((ng 4096 w).mono ?_);rintro e w' ⟨rfl,rfl⟩;exact⟨_,rfl,bN,by rw[aJt];exact⟨_,rfl,(ah.new w _ _).cell 0⟩⟩
theorem o26:∃o,av[26]?=Ai o/\o.guard=Ag/\o.dst=Ai 42/\o.op= .call {callee:= .value (.tmp 38),args:= #[.tmp 41],argTypes:= #[3]}:=⟨_,rfl,rfl,rfl,rfl⟩
theorem aJu{v:Bn}:bh C mb 26 v w=(dw C (C.p.aG.l.length:Int) v w):=by simp[bh]
theorem s26(hC:mI C)(h:dP C mb listed a w)(cC:Shuts .any av listed)(hs:listed.size=av.size)(hl:listed.getD 26 BR=Bj)(hd:∀j,eV .any av 26 j=BR->listed.getD j Bj=BR):wpOp pG av Q 26 (lI C listed 26) a w:=by
 obtain⟨o,ho,hg,cw,hop⟩:=o26;have e38:=h.val (22,38) dz (hd 22 kz);rw[aJa]at e38;have e41:=h.val (25,41) dz (hd 25 kz);rw[aJq]at e41;refine oP ho hg cw dz h cC hl (jr (Df func163 kz rfl) hop e38 e41) ((ng (C.p.aG.l.length:Int) w).mono ?_);rintro e w' ⟨rfl,rfl⟩;exact⟨_,rfl,bN,by rw[aJu];exact⟨_,rfl,(ah.new w _ _).cell 0⟩⟩
theorem o32:∃o,av[32]?=Ai o/\o.guard=Ag/\o.dst=Ai 47/\o.op= .call {callee:= .value (.tmp 43),args:= #[.tmp 46],argTypes:= #[3]}:=⟨_,rfl,rfl,rfl,rfl⟩
theorem aJv{v:Bn}:bh C mb 32 v w=(dw C (C.p.aX.l.length:Int) v w):=by simp[bh]
theorem s32(hC:mI C)(h:dP C mb listed a w)(cC:Shuts .any av listed)(hs:listed.size=av.size)(hl:listed.getD 32 BR=Bj)(hd:∀j,eV .any av 32 j=BR->listed.getD j Bj=BR):wpOp pG av Q 32 (lI C listed 32) a w:=by
 obtain⟨o,ho,hg,cw,hop⟩:=o32;have e43:=h.val (28,43) dz (hd 28 kz);rw[aJb]at e43;have e46:=h.val (31,46) dz (hd 31 kz);rw[aJr]at e46;refine oP ho hg cw dz h cC hl (jr (Df func163 kz rfl) hop e43 e46) ((ng (C.p.aX.l.length:Int) w).mono ?_);rintro e w' ⟨rfl,rfl⟩;exact⟨_,rfl,bN,by rw[aJv];exact⟨_,rfl,(ah.new w _ _).cell 0⟩⟩
theorem o37:∃o,av[37]?=Ai o/\o.guard=Ag/\o.dst=Ai 51/\o.op= .call {callee:= .value (.tmp 48),args:= #[.tmp 50],argTypes:= #[3]}:=⟨_,rfl,rfl,rfl,rfl⟩
theorem aJw{v:Bn}:bh C mb 37 v w=(dw C C.p.ev v w):=by simp[bh]
theorem s37(hC:mI C)(h:dP C mb listed a w)(cC:Shuts .any av listed)(hs:listed.size=av.size)(hl:listed.getD 37 BR=Bj)(hd:∀j,eV .any av 37 j=BR->listed.getD j Bj=BR):wpOp pG av Q 37 (lI C listed 37) a w:=by
 obtain⟨o,ho,hg,cw,hop⟩:=o37;have e48:=h.val (34,48) dz (hd 34 kz);rw[aJc]at e48;have e50:=h.val (36,50) dz (hd 36 kz);rw[aJo]at e50;refine oP ho hg cw dz h cC hl (jr (Df func163 kz rfl) hop e48 e50) ((ng C.p.ev w).mono ?_);rintro e w' ⟨rfl,rfl⟩;exact⟨_,rfl,bN,by rw[aJw];exact⟨_,rfl,(ah.new w _ _).cell 0⟩⟩
theorem o42:∃o,av[42]?=Ai o/\o.guard=Ag/\o.dst=Ai 55/\o.op= .call {callee:= .value (.tmp 52),args:= #[.tmp 54],argTypes:= #[3]}:=⟨_,rfl,rfl,rfl,rfl⟩
theorem aJx{v:Bn}:bh C mb 42 v w=(dw C C.p.bo v w):=by simp[bh]
theorem s42(hC:mI C)(h:dP C mb listed a w)(cC:Shuts .any av listed)(hs:listed.size=av.size)(hl:listed.getD 42 BR=Bj)(hd:∀j,eV .any av 42 j=BR->listed.getD j Bj=BR):wpOp pG av Q 42 (lI C listed 42) a w:=by
 obtain⟨o,ho,hg,cw,hop⟩:=o42;have e52:=h.val (39,52) dz (hd 39 kz);rw[aJd]at e52;have e54:=h.val (41,54) dz (hd 41 kz);rw[aJp]at e54;refine oP ho hg cw dz h cC hl (jr (Df func163 kz rfl) hop e52 e54) ((ng C.p.bo w).mono ?_);rintro e w' ⟨rfl,rfl⟩;exact⟨_,rfl,bN,by rw[aJx];exact⟨_,rfl,(ah.new w _ _).cell 0⟩⟩
theorem o46:∃o,av[46]?=Ai o/\o.guard=Ag/\o.dst=Ai 58/\o.op= .call {callee:= .value (.tmp 56),args:= #[.tmp 57],argTypes:= #[3]}:=⟨_,rfl,rfl,rfl,rfl⟩
theorem aJy{v:Bn}:bh C mb 46 v w=(dw C C.n v w):=by simp[bh]
theorem s46(hC:mI C)(h:dP C mb listed a w)(cC:Shuts .any av listed)(hs:listed.size=av.size)(hl:listed.getD 46 BR=Bj)(hd:∀j,eV .any av 46 j=BR->listed.getD j Bj=BR):wpOp pG av Q 46 (lI C listed 46) a w:=by
 obtain⟨o,ho,hg,cw,hop⟩:=o46;have e56:=h.val (44,56) dz (hd 44 kz);rw[aJe]at e56;have e57:=h.val (45,57) dz (hd 45 kz);rw[aJh]at e57;refine oP ho hg cw dz h cC hl (jr (Df func163 kz rfl) hop e56 e57) ((ng C.n w).mono ?_);rintro e w' ⟨rfl,rfl⟩;exact⟨_,rfl,bN,by rw[aJy];exact⟨_,rfl,(ah.new w _ _).cell 0⟩⟩
theorem o17:∃o,av[17]?=Ai o/\o.guard=Ag/\o.dst=Ai 35/\o.op= .call {callee:= .value (.tmp 34),args:= #[.const (.bool BR)],argTypes:= #[4]}:=⟨_,rfl,rfl,rfl,rfl⟩
theorem aJz{v:Bn}:bh C mb 17 v w=(mH C BR v w):=by simp[bh]
theorem s17(hC:mI C)(h:dP C mb listed a w)(cC:Shuts .any av listed)(hs:listed.size=av.size)(hl:listed.getD 17 BR=Bj)(hd:∀j,eV .any av 17 j=BR->listed.getD j Bj=BR):wpOp pG av Q 17 (lI C listed 17) a w:=by
 obtain⟨o,ho,hg,cw,hop⟩:=o17;have e34:=h.val (16,34) dz (hd 16 kz);rw[aJf]at e34;refine oP ho hg cw dz h cC hl (jr (Df func161 kz rfl) hop e34 rfl) ((Sd BR C.g3 w).mono ?_);rintro e w' ⟨rfl,rfl⟩;exact⟨_,rfl,bN,by rw[aJz];exact⟨_,rfl,(ah.new w _ _).cell 0⟩⟩
theorem o20:∃o,av[20]?=Ai o/\o.guard=Ag/\o.dst=Ai 37/\o.op= .call {callee:= .value (.tmp 36),args:= #[.const (.bool Bj)],argTypes:= #[4]}:=⟨_,rfl,rfl,rfl,rfl⟩
theorem aJ0{v:Bn}:bh C mb 20 v w=(mH C Bj v w):=by simp[bh]
theorem s20(hC:mI C)(h:dP C mb listed a w)(cC:Shuts .any av listed)(hs:listed.size=av.size)(hl:listed.getD 20 BR=Bj)(hd:∀j,eV .any av 20 j=BR->listed.getD j Bj=BR):wpOp pG av Q 20 (lI C listed 20) a w:=by
 obtain⟨o,ho,hg,cw,hop⟩:=o20;have e36:=h.val (19,36) dz (hd 19 kz);rw[aJg]at e36;refine oP ho hg cw dz h cC hl (jr (Df func161 kz rfl) hop e36 rfl) ((Sd Bj C.g3 w).mono ?_);rintro e w' ⟨rfl,rfl⟩;exact⟨_,rfl,bN,by rw[aJ0];exact⟨_,rfl,(ah.new w _ _).cell 0⟩⟩
theorem o1:∃o,av[1]?=Ai o/\o.guard=Ag/\o.dst=Ag/\o.op= .insert 214 (.tmp 24) (.const (.int .i32 119)) (.func 165):=⟨_,rfl,rfl,rfl,rfl⟩
theorem s1(hC:mI C)(h:dP C mb listed a w)(cC:Shuts .any av listed)(hs:listed.size=av.size)(hl:listed.getD 1 BR=Bj)(hd:∀j,eV .any av 1 j=BR->listed.getD j Bj=BR):wpOp pG av Q 1 (lI C listed 1) a w:=by
 obtain⟨o,ho,hg,cw,hop⟩:=o1;exact lJ (q:=⟨1,119,0,0⟩) (by simp[iz]) ho hg cw hop rfl h cC hl (hd 0 kz)
theorem o3:∃o,av[3]?=Ai o/\o.guard=Ag/\o.dst=Ag/\o.op= .insert 214 (.tmp 24) (.const (.int .i32 108)) (.tmp 25):=⟨_,rfl,rfl,rfl,rfl⟩
theorem s3(hC:mI C)(h:dP C mb listed a w)(cC:Shuts .any av listed)(hs:listed.size=av.size)(hl:listed.getD 3 BR=Bj)(hd:∀j,eV .any av 3 j=BR->listed.getD j Bj=BR):wpOp pG av Q 3 (lI C listed 3) a w:=by
 obtain⟨o,ho,hg,cw,hop⟩:=o3;exact lJ (q:=⟨3,108,25,2⟩) (by simp[iz]) ho hg cw hop rfl h cC hl (hd 0 kz)
theorem o6:∃o,av[6]?=Ai o/\o.guard=Ag/\o.dst=Ag/\o.op= .insert 214 (.tmp 24) (.const (.int .i32 114)) (.tmp 27):=⟨_,rfl,rfl,rfl,rfl⟩
theorem s6(hC:mI C)(h:dP C mb listed a w)(cC:Shuts .any av listed)(hs:listed.size=av.size)(hl:listed.getD 6 BR=Bj)(hd:∀j,eV .any av 6 j=BR->listed.getD j Bj=BR):wpOp pG av Q 6 (lI C listed 6) a w:=by
 obtain⟨o,ho,hg,cw,hop⟩:=o6;exact lJ (q:=⟨6,114,27,5⟩) (by simp[iz]) ho hg cw hop rfl h cC hl (hd 0 kz)
theorem o9:∃o,av[9]?=Ai o/\o.guard=Ag/\o.dst=Ag/\o.op= .insert 214 (.tmp 24) (.const (.int .i32 118)) (.tmp 29):=⟨_,rfl,rfl,rfl,rfl⟩
theorem s9(hC:mI C)(h:dP C mb listed a w)(cC:Shuts .any av listed)(hs:listed.size=av.size)(hl:listed.getD 9 BR=Bj)(hd:∀j,eV .any av 9 j=BR->listed.getD j Bj=BR):wpOp pG av Q 9 (lI C listed 9) a w:=by
 obtain⟨o,ho,hg,cw,hop⟩:=o9;exact lJ (q:=⟨9,118,29,8⟩) (by simp[iz]) ho hg cw hop rfl h cC hl (hd 0 kz)
theorem o12:∃o,av[12]?=Ai o/\o.guard=Ag/\o.dst=Ag/\o.op= .insert 214 (.tmp 24) (.const (.int .i32 99)) (.tmp 31):=⟨_,rfl,rfl,rfl,rfl⟩
theorem s12(hC:mI C)(h:dP C mb listed a w)(cC:Shuts .any av listed)(hs:listed.size=av.size)(hl:listed.getD 12 BR=Bj)(hd:∀j,eV .any av 12 j=BR->listed.getD j Bj=BR):wpOp pG av Q 12 (lI C listed 12) a w:=by
 obtain⟨o,ho,hg,cw,hop⟩:=o12;exact lJ (q:=⟨12,99,31,11⟩) (by simp[iz]) ho hg cw hop rfl h cC hl (hd 0 kz)
theorem o15:∃o,av[15]?=Ai o/\o.guard=Ag/\o.dst=Ag/\o.op= .insert 214 (.tmp 24) (.const (.int .i32 97)) (.tmp 33):=⟨_,rfl,rfl,rfl,rfl⟩
theorem s15(hC:mI C)(h:dP C mb listed a w)(cC:Shuts .any av listed)(hs:listed.size=av.size)(hl:listed.getD 15 BR=Bj)(hd:∀j,eV .any av 15 j=BR->listed.getD j Bj=BR):wpOp pG av Q 15 (lI C listed 15) a w:=by
 obtain⟨o,ho,hg,cw,hop⟩:=o15;exact lJ (q:=⟨15,97,33,14⟩) (by simp[iz]) ho hg cw hop rfl h cC hl (hd 0 kz)
theorem o18:∃o,av[18]?=Ai o/\o.guard=Ag/\o.dst=Ag/\o.op= .insert 214 (.tmp 24) (.const (.int .i32 111)) (.tmp 35):=⟨_,rfl,rfl,rfl,rfl⟩
theorem s18(hC:mI C)(h:dP C mb listed a w)(cC:Shuts .any av listed)(hs:listed.size=av.size)(hl:listed.getD 18 BR=Bj)(hd:∀j,eV .any av 18 j=BR->listed.getD j Bj=BR):wpOp pG av Q 18 (lI C listed 18) a w:=by
 obtain⟨o,ho,hg,cw,hop⟩:=o18;exact lJ (q:=⟨18,111,35,17⟩) (by simp[iz]) ho hg cw hop rfl h cC hl (hd 0 kz)
theorem o21:∃o,av[21]?=Ai o/\o.guard=Ag/\o.dst=Ag/\o.op= .insert 214 (.tmp 24) (.const (.int .i32 105)) (.tmp 37):=⟨_,rfl,rfl,rfl,rfl⟩
theorem s21(hC:mI C)(h:dP C mb listed a w)(cC:Shuts .any av listed)(hs:listed.size=av.size)(hl:listed.getD 21 BR=Bj)(hd:∀j,eV .any av 21 j=BR->listed.getD j Bj=BR):wpOp pG av Q 21 (lI C listed 21) a w:=by
 obtain⟨o,ho,hg,cw,hop⟩:=o21;exact lJ (q:=⟨21,105,37,20⟩) (by simp[iz]) ho hg cw hop rfl h cC hl (hd 0 kz)
theorem o27:∃o,av[27]?=Ai o/\o.guard=Ag/\o.dst=Ag/\o.op= .insert 214 (.tmp 24) (.const (.int .i32 115)) (.tmp 42):=⟨_,rfl,rfl,rfl,rfl⟩
theorem s27(hC:mI C)(h:dP C mb listed a w)(cC:Shuts .any av listed)(hs:listed.size=av.size)(hl:listed.getD 27 BR=Bj)(hd:∀j,eV .any av 27 j=BR->listed.getD j Bj=BR):wpOp pG av Q 27 (lI C listed 27) a w:=by
 obtain⟨o,ho,hg,cw,hop⟩:=o27;exact lJ (q:=⟨27,115,42,26⟩) (by simp[iz]) ho hg cw hop rfl h cC hl (hd 0 kz)
theorem o33:∃o,av[33]?=Ai o/\o.guard=Ag/\o.dst=Ag/\o.op= .insert 214 (.tmp 24) (.const (.int .i32 98)) (.tmp 47):=⟨_,rfl,rfl,rfl,rfl⟩
theorem s33(hC:mI C)(h:dP C mb listed a w)(cC:Shuts .any av listed)(hs:listed.size=av.size)(hl:listed.getD 33 BR=Bj)(hd:∀j,eV .any av 33 j=BR->listed.getD j Bj=BR):wpOp pG av Q 33 (lI C listed 33) a w:=by
 obtain⟨o,ho,hg,cw,hop⟩:=o33;exact lJ (q:=⟨33,98,47,32⟩) (by simp[iz]) ho hg cw hop rfl h cC hl (hd 0 kz)
theorem o38:∃o,av[38]?=Ai o/\o.guard=Ag/\o.dst=Ag/\o.op= .insert 214 (.tmp 24) (.const (.int .i32 101)) (.tmp 51):=⟨_,rfl,rfl,rfl,rfl⟩
theorem s38(hC:mI C)(h:dP C mb listed a w)(cC:Shuts .any av listed)(hs:listed.size=av.size)(hl:listed.getD 38 BR=Bj)(hd:∀j,eV .any av 38 j=BR->listed.getD j Bj=BR):wpOp pG av Q 38 (lI C listed 38) a w:=by
 obtain⟨o,ho,hg,cw,hop⟩:=o38;exact lJ (q:=⟨38,101,51,37⟩) (by simp[iz]) ho hg cw hop rfl h cC hl (hd 0 kz)
theorem o43:∃o,av[43]?=Ai o/\o.guard=Ag/\o.dst=Ag/\o.op= .insert 214 (.tmp 24) (.const (.int .i32 100)) (.tmp 55):=⟨_,rfl,rfl,rfl,rfl⟩
theorem s43(hC:mI C)(h:dP C mb listed a w)(cC:Shuts .any av listed)(hs:listed.size=av.size)(hl:listed.getD 43 BR=Bj)(hd:∀j,eV .any av 43 j=BR->listed.getD j Bj=BR):wpOp pG av Q 43 (lI C listed 43) a w:=by
 obtain⟨o,ho,hg,cw,hop⟩:=o43;exact lJ (q:=⟨43,100,55,42⟩) (by simp[iz]) ho hg cw hop rfl h cC hl (hd 0 kz)
theorem o47:∃o,av[47]?=Ai o/\o.guard=Ag/\o.dst=Ag/\o.op= .insert 214 (.tmp 24) (.const (.int .i32 106)) (.tmp 58):=⟨_,rfl,rfl,rfl,rfl⟩
theorem s47(hC:mI C)(h:dP C mb listed a w)(cC:Shuts .any av listed)(hs:listed.size=av.size)(hl:listed.getD 47 BR=Bj)(hd:∀j,eV .any av 47 j=BR->listed.getD j Bj=BR):wpOp pG av Q 47 (lI C listed 47) a w:=by
 obtain⟨o,ho,hg,cw,hop⟩:=o47;exact lJ (q:=⟨47,106,58,46⟩) (by simp[iz]) ho hg cw hop rfl h cC hl (hd 0 kz)
theorem o48:∃o,av[48]?=Ai o/\o.guard=Ag/\o.dst=Ai 59/\o.op= .move (.tmp 24):=⟨_,rfl,rfl,rfl,rfl⟩
theorem aFZ{v:Bn}:bh C mb 48 v w=(v= .map (Ai mb)):=by simp[bh]
theorem s48(hC:mI C)(h:dP C mb listed a w)(cC:Shuts .any av listed)(hs:listed.size=av.size)(hl:listed.getD 48 BR=Bj)(hd:∀j,eV .any av 48 j=BR->listed.getD j Bj=BR):wpOp pG av Q 48 (lI C listed 48) a w:=by
 obtain⟨o,ho,hg,cw,hop⟩:=o48;obtain⟨k,D,e1,_⟩:=h.map (hd 0 kz);exact fQ ho hg cw dz h cC hl (run_move hop e1) (by rw[aFZ])
theorem o49:∃o,av[49]?=Ai o/\o.guard=Ag/\o.dst=Ai 11/\o.op= .assign (.tmp 59):=⟨_,rfl,rfl,rfl,rfl⟩
theorem aJ1{v:Bn}:bh C mb 49 v w=(v= .map (Ai mb)):=by simp[bh]
theorem s49(hC:mI C)(h:dP C mb listed a w)(cC:Shuts .any av listed)(hs:listed.size=av.size)(hl:listed.getD 49 BR=Bj)(hd:∀j,eV .any av 49 j=BR->listed.getD j Bj=BR):wpOp pG av Q 49 (lI C listed 49) a w:=by
 obtain⟨o,ho,hg,cw,hop⟩:=o49;have e59:=h.val (48,59) dz (hd 48 kz);rw[aFZ]at e59;exact fQ ho hg cw dz h cC hl (run_assign hop e59) (by rw[aJ1])
theorem UA(hC:mI C)(h0:dP C mb (G5 50 Bj) a w)(hQ:∀mb a' w',dP C mb (G5 50 BR) a' w'->Q .normal a' w'):
 wpAny pG .any av Q 50 (G5 50 Bj) a w:=by
 refine J6 kz (λlisted a w=>listed.size=50/\∃mb,dP C mb listed a w) ?_ ?_ 50 _ a w (by rw[SA];rfl) dz (λi j _ hi=>absurd hi (by
  have:((G5 50 Bj).getD i Bj)=false:=by
   rcases Ii i 50 with h' | h'
   .simp[Array.getD,h']
   .simp[Array.getD,h']
  rw[this];decide)) ⟨rfl,mb,h0⟩
 .rintro listed a w i o ⟨hz,mb,h⟩ cC hs ho hl aJ
  have hi:i<50:=by have:=(gE ho).1;rw[SA]at this;exact this
  have hd:∀j,eV .any av i j=BR->listed.getD j Bj=true:=λj hj=>by
   obtain⟨e,he,hb,rfl⟩:=MP ho hj;exact aJ e he hb
  refine wpOp_mono (K:=lI C listed i) (λa' w' hx=>⟨by simpa using hz,hx⟩) ?_;clear ho aJ;rcases(by omega:i=0\/i=1\/i=2\/i=3\/i=4\/i=5\/i=6\/i=7\/i=8\/i=9\/i=10\/i=11\/i=12\/i=13\/i=14\/i=15\/i=16\/i=17\/i=18\/i=19\/i=20\/i=21\/i=22\/i=23\/i=24\/i=25\/i=26\/i=27\/i=28\/i=29\/i=30\/i=31\/i=32\/i=33\/i=34\/i=35\/i=36\/i=37\/i=38\/i=39\/i=40\/i=41\/i=42\/i=43\/i=44\/i=45\/i=46\/i=47\/i=48\/i=49)with rfl | rfl | rfl | rfl | rfl | rfl | rfl | rfl | rfl | rfl | rfl | rfl | rfl | rfl | rfl | rfl | rfl | rfl | rfl | rfl | rfl | rfl | rfl | rfl | rfl | rfl | rfl | rfl | rfl | rfl | rfl | rfl | rfl | rfl | rfl | rfl | rfl | rfl | rfl | rfl | rfl | rfl | rfl | rfl | rfl | rfl | rfl | rfl | rfl | rfl
  .exact s0 hC h cC hs hl hd
  .exact s1 hC h cC hs hl hd
  .exact s2 hC h cC hs hl hd
  .exact s3 hC h cC hs hl hd
  .exact s4 hC h cC hs hl hd
  .exact s5 hC h cC hs hl hd
  .exact s6 hC h cC hs hl hd
  .exact s7 hC h cC hs hl hd
  .exact s8 hC h cC hs hl hd
  .exact s9 hC h cC hs hl hd
  .exact s10 hC h cC hs hl hd
  .exact s11 hC h cC hs hl hd
  .exact s12 hC h cC hs hl hd
  .exact s13 hC h cC hs hl hd
  .exact s14 hC h cC hs hl hd
  .exact s15 hC h cC hs hl hd
  .exact s16 hC h cC hs hl hd
  .exact s17 hC h cC hs hl hd
  .exact s18 hC h cC hs hl hd
  .exact s19 hC h cC hs hl hd
  .exact s20 hC h cC hs hl hd
  .exact s21 hC h cC hs hl hd
  .exact s22 hC h cC hs hl hd
  .exact s23 hC h cC hs hl hd
  .exact s24 hC h cC hs hl hd
  .exact s25 hC h cC hs hl hd
  .exact s26 hC h cC hs hl hd
  .exact s27 hC h cC hs hl hd
  .exact s28 hC h cC hs hl hd
  .exact s29 hC h cC hs hl hd
  .exact s30 hC h cC hs hl hd
  .exact s31 hC h cC hs hl hd
  .exact s32 hC h cC hs hl hd
  .exact s33 hC h cC hs hl hd
  .exact s34 hC h cC hs hl hd
  .exact s35 hC h cC hs hl hd
  .exact s36 hC h cC hs hl hd
  .exact s37 hC h cC hs hl hd
  .exact s38 hC h cC hs hl hd
  .exact s39 hC h cC hs hl hd
  .exact s40 hC h cC hs hl hd
  .exact s41 hC h cC hs hl hd
  .exact s42 hC h cC hs hl hd
  .exact s43 hC h cC hs hl hd
  .exact s44 hC h cC hs hl hd
  .exact s45 hC h cC hs hl hd
  .exact s46 hC h cC hs hl hd
  .exact s47 hC h cC hs hl hd
  .exact s48 hC h cC hs hl hd
  .exact s49 hC h cC hs hl hd
 .rintro listed a w ⟨hz,mb,h⟩ aJ
  have e:listed=G5 50 true:=by
   refine Array.ext (by simp[hz]) λi h1 h2=> ?_
   have:=aJ i (by rw[SA];omega);simpa [h1]using this
  exact hQ mb a w (e▸h)
end
def jt(v:Int):Prop:= -9223372036854775808<=v/\v<=9223372036854775807
theorem aFa(v:Int)(h:jt v)(w:Al)(hL:ct w):ET pG 281 #[.int .i64 v] w λe w'=>∃s:ByteArray,e= .returned (.string s)/\s.size<=21/\BD w.heap.size w w':=by
 refine(Any.strconv_Itoa NQ v h.1 h.2 w hL.tab).mono ?_;rintro e w2 ⟨rfl,k,os,rfl⟩;refine⟨_,rfl,?_,Go.Lib.below_grow _ _ nL _ _⟩;have:=Lib.itoa_length_le v h.1 h.2;simpa [ByteArray.size]using this
def aJ2:List Nat:=(EO 26).map fun(n:Nat)=>(xP (n:Int)).size
theorem XY:(aJ2.all λk=>decide (k<=24))=true:=by kernel_rfl
theorem XZ{n:Int}(h:n<1\/n>25):xP n=⟨#[]⟩:=by
 unfold xP nY F6;rw[Nb,if_pos (show n<1\/n>((25:Nat):Int)from h)];rfl
theorem UC(n:Int):(xP n).size<=24:=by
 by_cases h:n<1\/n>25
 .rw[XZ h];decide
 .have hn:n.toNat<26:=by omega
  have h1:=EL.1 XY (xP n.toNat).size (GR.2 ⟨n.toNat,List.mem_range.2 hn,rfl⟩);rw[Int.toNat_of_nonneg oz]at h1;exact of_decide_eq_true h1
theorem aFb(x:gu)(w:Al)(hL:ct w)(h0:0<=x.op/\x.op<=255)(ha:jt x.a)(hb:jt x.b)(hd:jt x.d):
 ET pG 237 #[x.val] w λe w'=>∃s:ByteArray,e= .returned (.string s)/\s.size<=100/\BD w.heap.size w w':=by
 have hk:=qE x.op;have hwz:=UC x.op;have TW:∀W,BD w.heap.size w W->CU 277 #[.int .u8 x.op] W (.string (xP x.op)):=λW hW=>vC x.op W (hL.below hW) h0.1 h0.2
 have hop:∀W,BD w.heap.size w W->ET pG 278 #[.agg #[.int .u8 x.op,.int .i64 x.a,.int .i64 x.b,.int .i64 x.d]] W (R6 x W):=λW hW=>vH x W (hL.below hW) h0
 have hit:∀W,BD w.heap.size w W->∀k:Nat,(hk:k<3)->ET pG 281 #[.int .i64 ([x.a,x.b,x.d][k])] W λe w'=>∃s:ByteArray,e= .returned (.string s)/\s.size<=21/\BD W.heap.size W w':=λW hW k hk=>aFa _ (by
  have:k=0\/k=1\/k=2:=by omega
  rcases this with rfl | rfl | rfl<;>assumption) W (hL.below hW)
 obtain⟨y0,bR⟩:=ez (w.alloc (.cells #[.int .u8 x.op,.int .i64 x.a,.int .i64 x.b,.int .i64 x.d] 169));have bW:BD w.heap.size w y0:=by rw[bR];exact bN
 have bS:ah y0 w.heap.size 169 #[.int .u8 x.op,.int .i64 x.a,.int .i64 x.b,.int .i64 x.d]:=by rw[bR];exact ah.new w _ _
 have k0:=bR▸bS.cell 0;have hf:∀W,BD y0.heap.size y0 W->ah W w.heap.size 169 #[.int .u8 x.op,.int .i64 x.a,.int .i64 x.b,.int .i64 x.d]:=λW hW=>bS.below hW bS.lt
 have Hf:=lz hf;have aV:=lz bW;have dV:=lz bR;have Hwd:=lz TW;have P8:=lz hop;have Hit:=lz hit;have HZ:=lz (show y0.heap.size=w.heap.size+1 by rw[bR];simp);clear bW bS bR hf TW hop hit hL h0 ha hb hd;go_enter func237,ntmps237;go_wp2_with fail;rw[<-dV.out];refine(Hwd.out y0 aV.out).mono ?_;rintro e y1 ⟨rfl,aU⟩;have cU:=lz (aV.out.trans (aU.mono aV.out.size));have DH:=Hf.out y1 aU;have c0:=DH.cell 0;have c1:=DH.cell 1;have c2:=DH.cell 2;have c3:=DH.cell 3;clear aU DH k0;generalize xP x.op=sw at *;go_wp2_with fail;refine(P8.out y1 cU.out).mono ?_;rintro e y2 ⟨B,rfl,dI,hlt,d0,d1,d2⟩;have eF:=lz (cU.out.trans (dI.mono cU.out.size));clear dI c0 c1 c2 c3;generalize (mX x.op).size=m at *;go_wp2;go_loopw [3,5,12] (λs _ i wr=>∃k:Nat,∃b:ByteArray,s= .string b/\b.size<=24+22*k/\k<=m/\i= .int .i64 k/\Hid (BD w.heap.size w wr)/\Hid (BD y2.heap.size y2 wr)) (λ_ _ i _=>m-(E8 i).toNat)
 case atStart=>exact⟨0,sw,rfl,oz,nZ,rfl,eF,lz (BK _ _)⟩
 case round=>
  obtain⟨k,b,rfl,hbz,hkm,rfl,HW,HY⟩:=hrel;by_cases sF:k<m
  .have zn:k<3:=by omega
   have hcell:wr.cell? ⟨B,k,Ag⟩=Ai (.int .i64 ([x.a,x.b,x.d][k])):=by
    have hh:y2.cell? ⟨B,k,Ag⟩=Ai (.int .i64 ([x.a,x.b,x.d][k])):=by
     have:k=0\/k=1\/k=2:=by omega
     rcases this with rfl | rfl | rfl<;>assumption
    exact(HY.out.cell (p:=⟨B,k,Ag⟩) hlt).trans hh
   have au:=Hit.out wr HW.out k zn;generalize [x.a,x.b,x.d][k]=v at hcell au;have aN:=lz au;clear au;go_wp2_with fail;refine aN.out.mono ?_;rintro e w3 ⟨s,rfl,hs,kq⟩;have yY:=lz (HW.out.trans (kq.mono HW.out.size));have pz:=lz (HY.out.trans (kq.mono HY.out.size));clear kq aN;go_wp2;go_roundw
   case rel=>
    have z32:(ByteArray.mk #[32]).size=1:=rfl;exact⟨k+1,_,rfl,by simp[ByteArray.size_append];omega,oz,by go_num,yY,pz⟩
   case measure=>simp[E8];omega
  .go_wp2_with fail
   go_ret;have z59:(ByteArray.mk #[59]).size=1:=rfl;exact⟨_,rfl,by simp[ByteArray.size_append];omega,HW.out⟩
theorem aB4(s sep:ByteArray)(b o c:Nat)(w:Al)(h:w.cell? ⟨b,o,Ag⟩=Ai (.string s)):CU 239 #[.slice (Ai ⟨b,o,Ag⟩) 1 c,.string sep] w (.string s):=by
 go_enter func239,ntmps239;go_wp2;go_ret;exact⟨rfl,BK _ _⟩
theorem aB5(s:ByteArray)(w:Al)(hs:s.size<=65536):CU 238 #[.string s] w (.tuple #[.string s,.int .i64 0]):=by
 have hz:decide (65536<s.size)=false:=dF oz;have hz2:decide ((65536:Int)<(s.size:Int))=false:=dF oz;go_enter func238,ntmps238;go_wp2_with fail;go_ret2;exact⟨rfl,BK _ _⟩
theorem aB6(x:gu)(w:Al)(hL:ct w)(h0:0<=x.op/\x.op<=255)(ha:jt x.a)(hb:jt x.b)(hd:jt x.d):
 ET pG 160 #[.slice (Ai ⟨w.heap.size,0,Ag⟩) 1 1] (w.alloc (.cells #[.int .u8 x.op,.int .i64 x.a,.int .i64 x.b,.int .i64 x.d] 169)) λe w'=>
  (∃(s:ByteArray) (z:Int),e= .returned (.tuple #[.string s,.int .i64 z])/\((z !=0)= !rB x))/\BD w.heap.size w w':=by
 obtain⟨y0,bR⟩:=ez (w.alloc (.cells #[.int .u8 x.op,.int .i64 x.a,.int .i64 x.b,.int .i64 x.d] 169));have bW:BD w.heap.size w y0:=by rw[bR];exact bN
 have bS:ah y0 w.heap.size 169 #[.int .u8 x.op,.int .i64 x.a,.int .i64 x.b,.int .i64 x.d]:=by rw[bR];exact ah.new w _ _
 rw[<-bR];have fK:ku y0 y0.heap.size (Ai ⟨w.heap.size,0,Ag⟩) [x]:=λ_=>⟨w.heap.size,0,rfl,bS.lt,λi hi=>by
  have:i=0:=by simp at hi;omega
  subst this;exact⟨bS.cell 0,bS.cell 1,bS.cell 2,bS.cell 3,⟨h0⟩⟩⟩
 have hc:=Ni 236 #[] rB (Df func236 kz rfl) [x] (Ai ⟨w.heap.size,0,Ag⟩) 1 y0 (λW r hx hW fK=>by simpa using aDS r W ((hL.below bW).below hW) fK.op0) fK qz;rw[show[x].all rB=rB x by simp]at hc;have Jf:∀W,BD w.heap.size w W->ET pG 237 #[.agg #[.int .u8 x.op,.int .i64 x.a,.int .i64 x.b,.int .i64 x.d]] W λe w'=>∃s:ByteArray,e= .returned (.string s)/\s.size<=100/\BD W.heap.size W w':=λW hW=>aFb x W (hL.below hW) h0 ha hb hd
 have Hc:=lz hc;have X7:=lz Jf;have aV:=lz bW;have sA:=lz bS;have HN0:=lz (show w.heap.size<y0.heap.size from bS.lt);clear hc Jf bW bS fK bR hL h0 ha hb hd;go_enter func160,ntmps160;go_wp2_with fail;refine Hc.out.mono ?_;rintro e y1 ⟨rfl,aU⟩;have cU:=lz (aV.out.trans (aU.mono aV.out.size));have gh:=lz (sA.out.below aU HN0.out);clear aU
 cases hq:rB x with
 | false=>
  go_wp2_with fail;go_ret2;exact⟨⟨_,_,rfl,by rw[hq];rfl⟩,cU.out⟩
 | true=>
  go_wp2;go_loopw [4,6,12] (λs _ i wr=>Hid (BD w.heap.size w wr)/\Hid (ah wr w.heap.size 169 #[.int .u8 x.op,.int .i64 x.a,.int .i64 x.b,.int .i64 x.d])/\((i= .int .i64 0/\s= .slice Ag 0 0)\/(i= .int .i64 1/\∃(t:ByteArray) (b c:Nat),t.size<=100/\s= .slice (Ai ⟨b,0,Ag⟩) 1 c/\wr.cell? ⟨b,0,Ag⟩=Ai (.string t)))) (λ_ _ i _=>1-(E8 i).toNat)
  case atStart=>exact⟨cU,gh,.inl ⟨rfl,rfl⟩⟩
  case round=>
   obtain⟨HW,HBk,⟨rfl,rfl⟩ | ⟨rfl,t,b,c,ht,rfl,hcell⟩⟩:=hrel
   .have c0:=HBk.out.cell 0
    have c1:=HBk.out.cell 1;have c2:=HBk.out.cell 2;have c3:=HBk.out.cell 3;go_wp2_with fail;have HX:=lz (X7.out (wr.alloc (.cells #[.int .u8 x.op,.int .i64 x.a,.int .i64 x.b,.int .i64 x.d] 169)) (HW.out.alloc HW.out.size _));have HWa:=lz (HW.out.alloc HW.out.size (.cells #[.int .u8 x.op,.int .i64 x.a,.int .i64 x.b,.int .i64 x.d] 169));have HBa:=lz (HBk.out.below ((BK _ wr).alloc nL (.cells #[.int .u8 x.op,.int .i64 x.a,.int .i64 x.b,.int .i64 x.d] 169)) HBk.out.lt);clear c0 c1 c2 c3;refine HX.out.mono ?_;rintro e w3 ⟨t,rfl,ht,kq⟩;have yY:=lz (HWa.out.trans (kq.mono HWa.out.size));have mP:=lz (HBa.out.below kq HBa.out.lt);clear kq HX;go_wp2_with fail;have HWb:=lz ((yY.out.alloc yY.out.size (.cells #[.string t] 9)));have HBb:=lz (mP.out.below ((BK _ w3).alloc nL (.cells #[.string t] 9)) mP.out.lt);have HZ4:=lz (show(w3.alloc (.cells #[.string t] 9)).heap.size=w3.heap.size+1 by simp);generalize (w3.alloc (.cells #[.string t] 9))=w4 at *;generalize Builtin.zeroCells #[GI {data:= #[]}] _=zs at *;have Hzb:=lz ((ah.new w4 9 (#[GI t]++zs)));have Hc0:=lz (show(#[GI t]++zs)[0]?=Ai (.string t)by rw[Array.getElem?_append_left (show 0<(#[GI t]:Array Bn).size from Nat.one_pos)];rfl);generalize Mp:(#[GI t]++zs)=cs at *;have HWc:=lz ((HWb.out.alloc HWb.out.size (.cells cs 9)).drew);have HBc:=lz (HBb.out.below ((BK _ w4).alloc nL (.cells cs 9)).drew HBb.out.lt);go_roundw
    case rel=>
     refine⟨HWc,HBc,.inr ⟨by go_num,t,_,_,ht,rfl,?_⟩⟩;rw[<-HZ4.out];exact(Hzb.out.cell 0).trans Hc0.out
    case measure=>simp[E8]
   .go_wp2_with fail
    refine(aB4 t ⟨#[32]⟩ b 0 c wr hcell).mono ?_;rintro e w3 ⟨rfl,kq⟩;have yY:=lz (HW.out.trans (kq.mono HW.out.size));clear kq hcell;go_wp2_with fail;refine(aB5 t w3 oz).mono ?_;rintro e w4 ⟨rfl,mF⟩;have Qp:=lz (yY.out.trans (mF.mono yY.out.size));clear mF;go_wp2_with fail;go_ret2;exact⟨⟨_,_,rfl,by rw[hq];rfl⟩,Qp.out⟩
theorem Ei(n i:Nat):(G5 n Bj).getD i Bj=false:=by
 rcases Ii i n with h' | h'
 .simp[Array.getD,h']
 .simp[Array.getD,h']
theorem cg{n i:Nat}(h:i<n):(G5 n BR).getD i Bj=true:=by simp[Array.getD,h]
theorem dP.first(C:Ctx)(mb:Nat)(hd:C.a0.defers= [])(hz:C.a0.tmps.size=83)(w:Al)(hb:BD C.w0.heap.size C.w0 w):dP C mb (G5 50 Bj) C.a0 w:=
 ⟨hd,hz,λ_ _ _=>rfl,hb,λq _ h=>(by rw[Ei]at h;cases h),λh=>(by rw[Ei]at h;cases h)⟩
theorem aFd(xs:Array Bn)(n:Nat)(h:xs.size=n):xs=((EO n).map (λj=>xs.getD j BA)).toArray:=by
 refine Array.ext (by simp[h]) λi h1 h2=> ?_
 simp[h1]
structure aJ3(C:Ctx)(w:Al)(mb:Nat)(D:DataW Bn):Prop where
 fw:D.atKey (kI 119) ni= .held (Uz 165)
 fl:∃v,D.atKey (kI 108) ni= .held v/\(v= .func (.func 166) #[] #[pt C.g5 0,pt C.g3 0])
 fr:∃v,D.atKey (kI 114) ni= .held v/\(dw C 4 v w)
 fv:∃v,D.atKey (kI 118) ni= .held v/\(dw C 256 v w)
 fc:∃v,D.atKey (kI 99) ni= .held v/\(dw C 256 v w)
 fa:∃v,D.atKey (kI 97) ni= .held v/\(dw C 4096 v w)
 fo:∃v,D.atKey (kI 111) ni= .held v/\(mH C BR v w)
 fi:∃v,D.atKey (kI 105) ni= .held v/\(mH C Bj v w)
 fs:∃v,D.atKey (kI 115) ni= .held v/\(dw C (C.p.aG.l.length:Int) v w)
 fb:∃v,D.atKey (kI 98) ni= .held v/\(dw C (C.p.aX.l.length:Int) v w)
 fe:∃v,D.atKey (kI 101) ni= .held v/\(dw C C.p.ev v w)
 fd:∃v,D.atKey (kI 100) ni= .held v/\(dw C C.p.bo v w)
 fj:∃v,D.atKey (kI 106) ni= .held v/\(dw C C.n v w)
theorem aFe{C:Ctx}{mb:Nat}{tm:Array Bn}{df:List Deferred}{w:Al}(h:dP C mb (G5 50 BR) ⟨tm,df⟩ w):
 ∃t25 t26 t27 t28 t29 t30 t31 t32 t33 t34 t35 t36 t37 t38 t39 t40 t41 t42 t43 t44 t45 t46 t47 t48 t49 t50 t51 t52 t53 t54 t55 t56 t57 t58:Bn,df= []/\tm= #[sl C.a0 0,sl C.a0 1,sl C.a0 2,sl C.a0 3,sl C.a0 4,sl C.a0 5,sl C.a0 6,sl C.a0 7,sl C.a0 8,sl C.a0 9,sl C.a0 10,.map (Ai mb),sl C.a0 12,sl C.a0 13,sl C.a0 14,sl C.a0 15,sl C.a0 16,sl C.a0 17,sl C.a0 18,sl C.a0 19,sl C.a0 20,sl C.a0 21,sl C.a0 22,sl C.a0 23,.map (Ai mb),t25,t26,t27,t28,t29,t30,t31,t32,t33,t34,t35,t36,t37,t38,t39,t40,t41,t42,t43,t44,t45,t46,t47,t48,t49,t50,t51,t52,t53,t54,t55,t56,t57,t58,.map (Ai mb),sl C.a0 60,sl C.a0 61,sl C.a0 62,sl C.a0 63,sl C.a0 64,sl C.a0 65,sl C.a0 66,sl C.a0 67,sl C.a0 68,sl C.a0 69,sl C.a0 70,sl C.a0 71,sl C.a0 72,sl C.a0 73,sl C.a0 74,sl C.a0 75,sl C.a0 76,sl C.a0 77,sl C.a0 78,sl C.a0 79,sl C.a0 80,sl C.a0 81,sl C.a0 82]/\BD C.w0.heap.size C.w0 w/\∃k D,C.w0.heap.size<=mb/\j4 w mb k D/\aJ3 C w mb D:=by
 obtain⟨k,D,m1,m2,m3,_,m5⟩:=h.map (cg dz);have o0:tm.getD 0 BA=sl C.a0 0:=h.old 0 dz dz;have o1:tm.getD 1 BA=sl C.a0 1:=h.old 1 dz dz;have o2:tm.getD 2 BA=sl C.a0 2:=h.old 2 dz dz;have o3:tm.getD 3 BA=sl C.a0 3:=h.old 3 dz dz;have o4:tm.getD 4 BA=sl C.a0 4:=h.old 4 dz dz;have o5:tm.getD 5 BA=sl C.a0 5:=h.old 5 dz dz;have o6:tm.getD 6 BA=sl C.a0 6:=h.old 6 dz dz;have o7:tm.getD 7 BA=sl C.a0 7:=h.old 7 dz dz;have o8:tm.getD 8 BA=sl C.a0 8:=h.old 8 dz dz;have o9:tm.getD 9 BA=sl C.a0 9:=h.old 9 dz dz;have o10:tm.getD 10 BA=sl C.a0 10:=h.old 10 dz dz;have o12:tm.getD 12 BA=sl C.a0 12:=h.old 12 dz dz;have o13:tm.getD 13 BA=sl C.a0 13:=h.old 13 dz dz;have o14:tm.getD 14 BA=sl C.a0 14:=h.old 14 dz dz;have o15:tm.getD 15 BA=sl C.a0 15:=h.old 15 dz dz;have o16:tm.getD 16 BA=sl C.a0 16:=h.old 16 dz dz;have o17:tm.getD 17 BA=sl C.a0 17:=h.old 17 dz dz;have o18:tm.getD 18 BA=sl C.a0 18:=h.old 18 dz dz;have o19:tm.getD 19 BA=sl C.a0 19:=h.old 19 dz dz;have o20:tm.getD 20 BA=sl C.a0 20:=h.old 20 dz dz;have o21:tm.getD 21 BA=sl C.a0 21:=h.old 21 dz dz;have o22:tm.getD 22 BA=sl C.a0 22:=h.old 22 dz dz;have o23:tm.getD 23 BA=sl C.a0 23:=h.old 23 dz dz;have o60:tm.getD 60 BA=sl C.a0 60:=h.old 60 dz dz;have o61:tm.getD 61 BA=sl C.a0 61:=h.old 61 dz dz;have o62:tm.getD 62 BA=sl C.a0 62:=h.old 62 dz dz;have o63:tm.getD 63 BA=sl C.a0 63:=h.old 63 dz dz;have o64:tm.getD 64 BA=sl C.a0 64:=h.old 64 dz dz;have o65:tm.getD 65 BA=sl C.a0 65:=h.old 65 dz dz;have o66:tm.getD 66 BA=sl C.a0 66:=h.old 66 dz dz;have o67:tm.getD 67 BA=sl C.a0 67:=h.old 67 dz dz;have o68:tm.getD 68 BA=sl C.a0 68:=h.old 68 dz dz;have o69:tm.getD 69 BA=sl C.a0 69:=h.old 69 dz dz;have o70:tm.getD 70 BA=sl C.a0 70:=h.old 70 dz dz;have o71:tm.getD 71 BA=sl C.a0 71:=h.old 71 dz dz;have o72:tm.getD 72 BA=sl C.a0 72:=h.old 72 dz dz;have o73:tm.getD 73 BA=sl C.a0 73:=h.old 73 dz dz;have o74:tm.getD 74 BA=sl C.a0 74:=h.old 74 dz dz;have o75:tm.getD 75 BA=sl C.a0 75:=h.old 75 dz dz;have o76:tm.getD 76 BA=sl C.a0 76:=h.old 76 dz dz;have o77:tm.getD 77 BA=sl C.a0 77:=h.old 77 dz dz;have o78:tm.getD 78 BA=sl C.a0 78:=h.old 78 dz dz;have o79:tm.getD 79 BA=sl C.a0 79:=h.old 79 dz dz;have o80:tm.getD 80 BA=sl C.a0 80:=h.old 80 dz dz;have o81:tm.getD 81 BA=sl C.a0 81:=h.old 81 dz dz;have o82:tm.getD 82 BA=sl C.a0 82:=h.old 82 dz dz;have o24:tm.getD 24 BA= .map (Ai mb):=m1;have o59:=h.val (48,59) dz (cg dz);rw[aFZ]at o59;have o11:=h.val (49,11) dz (cg dz);rw[aJ1]at o11;have aOu:tm.getD 59 BA= .map (Ai mb):=o59;have aOv:tm.getD 11 BA= .map (Ai mb):=o11;refine⟨tm.getD 25 BA,tm.getD 26 BA,tm.getD 27 BA,tm.getD 28 BA,tm.getD 29 BA,tm.getD 30 BA,tm.getD 31 BA,tm.getD 32 BA,tm.getD 33 BA,tm.getD 34 BA,tm.getD 35 BA,tm.getD 36 BA,tm.getD 37 BA,tm.getD 38 BA,tm.getD 39 BA,tm.getD 40 BA,tm.getD 41 BA,tm.getD 42 BA,tm.getD 43 BA,tm.getD 44 BA,tm.getD 45 BA,tm.getD 46 BA,tm.getD 47 BA,tm.getD 48 BA,tm.getD 49 BA,tm.getD 50 BA,tm.getD 51 BA,tm.getD 52 BA,tm.getD 53 BA,tm.getD 54 BA,tm.getD 55 BA,tm.getD 56 BA,tm.getD 57 BA,tm.getD 58 BA,h.df,?_,h.lE,k,D,m2,m3,?_⟩
 .refine(aFd tm 83 h.sz).trans ?_
  show #[tm.getD 0 BA,tm.getD 1 BA,tm.getD 2 BA,tm.getD 3 BA,tm.getD 4 BA,tm.getD 5 BA,tm.getD 6 BA,tm.getD 7 BA,tm.getD 8 BA,tm.getD 9 BA,tm.getD 10 BA,tm.getD 11 BA,tm.getD 12 BA,tm.getD 13 BA,tm.getD 14 BA,tm.getD 15 BA,tm.getD 16 BA,tm.getD 17 BA,tm.getD 18 BA,tm.getD 19 BA,tm.getD 20 BA,tm.getD 21 BA,tm.getD 22 BA,tm.getD 23 BA,tm.getD 24 BA,tm.getD 25 BA,tm.getD 26 BA,tm.getD 27 BA,tm.getD 28 BA,tm.getD 29 BA,tm.getD 30 BA,tm.getD 31 BA,tm.getD 32 BA,tm.getD 33 BA,tm.getD 34 BA,tm.getD 35 BA,tm.getD 36 BA,tm.getD 37 BA,tm.getD 38 BA,tm.getD 39 BA,tm.getD 40 BA,tm.getD 41 BA,tm.getD 42 BA,tm.getD 43 BA,tm.getD 44 BA,tm.getD 45 BA,tm.getD 46 BA,tm.getD 47 BA,tm.getD 48 BA,tm.getD 49 BA,tm.getD 50 BA,tm.getD 51 BA,tm.getD 52 BA,tm.getD 53 BA,tm.getD 54 BA,tm.getD 55 BA,tm.getD 56 BA,tm.getD 57 BA,tm.getD 58 BA,tm.getD 59 BA,tm.getD 60 BA,tm.getD 61 BA,tm.getD 62 BA,tm.getD 63 BA,tm.getD 64 BA,tm.getD 65 BA,tm.getD 66 BA,tm.getD 67 BA,tm.getD 68 BA,tm.getD 69 BA,tm.getD 70 BA,tm.getD 71 BA,tm.getD 72 BA,tm.getD 73 BA,tm.getD 74 BA,tm.getD 75 BA,tm.getD 76 BA,tm.getD 77 BA,tm.getD 78 BA,tm.getD 79 BA,tm.getD 80 BA,tm.getD 81 BA,tm.getD 82 BA]=_;rw[o0,o1,o2,o3,o4,o5,o6,o7,o8,o9,o10,o12,o13,o14,o15,o16,o17,o18,o19,o20,o21,o22,o23,o60,o61,o62,o63,o64,o65,o66,o67,o68,o69,o70,o71,o72,o73,o74,o75,o76,o77,o78,o79,o80,o81,o82,o24,aOu,aOv]
 .refine⟨?_,?_,?_,?_,?_,?_,?_,?_,?_,?_,?_,?_,?_⟩
  .exact m5 ⟨1,119,0,0⟩ (by simp[iz]) (cg dz)
  .exact⟨_,m5 ⟨3,108,25,2⟩ (by simp[iz]) (cg dz),by have hv:=h.val (2,25) dz (cg dz);rw[vs2]at hv;exact hv⟩
  .exact⟨_,m5 ⟨6,114,27,5⟩ (by simp[iz]) (cg dz),by have hv:=h.val (5,27) dz (cg dz);rw[vs5]at hv;exact hv⟩
  .exact⟨_,m5 ⟨9,118,29,8⟩ (by simp[iz]) (cg dz),by have hv:=h.val (8,29) dz (cg dz);rw[vs8]at hv;exact hv⟩
  .exact⟨_,m5 ⟨12,99,31,11⟩ (by simp[iz]) (cg dz),by have hv:=h.val (11,31) dz (cg dz);rw[aJs]at hv;exact hv⟩
  .exact⟨_,m5 ⟨15,97,33,14⟩ (by simp[iz]) (cg dz),by have hv:=h.val (14,33) dz (cg dz);rw[aJt]at hv;exact hv⟩
  .exact⟨_,m5 ⟨18,111,35,17⟩ (by simp[iz]) (cg dz),by have hv:=h.val (17,35) dz (cg dz);rw[aJz]at hv;exact hv⟩
  .exact⟨_,m5 ⟨21,105,37,20⟩ (by simp[iz]) (cg dz),by have hv:=h.val (20,37) dz (cg dz);rw[aJ0]at hv;exact hv⟩
  .exact⟨_,m5 ⟨27,115,42,26⟩ (by simp[iz]) (cg dz),by have hv:=h.val (26,42) dz (cg dz);rw[aJu]at hv;exact hv⟩
  .exact⟨_,m5 ⟨33,98,47,32⟩ (by simp[iz]) (cg dz),by have hv:=h.val (32,47) dz (cg dz);rw[aJv]at hv;exact hv⟩
  .exact⟨_,m5 ⟨38,101,51,37⟩ (by simp[iz]) (cg dz),by have hv:=h.val (37,51) dz (cg dz);rw[aJw]at hv;exact hv⟩
  .exact⟨_,m5 ⟨43,100,55,42⟩ (by simp[iz]) (cg dz),by have hv:=h.val (42,55) dz (cg dz);rw[aJx]at hv;exact hv⟩
  .exact⟨_,m5 ⟨47,106,58,46⟩ (by simp[iz]) (cg dz),by have hv:=h.val (46,58) dz (cg dz);rw[aJy]at hv;exact hv⟩
def QH:List Nat:= [119,108,114,118,99,97,111,105,115,98,101,100,106]
def aJ4:List (List Nat):=(EO 26).map fun(n:Nat)=>(mX (n:Int)).data.toList.map (·.toNat)
theorem X8:(aJ4.all λl=>l.all λb=>QH.contains b)=true:=by kernel_rfl
theorem X9(n:Int):∀b∈(mX n).data.toList,b.toNat∈QH:=by
 by_cases h:n<1\/n>25
 .rw[Nc h];intro b hb;cases hb
 .have hn:n.toNat<26:=by omega
  have h1:=EL.1 X8 ((mX n.toNat).data.toList.map (·.toNat)) (GR.2 ⟨n.toNat,List.mem_range.2 hn,rfl⟩);rw[Int.toNat_of_nonneg oz]at h1;intro b hb;have h2:=EL.1 h1 b.toNat (GR.2 ⟨b,hb,rfl⟩);exact List.contains_iff_mem.1 h2
theorem QI:∀k∈QH,k<128:=by decide
def mS(p:aC)(n:Int)(x:gu)(k:Nat)(v:Int):Bool:=
 if k=119 then dJ 1 2000 v else if k=108 then lOk p x.a v else if k=114 then decide (v<4)else if k=118 then decide (v<256)else if k=99 then decide (v<256)
 else if k=97 then decide (v<4096)else if k=111 then tj p BR v else if k=105 then tj p Bj v else if k=115 then decide (v<(p.aG.l.length:Int))
 else if k=98 then decide (v<(p.aX.l.length:Int))else if k=101 then decide (v<p.ev)else if k=100 then decide (v<p.bo)else decide (v<n)
theorem UD{C:Ctx}{w:Al}{v:Bn}{n:Int}(h:dw C n v w)(m:Int):∃f lb,v= .func (.func f) #[] lb/\(∀args w,(EZ f args).run pG w= .ok (.enter f args) w)/\∀W,BD w.heap.size w W->ET pG f (#[.int .i64 m]++lb) W λe W'=>e= .returned (.bool (decide (m<n)))/\BD W.heap.size W W':=by
 obtain⟨b,rfl,hc⟩:=h;exact⟨_,_,rfl,Df func164 kz rfl,λW hW=>WS n m b W ((hW.cell (p:=⟨b,0,Ag⟩) (G4 w _ hc)).trans hc)⟩
theorem Ya{C:Ctx}{w:Al}{v:Bn}{o:Bool}(h:mH C o v w)(hp:C.p.bk w C.g3)(hr:fu w w.heap.size C.p.aq.a C.p.aq.l)(m:Nat):∃f lb,v= .func (.func f) #[] lb/\(∀args w,(EZ f args).run pG w= .ok (.enter f args) w)/\∀W,BD w.heap.size w W->ET pG f (#[.int .i64 (m:Int)]++lb) W λe W'=>e= .returned (.bool (tj C.p o m))/\BD W.heap.size W W':=by
 obtain⟨b,rfl,hc⟩:=h;exact⟨_,_,rfl,Df func162 kz rfl,λW hW=>aBR C.p o m C.g3 b W (hp.below hW hp.lt) ((hW.cell (p:=⟨b,0,Ag⟩) (G4 w _ hc)).trans hc) (hr.below hW)⟩
theorem aJ5(C:Ctx)(x:gu){w:Al}{mb:Nat}{D:DataW Bn}(h:aJ3 C w mb D)(hp:C.p.bk w C.g3)(hx:x.bk w C.g5)(hr:fu w w.heap.size C.p.aq.a C.p.aq.l)(hxa:0<=x.a)(k:Nat)(hk:k∈QH)(m:Nat):
 ∃f lb,D.atKey (kI k) ni= .held (.func (.func f) #[] lb)/\(∀args w,(EZ f args).run pG w= .ok (.enter f args) w)/\∀W,BD w.heap.size w W->ET pG f (#[.int .i64 (m:Int)]++lb) W λe W'=>e= .returned (.bool (mS C.p C.n x k m))/\BD W.heap.size W W':=by
 have hB:∀{n:Int},(∃v,D.atKey (kI k) ni= .held v/\dw C n v w)->mS C.p C.n x k m=decide ((m:Int)<n)->∃f lb,D.atKey (kI k) ni= .held (.func (.func f) #[] lb)/\(∀args w,(EZ f args).run pG w= .ok (.enter f args) w)/\∀W,BD w.heap.size w W->ET pG f (#[.int .i64 (m:Int)]++lb) W λe W'=>e= .returned (.bool (mS C.p C.n x k m))/\BD W.heap.size W W':=by
  rintro n ⟨v,hv,hs⟩ he;obtain⟨f,lb,rfl,hen,hc⟩:=UD hs m;exact⟨f,lb,hv,hen,λW hW=>by rw[he];exact hc W hW⟩
 have hP:∀{o:Bool},(∃v,D.atKey (kI k) ni= .held v/\mH C o v w)->mS C.p C.n x k m=tj C.p o m->∃f lb,D.atKey (kI k) ni= .held (.func (.func f) #[] lb)/\(∀args w,(EZ f args).run pG w= .ok (.enter f args) w)/\∀W,BD w.heap.size w W->ET pG f (#[.int .i64 (m:Int)]++lb) W λe W'=>e= .returned (.bool (mS C.p C.n x k m))/\BD W.heap.size W W':=by
  rintro o ⟨v,hv,hs⟩ he;obtain⟨f,lb,rfl,hen,hc⟩:=Ya hs hp hr m;exact⟨f,lb,hv,hen,λW hW=>by rw[he];exact hc W hW⟩
 simp only[QH,List.mem_cons,List.not_mem_nil,or_false]at hk;rcases hk with rfl | rfl | rfl | rfl | rfl | rfl | rfl | rfl | rfl | rfl | rfl | rfl | rfl
 .exact⟨_,#[],h.fw,Df func165 kz rfl,λW hW=>aEq m W⟩
 .obtain⟨v,hv,rfl⟩:=h.fl
  obtain⟨q,hq⟩:=Int.eq_ofNat_of_zero_le hxa;refine⟨_,_,hv,Df func166 kz rfl,λW hW=> ?_⟩;have:=aEr C.p x q hq m C.g5 C.g3 W (hx.below hW hx.lt) (hp.below hW hp.lt) (hr.below hW);rw[<-hq]at this;exact this
 .exact hB h.fr rfl
 .exact hB h.fv (by simp[mS])
 .exact hB h.fc (by simp[mS])
 .exact hB h.fa (by simp[mS])
 .exact hP h.fo rfl
 .exact hP h.fi rfl
 .exact hB h.fs rfl
 .exact hB h.fb rfl
 .exact hB h.fe rfl
 .exact hB h.fd rfl
 .exact hB h.fj rfl
theorem below_iterAt{B:Nat}{w W:Al}(h:BD B w W)(k:Nat)(hk:B<=k)(s:ByteArray)(q:Nat):BD B w (W.iterAt k s q):=by
 refine h.trans ⟨rfl,rfl,rfl,by simp[World.iterAt],λi hi=> ?_⟩;simp only[World.iterAt];rw[Dm oz]
theorem j4.below{B:Nat}{w w':Al}{b n:Nat}{D:DataW Bn}(h:j4 w b n D)(hb:BD B w w')(hlt:b<B):j4 w' b n D:=by
 obtain⟨⟨es,clock,h1,h2⟩,h3⟩:=h;exact⟨⟨es,clock,(hb.block b hlt).trans h1,h2⟩,h3⟩
theorem NR{x:gu}(h:rB x=BR):0<=x.a/\0<=x.b/\0<=x.d:=by
 simp only[rB,Bool.and_eq_true,EL]at h;obtain⟨_,h1,h2⟩:=h;have aJ:∀v∈ [x.a,x.b,x.d],0<=v:=λv hv=>by
  rw[<-List.take_append_drop (mX x.op).size [x.a,x.b,x.d]]at hv;rcases E2.1 hv with hv | hv
  .have:=h1 v hv
   simp[fH,dJ]at this;omega
  .have:=h2 v hv
   simp at this;omega
 exact⟨aJ _ qz,aJ _ qz,aJ _ qz⟩
def NS(x:gu):List (UInt8×Int):=(mX x.op).data.toList.zip [x.a,x.b,x.d]
def mJ(p:aC)(n:Int)(x:gu):Bool:=rB x&&(NS x).all λq=>mS p n x q.1.toNat q.2
theorem NT(x:gu):(NS x).length=(mX x.op).size:=by
 have h:=qE x.op;unfold NS;generalize mX x.op=t at *;rw[List.length_zip];have e:t.data.toList.length=t.size:=Array.length_toList;have e3: [x.a,x.b,x.d].length=3:=rfl;omega
theorem uV{α:Type}{l:List α}{p:α->Bool}{k:Nat}(hk:k<l.length)(h:(l.take k).all p=BR)(hp:p l[k]=BR):(l.take (k+1)).all p=true:=by
 rw[List.take_succ_eq_append_getElem hk,List.all_append,h];simp[hp]
theorem yq{α:Type}{l:List α}{p:α->Bool}{k:Nat}(hk:k<l.length)(hp:p l[k]=Bj):l.all p=false:=by
 cases h:l.all p with
 | false=>rfl
 | true=>rw[EL.1 h _ (CS hk)]at hp;cases hp
