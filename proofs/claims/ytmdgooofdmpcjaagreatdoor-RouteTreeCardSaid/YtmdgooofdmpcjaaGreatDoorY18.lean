import Derived.Test.YtmdgooofdmpcjaaGreatDoorY17
import Derived.Test.YtmdgooofdmpcjaaGreatDoorY13
import Derived.Test.YtmdgooofdmpcjaaGreatDoorY0
set_option maxRecDepth 100000
set_option maxHeartbeats 8000000
set_option linter.unusedSimpArgs false
set_option linter.unusedVariables false
set_option linter.unusedSectionVars false
open Go.Proofs.Tryz renaming prog → pG
namespace Go.Proofs.YtmdgooofdmpcjaaGreatDoor
section
open Go.ChangeShapes Go.WideShapes Go.ChangeAt Go.RowKit
attribute [local go_sem] Oper.semAt_some
open Go.Act renaming put → zP
open List renaming setIfInBounds_toArray → zA, set_cons_zero → zB, set_cons_succ → zC
def oN(x:ay)(q:aM)(m:Int)(vl:Bool)(used:List bw)(r:bw):Option (List bw):=
 if (fD x r).2<0 then none else if (fD x r).1.out=true then none else if¬(fD x r).1.kd=q.kd then none else if¬(fD x r).1.sz=q.sz then none
 else if¬(!((fD x r).2==m))=vl then none else if fP r used=true then none else some (used++ [r])
def jl(x:ay)(q:aM)(m:Int)(vl:Bool):List bw→List bw→Option (List bw)
 | [],used=>some used
 | r :: t,used=>(oN x q m vl used r).bind (jl x q m vl t)
def lu(x:ay)(used:List bw)(y:dZ):Option (List bw):=
 if (fD x y.src).2<0 then none else if (fD x y.src).1.out=false then none else if fP y.src used=true then none
 else jl x (fD x y.src).1 (fD x y.src).2 y.vl y.dst.l (used++ [y.src])
def jq(x:ay):List dZ→List bw→Option (List bw)
 | [],used=>some used
 | y :: t,used=>(lu x used y).bind (jq x t)
def oO(x:ay):Bool:=(jq x (gi x) []).isSome
theorem vR(x:ay)(q:aM)(m:Int)(vl:Bool)(r:bw):∀(l:List bw) (u:List bw),jl x q m vl (l++ [r]) u=(jl x q m vl l u).bind fun v=>oN x q m vl v r
 | [],u=>by
  show(oN x q m vl u r).bind (jl x q m vl [])=oN x q m vl u r
  cases oN x q m vl u r<;>rfl
 | z :: t,u=>by
  show(oN x q m vl u z).bind (jl x q m vl (t++ [r]))=((oN x q m vl u z).bind (jl x q m vl t)).bind fun v=>oN x q m vl v r
  cases oN x q m vl u z with
  | none=>rfl
  | some v=>exact vR x q m vl r t v
theorem QD{x:ay}{q:aM}{m:Int}{vl:Bool}{l:List bw}{u:List bw}{k:Nat}(hk:k≤l.length)(h:jl x q m vl (l.take k) u=none):jl x q m vl l u=none:=by
 obtain⟨d,hd⟩:=ez (l.length-k)
 induction d generalizing k with
 | zero=>rwa[List.take_of_length_le oz]at h
 | succ d ih=>
  refine ih (k:=k+1) oz ?_ oz;rw[tZ oz,vR,h];rfl
theorem vS(x:ay)(y:dZ):∀(l:List dZ) (u:List bw),jq x (l++ [y]) u=(jq x l u).bind fun v=>lu x v y
 | [],u=>by
  show(lu x u y).bind (jq x [])=lu x u y
  cases lu x u y<;>rfl
 | z :: t,u=>by
  show(lu x u z).bind (jq x (t++ [y]))=((lu x u z).bind (jq x t)).bind fun v=>lu x v y
  cases lu x u z with
  | none=>rfl
  | some v=>exact vS x y t v
theorem Ux(x:ay){T:List dZ}(xs:List dZ)(h:T <+: xs)(hn:jq x T []=none):jq x xs []=none:=by
 obtain⟨t,rfl⟩:=h;have:∀(l:List dZ) (u:List bw),jq x l u=none→jq x (l++t) u=none:=by
  intro l
  induction l with
  | nil=>intro u h;cases h
  | cons z r ih=>
   intro u h;have h:(lu x u z).bind (jq x r)=none:=h;show(lu x u z).bind (jq x (r++t))=none
   cases hz:lu x u z with
   | none=>rfl
   | some v=>rw[hz]at h;exact ih v h
 exact this T [] hn
def Eh(x:ay)(T:List dZ)(o:Option (List bw)):Prop:=jq x T []=o
theorem aBy{x:ay}{w:World}{B:Nat}(h:x.rd w B){y:dZ}(hy:y∈gi x):jo w B y.dst.a y.dst.l:=by
 unfold gi at hy;rcases List.mem_append.1 hy with hy | hy
 ·obtain⟨z,hz,rfl⟩:=List.mem_map.1 hy
  obtain⟨i,hi,rfl⟩:=List.mem_iff_getElem.1 hz;obtain⟨b,o,_,_,hc⟩:=h.aj oz;exact(hc i hi).2.2.2.2.dst
 ·obtain⟨z,hz,rfl⟩:=List.mem_map.1 hy
  obtain⟨i,hi,rfl⟩:=List.mem_iff_getElem.1 hz;obtain⟨b,o,_,_,hc⟩:=h.aF oz;exact(hc i hi).2.2.2.2.2.2.2.dst
structure aJL(x:ay):Prop where
 n:(gi x).length≤1000
 r:∀y∈gi x,y.src.ok∧y.dst.l.length≤1000∧∀r∈y.dst.l,r.ok
theorem XM{x:ay}{q:aM}{m:Int}{vl:Bool}{u v:List bw}{r:bw}(h:oN x q m vl u r=some v):v.length≤u.length+1:=by
 unfold oN at h;repeat (split at h;·cases h)
 injection h with h
 subst h;simp
theorem zS{x:ay}{q:aM}{m:Int}{vl:Bool}:∀{l u v:List bw},jl x q m vl l u=some v→v.length≤u.length+l.length
 | [],u,v,h=>by injection h with h;subst h;simp
 | r :: t,u,v,h=>by
  have h:(oN x q m vl u r).bind (jl x q m vl t)=some v:=h
  cases hz:oN x q m vl u r with
  | none=>rw[hz]at h;cases h
  | some z=>
   rw[hz]at h;have h1:=zS (l:=t) (u:=z) h;have h2:=XM hz;simp only[List.length_cons];omega
theorem aBz(x:ay)(g:Nat)(w:World)(h:tU w g x)(hr:x.rd w w.heap.size)(Fw:aJL x):CU 28 #[.pointer (some ⟨g,0,none⟩)] w (.bool (oO x)):=by
 obtain⟨w1,cN⟩:=ez ((((((w.alloc (.cells #[.pointer (some ⟨g,0,none⟩)] 92)).alloc (.cells #[.bool false] 4)).alloc (.map #[] 0)).alloc (.cells #[.map (some (w.heap.size+1+1))] 175)).alloc (.cells #[.pointer (some ⟨g,0,none⟩)] 92)));have aU:Below w.heap.size w w1:=by rw[cN];exact(((((bN).alloc qz _).alloc qo _).alloc qo _).alloc qo _)
 have DH:ah w1 (w.heap.size) 92 #[.pointer (some ⟨g,0,none⟩)]:=by
  rw[cN];have:=ah.new w 92 #[.pointer (some ⟨g,0,none⟩)];try simp only[World.size_alloc]at this
  exact((((this).alloc _).alloc _).alloc _).alloc _
 have jy:ah w1 (w.heap.size+1) 4 #[.bool false]:=by
  rw[cN];have:=ah.new (w.alloc (.cells #[.pointer (some ⟨g,0,none⟩)] 92)) 4 #[.bool false];try simp only[World.size_alloc]at this
  exact(((this).alloc _).alloc _).alloc _
 have hbu:ah w1 (w.heap.size+1+1+1) 175 #[.map (some (w.heap.size+1+1))]:=by
  rw[cN];have:=ah.new (((w.alloc (.cells #[.pointer (some ⟨g,0,none⟩)] 92)).alloc (.cells #[.bool false] 4)).alloc (.map #[] 0)) 175 #[.map (some (w.heap.size+1+1))];try simp only[World.size_alloc]at this
  exact(this).alloc _
 have gP:ah w1 (w.heap.size+1+1+1+1) 92 #[.pointer (some ⟨g,0,none⟩)]:=by
  rw[cN];have:=ah.new ((((w.alloc (.cells #[.pointer (some ⟨g,0,none⟩)] 92)).alloc (.cells #[.bool false] 4)).alloc (.map #[] 0)).alloc (.cells #[.map (some (w.heap.size+1+1))] 175)) 92 #[.pointer (some ⟨g,0,none⟩)];try simp only[World.size_alloc]at this
  exact this
 have aJM:aH KF w1 (w.heap.size+1+1) []:=by
  rw[cN];have:=aH.made (M:=KF) ((w.alloc (.cells #[.pointer (some ⟨g,0,none⟩)] 92)).alloc (.cells #[.bool false] 4));simp only[World.size_alloc]at this;exact(this.alloc _).alloc _
 have hz:w1.heap.size=w.heap.size+5:=by rw[cN];simp
 have gH:D6 w1 g (w.heap.size+1+1+1+1) w.heap.size x:=⟨gP,h.below aU,hr.dn nL (cZ aU),oz⟩;have wu:=ah.lt h;have um:=lz (WI x g (w.heap.size+1+1+1+1) w.heap.size (fun k=>k=w.heap.size+1+1) w1 (fun k e=>by subst e;exact⟨oz,oz,oz⟩) gH (nT hr.DZ (nT hr.D1 dz)) (nT hr.T9 (nT hr.Ua dz)));have Mk:=lz gH;have lH:=lz cN;have gh:=lz aU;have rT:=lz jy;have Hbk:=lz DH;have Hbu:=lz hbu;have aOV:=lz aJM;have Hz:=lz hz;have Hok:=lz Fw;have hmk:= @run_makeMap pG;have c00:((((w.alloc (.cells #[.pointer (some ⟨g,0,none⟩)] 92)).alloc (.cells #[.bool false] 4)).alloc (.map #[] 0)).alloc (.cells #[.map (some (w.heap.size+1+1))] 175)).cell? ⟨w.heap.size,0,none⟩=some (.pointer (some ⟨g,0,none⟩)):=((((ah.new w 92 #[.pointer (some ⟨g,0,none⟩)]).alloc _).alloc _).alloc _).cell 0;clear h hr cN aU jy gP hz gH Fw DH hbu aJM;refine(callsIn_wide (n:=9)).1 ?_;refine callsIn_of_wp_marks Tryz.func28 rfl trivial ?_ rfl;simp only[Tryz.ntmps28,List.size_toArray,List.length_cons,List.length_nil,Nat.reduceAdd,Nat.reduceSub,Array.replicate_succ,Array.replicate_zero,List.push_toArray,List.append_toArray,List.nil_append,List.cons_append];refine wpIn_wide.2 ?_;go_wp2_with (go_at_call 65;refine(Sr _ _).mono ?_;rintro e w' ⟨rfl,hw'⟩);rw[←lH.out];clear hw' c00;refine(wpIn_wide (n:=9)).1 ?_;have hz1:w.heap.size+5≤w1.heap.size:=Nat.le_of_eq Hz.out.symm;have Xm:w1.heap.size≤w.heap.size+5:=Nat.le_of_eq Hz.out;refine tQ (gf:=143) (lb:= #[.pointer (some ⟨w.heap.size+1+1+1+1,0,none⟩)]) (encs:=dZ.enc) (xs:=gi x) (X:=fun k=>k=w.heap.size+1+1) (XE:=fun k=>k=w.heap.size+1+1∨k=w.heap.size+1) rfl (enters_of Tryz.func143 kz rfl) (fun _=>rfl) (fun k e=>by omega) (fun k e=>by omega) um.out
  (fun T W=>∃used,Eh x T (some used)∧used.length≤1001*T.length∧aH KF W (w.heap.size+1+1) used∧Gr (fun k=>k=w.heap.size+1+1) w1 W)
  (fun T W=>ah W (w.heap.size+1) 4 #[.bool false]∧Below w.heap.size w W∧Eh x T none) ?hI ?RU ?TG
  (fun y a' W=>∃Bc,w1.heap.size≤Bc∧ah W Bc 149 #[.string y.src.m,.string y.src.p,.string y.src.o,.slice y.dst.a y.dst.l.length y.dst.c,.bool y.vl]∧a'={tmps:= #[.pointer (some ⟨g,0,none⟩),.pointer (some ⟨w.heap.size,0,none⟩),.pointer (some ⟨w.heap.size+1,0,none⟩),.pointer (some ⟨w.heap.size+1+1+1,0,none⟩),.pointer (some ⟨Bc,0,none⟩),undef,undef,undef,undef,undef,undef,.map (some (w.heap.size+1+1)),.pointer (some ⟨g,0,none⟩),.func (.func 143) #[] #[.pointer (some ⟨w.heap.size+1+1+1+1,0,none⟩)],y.val,undef,undef,undef,undef,undef,undef,undef,undef,undef,undef,undef,undef,undef,undef,undef,undef,undef,undef,undef,undef,undef,undef,undef,undef,undef,undef,undef,undef,undef,undef,undef,undef,undef,undef,undef,undef,undef,undef,undef,undef,undef,undef,undef,undef,undef,undef,undef,undef,undef,undef,undef,undef,undef,undef,undef,undef,undef,undef,undef,undef,undef,undef,undef,undef,undef,undef,undef,undef,undef,undef,undef,undef,undef,undef,undef,undef,undef,undef,undef,undef,undef,undef],defers:= []}) ?Kf ?assign ?body ?done ?ret
 case hI=>
  rintro T W W' ⟨used,h1,h2,h3,h4⟩ hb;exact⟨used,h1,h2,h3.below hb oz,XC h4 hb⟩
 case RU=>exact fun T W W' h hb=>⟨ah.below h.1 hb oz,h.2.1.trans (hb.mono oz),h.2.2⟩
 case TG=>exact⟨[],rfl,qz,aOV.out,Gr.refl _ _⟩
 case Kf=>
  rintro y l a' W o o' hl ho hc ⟨Bc,h1,h3,h5⟩;exact⟨Bc,h1,mW h3 ho hc,h5⟩
 case assign=>
  intro l T y W K hT hsz hK;gi_wp2;exact hK _ _ (bN) ⟨W.heap.size,oz,ah.new W _ _,rfl⟩
 case ret=>
  rintro D T W3 hD hs hT ⟨h1,h2,h3⟩ hk;have HF:=lz (show oO x=false by unfold oO;rw[Ux x _ hT h3];rfl);have KJ:D<W3.heap.size:=(gE hk).1;refine bP [D] W3 D qz (fun E hE=>by simp at hE;subst hE;exact⟨nL,hk⟩) fun W' j5=> ?_
  have z0:=(ah.below h1 j5.below oz).cell 0;exact⟨.bool false,by simp[results,Tryz.f28,go_sem,z0],by rw[HF.out],h2.trans (j5.below.mono oz)⟩
 case done=>
  rintro D W hD hs ⟨used,h1,h2,h3,hgr⟩ hk;have HF:=lz (show oO x=true by unfold oO;rw[show jq x (gi x) []=some used from h1];rfl);have iY:=hgr.blk rT.out oz;have HB:Hid (Below w.heap.size w W):=lz (⟨hgr.os.trans gh.out.os,hgr.tape.trans gh.out.tape,hgr.output.trans gh.out.output,nT gh.out.size hgr.size,fun k hk=>(hgr.block k oz oz).trans (gh.out.block k hk)⟩);have r0:=iY.cell 0;have f0:=iY.frozen 0;have HR:=lz iY;have Hk:=lz hk;clear h1 h2 h3 hgr iY hk;go_wp2_with fail;refine vO D (w.heap.size+1) w.heap.size true false w W HR.out Hk.out oz HB.out oz (fun W' z0=>by simp[results,Tryz.f28,go_sem,z0]) (fun W' hB=>⟨by rw[HF.out]<;>rfl,hB⟩)
 case body=>
  rintro l T ⟨src,dst,vl⟩ a' W hT hsz hG ⟨used,hu,hul,Pk,hgr⟩ ⟨Bc,aU6,yh,rfl⟩;dsimp only at yh;have iU:=CW hT;obtain⟨aFO,I6,aFP⟩:=Hok.out.r _ iU;dsimp only at aFO I6 aFP;have XO:T.length≤1000:=by
   have h1:=hT.length_le;have h2:=Hok.out.n;simp at h1;omega
  have hu1:used.length≤1001000:=nT hul oz;have HUL:=lz hul;have hF:∀W',Gr (fun k=>k=w.heap.size+1+1) W W'→ah W' w.heap.size 92 #[.pointer (some ⟨g,0,none⟩)]∧tU W' g x∧x.rd W' W'.heap.size∧ah W' (w.heap.size+1) 4 #[.bool false]∧ah W' (w.heap.size+1+1+1) 175 #[.map (some (w.heap.size+1+1))]∧ah W' Bc 149 #[.string src.m,.string src.p,.string src.o,.slice dst.a dst.l.length dst.c,.bool vl]∧jo W' W'.heap.size dst.a dst.l:=fun W' hW=>by
   have h1:=hgr.trans hW;have hc:=Mk.out.gr (X:=fun k=>k=w.heap.size+1+1) (fun k e=>by subst e;exact⟨oz,oz,oz⟩) h1;exact⟨h1.blk Hbk.out oz,hc.g,hc.r.more hc.B,h1.blk rT.out oz,h1.blk Hbu.out oz,hW.blk yh oz,(aBy hc.r iU).more hc.B⟩
  have yg:∀W',Gr (fun k=>k=w.heap.size+1+1) W W'→lu x used ⟨src,dst,vl⟩=none→(Gr (fun k=>k=w.heap.size+1+1∨k=w.heap.size+1) W (W'.setCell ⟨w.heap.size+1,0,none⟩ (.bool false))∧ah (W'.setCell ⟨w.heap.size+1,0,none⟩ (.bool false)) (w.heap.size+1) 4 #[.bool false]∧Below w.heap.size w (W'.setCell ⟨w.heap.size+1,0,none⟩ (.bool false))∧Eh x (T++ [⟨src,dst,vl⟩]) none)∧W'.cell? ⟨w.heap.size+1,0,none⟩=some (.bool false)∧W'.frozen? ⟨w.heap.size+1,0,none⟩=false:=fun W' hW hn=>by
   have h4:=(hF W' hW).2.2.2.1;have h1:=hgr.trans hW;have aBp:Below w.heap.size w W':=⟨h1.os.trans gh.out.os,h1.tape.trans gh.out.tape,h1.output.trans gh.out.output,nT gh.out.size h1.size,fun k hk=>(h1.block k oz oz).trans (gh.out.block k hk)⟩;refine⟨⟨(hW.mono fun k _ e=> .inl e).trans (Gr.setCell W' ⟨w.heap.size+1,0,none⟩ _ (.inr rfl)),by simpa using h4.bX 0 (.bool false),aBp.setCell (p:=⟨w.heap.size+1,0,none⟩) (by show w.heap.size≤w.heap.size+1;omega) _,?_⟩,h4.cell 0,h4.frozen 0⟩;unfold Eh at *;rw[vS,hu];exact hn
  have aDq:∀v,lu x used ⟨src,dst,vl⟩=some v→Eh x (T++ [⟨src,dst,vl⟩]) (some v):=fun v hv=>by
   unfold Eh at *;rw[vS,hu];exact hv
  obtain⟨⟨q,m⟩,hq⟩:∃q,q=fD x src:=⟨_,rfl⟩;have hW0:=hF W (Gr.refl _ _);have KQ:=KR x src g W hW0.2.1 hW0.2.2.1;rw[←hq]at KQ;have aZ:lu x used ⟨src,dst,vl⟩=if m<0 then none else if q.out=false then none else if fP src used=true then none else jl x q m vl dst.l (used++ [src]):=by
   unfold lu;rw[show fD x (dZ.mk src dst vl).src=(q,m)from hq.symm]
  have c0:=hW0.1.cell 0;have d0:=yh.cell 0;have d1:=yh.cell 1;have d2:=yh.cell 2;have hlc:=yh.lt;have Xy:=lz KQ;have eP:=lz aZ;have HF:=lz hF;have ox:=lz yg;have aJN:=lz aDq;have Hcm:=lz Pk;have Hgr:=lz hgr;have aOW:=lz aFP;have aJO:=lz aFO;clear KQ aZ hF yg aDq Pk hgr aFP aFO hu hW0 hq hG yh iU hT hul;gi_wp2;refine jS Xy.out ?_;rintro e W2 ⟨rfl,dI⟩;dsimp only;obtain⟨W3,Bv⟩:=ez (W2.alloc (.cells #[.string q.nm,.int .u8 q.kd,.bool q.out,.int .i64 q.sz,.int .i64 q.dp,.int .i64 q.rf] 73));have Pn:Below W.heap.size W W3:=by rw[Bv];exact dI.alloc dI.size _
  have hqb:ah W3 W2.heap.size 73 #[.string q.nm,.int .u8 q.kd,.bool q.out,.int .i64 q.sz,.int .i64 q.dp,.int .i64 q.rf]:=by rw[Bv];exact ah.new W2 _ _
  have hg3:Gr (fun k=>k=w.heap.size+1+1) W W3:=Gr.ak Pn;have QE:aH KF W3 (w.heap.size+1+1) used:=Hcm.out.next Pn
  have QF:=aJO.out;have hF3:=HF.out W3 hg3;have hkU:=hF3.2.2.2.2.1.cell 0;have Vt:=hF3.2.2.2.2.2.1.cell 0;have Cq:=hF3.2.2.2.2.2.1.cell 1;have rZ:=hF3.2.2.2.2.2.1.cell 2;have Pq:=dI.size;obtain⟨Bf,hBf⟩:=ez W2.heap.size;rw[←hBf]at hqb Pq;have yY:=lz Bv;have HBf:=lz hBf;have Hqb:=lz hqb;have Hg3:=lz hg3;clear Bv Pn hqb hg3 hF3 dI c0 d0 d1 d2 hBf Xy;obtain⟨v0,stq,W1,W2,hE,hL,hSt,hC2,eG,hcell⟩:=(aH.drew QE).Qq (M:=KF) aFB KF.und (by unfold maxLen;omega) (y:=src) QF;have XL:=vA src used;have hcb:(dR src used:Int)≤9223372036854775806:=by omega
  have hc0:(0:Int)≤(dR src used:Int):=by omega
  have hwr:IntKind.i64.wrap ((dR src used:Int)+1)=(dR src used:Int)+1:=IntWalk.i64_in _ oz;have HSt:=lz (show(Instr.entryStore 175 (.map (some (w.heap.size+1+1))) (.int .i64 ((stq:Nat):Int)) (.int .i64 ((dR src used:Int)+1))).run pG W1= .ok () W2 from hSt);have HE:=lz (show(Instr.mapEntry 175 (.map (some (w.heap.size+1+1))) (.agg #[.string src.m,.string src.p,.string src.o])).run pG W3.drew= .ok (.tuple #[v0,.int .i64 ((stq:Nat):Int)]) W1 from hE);have hHeld:(fun W=>W.cell? ⟨w.heap.size+1+1+1,0,none⟩=some (.map (some (w.heap.size+1+1)))∧W.cell? ⟨Bc,0,none⟩=some (.string src.m)∧W.cell? ⟨Bc,1,none⟩=some (.string src.p)∧W.cell? ⟨Bc,2,none⟩=some (.string src.o)∧(Instr.lookup 175 (.map (some (w.heap.size+1+1))) (.agg #[.string src.m,.string src.p,.string src.o]) false).run pG W= .ok (.int .i64 (dR src used)) W) W3.drew:=⟨hkU,Vt,Cq,rZ,(aH.drew QE).iH (M:=KF) (y:=src) QF⟩;have HH1:Hid ((fun W=>W.cell? ⟨w.heap.size+1+1+1,0,none⟩=some (.map (some (w.heap.size+1+1)))∧W.cell? ⟨Bc,0,none⟩=some (.string src.m)∧W.cell? ⟨Bc,1,none⟩=some (.string src.p)∧W.cell? ⟨Bc,2,none⟩=some (.string src.o)∧(Instr.lookup 175 (.map (some (w.heap.size+1+1))) (.agg #[.string src.m,.string src.p,.string src.o]) false).run pG W= .ok (.int .i64 (dR src used)) W) W1):=lz (⟨(hcell ⟨w.heap.size+1+1+1,0,none⟩ (by show¬w.heap.size+1+1+1=w.heap.size+1+1;omega)).trans hkU,(hcell ⟨Bc,0,none⟩ (by show¬Bc=w.heap.size+1+1;omega)).trans Vt,(hcell ⟨Bc,1,none⟩ (by show¬Bc=w.heap.size+1+1;omega)).trans Cq,(hcell ⟨Bc,2,none⟩ (by show¬Bc=w.heap.size+1+1;omega)).trans rZ,hL⟩);have HC2:=lz hC2;have C6:=lz (show Gr (fun k=>k=w.heap.size+1+1) W3 W2 from⟨eG.os,eG.tape,eG.output,eG.size,fun i hi hne=>eG.block i hi (fun e=>hne (Option.some.inj e))⟩);clear hE hL hSt hC2 eG hcell XL hcb hkU Vt Cq rZ;gi_wp2_with fail;rw[←yY.out,←HBf.out];refine nU (fun W=>W.cell? ⟨w.heap.size+1+1+1,0,none⟩=some (.map (some (w.heap.size+1+1)))∧W.cell? ⟨Bc,0,none⟩=some (.string src.m)∧W.cell? ⟨Bc,1,none⟩=some (.string src.p)∧W.cell? ⟨Bc,2,none⟩=some (.string src.o)∧(Instr.lookup 175 (.map (some (w.heap.size+1+1))) (.agg #[.string src.m,.string src.p,.string src.o]) false).run pG W= .ok (.int .i64 (dR src used)) W) 7 kz kz ?hq hHeld (fun hHeld=> ?_)
  case hq=>rintro⟨_,_,h⟩;rcases h with⟨h,-⟩ | ⟨h,-⟩<;>cases h
  refine TS 0 rfl hHeld ?_
  simp only[zP,zA,zB,zC];refine TS 1 rfl hHeld ?_
  simp only[zP,zA,zB,zC];refine TS 2 rfl hHeld ?_
  simp only[zP,zA,zB,zC];refine TS 3 rfl hHeld ?_
  simp only[zP,zA,zB,zC];refine TS 4 rfl hHeld ?_
  simp only[zP,zA,zB,zC];refine RQ 5 rfl fun K hK=> ?_;have hfx:=HE.out;go_simp;refine hK.out _ _ (fun _=>HH1.out) ?_;clear hK hfx;have hHeld:=HH1.out;refine TS 6 rfl hHeld ?_
  simp only[zP,zA,zB,zC];refine RQ 7 rfl fun K hK=> ?_;have hfx:=HSt.out;go_simp;refine hK.out _ _ (fun h=>absurd h dz) ?_;clear hK hfx;clear hHeld HH1 HE HSt hwr hc0;refine aL kz ?_ _;have HGW:=lz (show Gr (fun k=>k=w.heap.size+1+1) W W2 from Hg3.out.trans C6.out);have Xg:=HF.out W2 HGW.out;have lS:=C6.out.blk Hqb.out oz;have f2:=lS.cell 2;have u0:=Xg.2.2.2.2.1.cell 0;have d0:=Xg.2.2.2.2.2.1.cell 0;have d1:=Xg.2.2.2.2.2.1.cell 1;have d2:=Xg.2.2.2.2.2.1.cell 2;have d3:=Xg.2.2.2.2.2.1.cell 3;have d4:=Xg.2.2.2.2.2.1.cell 4;have aBw:(Instr.lookup 175 (.map (some (w.heap.size+1+1))) (.agg #[.string src.m,.string src.p,.string src.o]) false).run pG W2= .ok (.int .i64 (dR src (used++ [src]))) W2:=HC2.out.iH (M:=KF) (y:=src) aJO.out;have tE:=sP src src used;rw[if_pos rfl]at tE;have og:=JU src used;obtain⟨cn,C5⟩:∃c,c=dR src used:=⟨_,rfl⟩;rw[tE,←C5]at aBw;rw[←C5]at og;have lBf:=lS.lt;have lBc:=Xg.2.2.2.2.2.1.lt;clear tE C5 Xg lS QF QE yY HBf;by_cases yc:m<0
  ·have e1:decide (m<0)=true:=dT yc
   have hb:=ox.out W2 HGW.out (by rw[eP.out,if_pos yc]);have r0:=hb.2.1;have f0:=hb.2.2;have vN:=lz hb.1;clear hb og;gi_wp2;exact vN.out
  ·have e1:decide (m<0)=false:=dF yc
   cases ho:q.out with
   | false=>
    rw[ho]at f2;have hb:=ox.out W2 HGW.out (by rw[eP.out,if_neg yc,if_pos ho]);have r0:=hb.2.1;have f0:=hb.2.2;have vN:=lz hb.1;clear hb og ho;gi_wp2;exact vN.out
   | true=>
    rw[ho]at f2
    cases iU:fP src used with
    | true=>
     rw[iU]at og;have h9:0<cn:=of_decide_eq_true og;have h8:decide (1<cn+1)=true:=dT oz;have hb:=ox.out W2 HGW.out (by rw[eP.out,if_neg yc,if_neg (by rw[ho];decide),if_pos iU]);have r0:=hb.2.1;have f0:=hb.2.2;have vN:=lz hb.1;clear hb og ho iU;gi_wp2;exact vN.out
    | false=>
     rw[iU]at og;have h9:¬0<cn:=of_decide_eq_false og;have h8:decide (1<cn+1)=false:=dF oz;have HD:=lz (show lu x used ⟨src,dst,vl⟩=jl x q m vl dst.l (used++ [src])by rw[eP.out,if_neg yc,if_neg (by rw[ho];decide),if_neg (by rw[iU];decide)]);have aU9:(dst.l.length:Int)≤1000:=by omega
     clear og ho iU eP;gi_wp2;gi_loopw [46] (fun t wr=>∃(k:Nat) (u:List bw),k≤dst.l.length∧t= .int .i64 k∧Hid (jl x q m vl (dst.l.take k) (used++ [src])=some u)∧aH KF wr (w.heap.size+1+1) u∧Gr (fun k=>k=w.heap.size+1+1) W2 wr) (fun t wr=>dst.l.length-(intOf t).toNat)
     case atStart=>exact⟨0,used++ [src],nZ,rfl,lz rfl,HC2.out,Gr.refl _ _⟩
     case round=>
      clear f2 u0 d0 d1 d2 d3 d4 aBw;obtain⟨k,u,hk,rfl,Ml,aB0,Xd⟩:=hrel;have HG4:=lz Xd;have hGw:Gr (fun k=>k=w.heap.size+1+1) W wr:=HGW.out.trans Xd;have hF4:=HF.out wr hGw;by_cases hlt:k<dst.l.length
      ·obtain⟨b',o,hA,mz,Mh⟩:=hF4.2.2.2.2.2.2 oz
       obtain⟨e0,e1,e2⟩:=Mh k hlt;have hrk:=aOW.out _ (List.getElem_mem hlt);have yp:jl x q m vl (dst.l.take (k+1)) (used++ [src])=oN x q m vl u dst.l[k]:=by rw[tZ hlt,vR,Ml.out];rfl
       obtain⟨r,hr⟩:=ez (dst.l[k]);rw[←hr]at e0 e1 e2 hrk yp;have hul:u.length≤1002001:=by
        have h1:=zS Ml.out;simp at h1;omega
       obtain⟨⟨t,n⟩,ht⟩:∃q,q=fD x r:=⟨_,rfl⟩;have hds:oN x q m vl u r=if n<0 then none else if t.out=true then none else if¬t.kd=q.kd then none else if¬t.sz=q.sz then none else if¬(!(n==m))=vl then none else if fP r u=true then none else some (u++ [r]):=by
        unfold oN;rw[←ht]
       have hnone:oN x q m vl u r=none→lu x used ⟨src,dst,vl⟩=none:=fun h=>by
        rw[HD.out];exact QD (k:=k+1) oz (by rw[yp];exact h)
       have hG5:Gr (fun k=>k=w.heap.size+1+1) W (wr.alloc (.cells #[.string r.m,.string r.p,.string r.o] 41)):=hGw.trans (Gr.alloc _ _ _);have hF5:=HF.out _ hG5;have KQ:=KR x r g (wr.alloc (.cells #[.string r.m,.string r.p,.string r.o] 41)) hF5.2.1 hF5.2.2.1;rw[←ht]at KQ;have c0:=hF4.1.cell 0;have lk0:=hF4.1.lt;have lb0:b'<wr.heap.size:=mz;have i0:(0:Int)≤(k:Int):=by omega
       have i1:(k:Int)<(dst.l.length:Int):=by omega
       have Xy:=lz KQ;have Vz:=lz hds;have HN:=lz hnone;have NM:=lz yp;have FB:=lz hGw;have aJT:=lz aB0;have aJU:=hGw.size;have aOZ:=Xd.size;clear KQ hds hnone yp Mh hF4 hF5 hG5 hGw Ml aB0 ht Xd hr HD;rw[hA]at *;gi_wp2;refine jS Xy.out ?_;rintro e W6 ⟨rfl,rz⟩;dsimp only;obtain⟨Br,CP⟩:=ez wr.heap.size;obtain⟨W7,Cw⟩:=ez (W6.alloc (.cells #[.string t.nm,.int .u8 t.kd,.bool t.out,.int .i64 t.sz,.int .i64 t.dp,.int .i64 t.rf] 73));have Cp:Below wr.heap.size wr (wr.alloc (.cells #[.string r.m,.string r.p,.string r.o] 41)):=bN;have NN:Below wr.heap.size wr W7:=by rw[Cw];exact(Cp.trans (rz.mono Cp.size)).alloc (nT Cp.size rz.size) _
       have iy:ah W7 wr.heap.size 41 #[.string r.m,.string r.p,.string r.o]:=by rw[Cw];exact((ah.new wr 41 #[.string r.m,.string r.p,.string r.o]).below rz qz).alloc _
       have Pa:ah W7 W6.heap.size 73 #[.string t.nm,.int .u8 t.kd,.bool t.out,.int .i64 t.sz,.int .i64 t.dp,.int .i64 t.rf]:=by rw[Cw];exact ah.new W6 _ _
       have hs6:wr.heap.size<W6.heap.size:=by have:=rz.size;simp at this;omega
       obtain⟨Bt,hBt⟩:=ez W6.heap.size;rw[←hBt]at Pa hs6;have Vv:Gr (fun k=>k=w.heap.size+1+1) W W7:=FB.out.trans (Gr.ak NN);have QE:aH KF W7 (w.heap.size+1+1) u:=aJT.out.next NN
       have QF:=hrk;have hF7:=HF.out W7 Vv;rw[←CP]at iy hs6 ⊢;have aVA:Br<W7.heap.size:=iy.lt;have hkU:=hF7.2.2.2.2.1.cell 0;have Vt:=iy.cell 0;have Cq:=iy.cell 1;have rZ:=iy.cell 2;have Uy:=lz Cw;have HBt:=lz hBt;have Xn:=lz Pa;have XI:=lz iy;have Hg7:=lz Vv;have H4b:=lz (show Gr (fun k=>k=w.heap.size+1+1) W2 W7 from HG4.out.trans (Gr.ak NN));have aOb:=lz ((H4b.out.blk (C6.out.blk Hqb.out oz) oz));have aVC:w.heap.size+1+1<Br:=by omega
       clear Cw Cp NN iy Pa Vv hF7 rz hBt CP Xy c0 e0 e1 e2 aJT;obtain⟨v0,stq,W1,W2,hE,hL,hSt,hC2,eG,hcell⟩:=(aH.drew QE).Qq (M:=KF) aFB KF.und (by unfold maxLen;omega) (y:=r) QF;have XL:=vA r u;have hcb:(dR r u:Int)≤9223372036854775806:=by omega
       have hc0:(0:Int)≤(dR r u:Int):=by omega
       have hwr:IntKind.i64.wrap ((dR r u:Int)+1)=(dR r u:Int)+1:=IntWalk.i64_in _ oz;have HSt:=lz (show(Instr.entryStore 175 (.map (some (w.heap.size+1+1))) (.int .i64 ((stq:Nat):Int)) (.int .i64 ((dR r u:Int)+1))).run pG W1= .ok () W2 from hSt);have HE:=lz (show(Instr.mapEntry 175 (.map (some (w.heap.size+1+1))) (.agg #[.string r.m,.string r.p,.string r.o])).run pG W7.drew= .ok (.tuple #[v0,.int .i64 ((stq:Nat):Int)]) W1 from hE);have hHeld:(fun W=>W.cell? ⟨w.heap.size+1+1+1,0,none⟩=some (.map (some (w.heap.size+1+1)))∧W.cell? ⟨Br,0,none⟩=some (.string r.m)∧W.cell? ⟨Br,1,none⟩=some (.string r.p)∧W.cell? ⟨Br,2,none⟩=some (.string r.o)∧(Instr.lookup 175 (.map (some (w.heap.size+1+1))) (.agg #[.string r.m,.string r.p,.string r.o]) false).run pG W= .ok (.int .i64 (dR r u)) W) W7.drew:=⟨hkU,Vt,Cq,rZ,(aH.drew QE).iH (M:=KF) (y:=r) QF⟩;have HH1:Hid ((fun W=>W.cell? ⟨w.heap.size+1+1+1,0,none⟩=some (.map (some (w.heap.size+1+1)))∧W.cell? ⟨Br,0,none⟩=some (.string r.m)∧W.cell? ⟨Br,1,none⟩=some (.string r.p)∧W.cell? ⟨Br,2,none⟩=some (.string r.o)∧(Instr.lookup 175 (.map (some (w.heap.size+1+1))) (.agg #[.string r.m,.string r.p,.string r.o]) false).run pG W= .ok (.int .i64 (dR r u)) W) W1):=lz (⟨(hcell ⟨w.heap.size+1+1+1,0,none⟩ (by show¬w.heap.size+1+1+1=w.heap.size+1+1;omega)).trans hkU,(hcell ⟨Br,0,none⟩ (by show¬Br=w.heap.size+1+1;omega)).trans Vt,(hcell ⟨Br,1,none⟩ (by show¬Br=w.heap.size+1+1;omega)).trans Cq,(hcell ⟨Br,2,none⟩ (by show¬Br=w.heap.size+1+1;omega)).trans rZ,hL⟩);have HC2:=lz hC2;have C6:=lz (show Gr (fun k=>k=w.heap.size+1+1) W7 W2 from⟨eG.os,eG.tape,eG.output,eG.size,fun i hi hne=>eG.block i hi (fun e=>hne (Option.some.inj e))⟩);clear hE hL hSt hC2 eG hcell XL hcb hkU Vt Cq rZ;gi_wp2_with fail;rw[←Uy.out,←HBt.out];refine nU (fun W=>W.cell? ⟨w.heap.size+1+1+1,0,none⟩=some (.map (some (w.heap.size+1+1)))∧W.cell? ⟨Br,0,none⟩=some (.string r.m)∧W.cell? ⟨Br,1,none⟩=some (.string r.p)∧W.cell? ⟨Br,2,none⟩=some (.string r.o)∧(Instr.lookup 175 (.map (some (w.heap.size+1+1))) (.agg #[.string r.m,.string r.p,.string r.o]) false).run pG W= .ok (.int .i64 (dR r u)) W) 6 kz kz ?hq hHeld (fun hHeld=> ?_)
       case hq=>rintro⟨_,_,h⟩;rcases h with⟨h,-⟩ | ⟨h,-⟩<;>cases h
       refine TS 0 rfl hHeld ?_
       simp only[zP,zA,zB,zC];refine TS 1 rfl hHeld ?_
       simp only[zP,zA,zB,zC];refine TS 2 rfl hHeld ?_
       simp only[zP,zA,zB,zC];refine TS 3 rfl hHeld ?_
       simp only[zP,zA,zB,zC];refine RQ 4 rfl fun K hK=> ?_;have hfx:=HE.out;go_simp;refine hK.out _ _ (fun _=>HH1.out) ?_;clear hK hfx;have hHeld:=HH1.out;refine TS 5 rfl hHeld ?_
       simp only[zP,zA,zB,zC];refine RQ 6 rfl fun K hK=> ?_;have hfx:=HSt.out;go_simp;refine hK.out _ _ (fun h=>absurd h dz) ?_;clear hK hfx;clear hHeld HH1 HE HSt hwr hc0;refine aL kz ?_ _;have HG9:=lz (show Gr (fun k=>k=w.heap.size+1+1) W W2 from Hg7.out.trans C6.out);have aJV:=lz (H4b.out.trans C6.out);have hF9:=HF.out W2 HG9.out;have hq9:=C6.out.blk aOb.out oz;have ht9:=C6.out.blk Xn.out oz;have hr9:=C6.out.blk XI.out oz;have q1:=hq9.cell 1;have q3:=hq9.cell 3;have t1:=ht9.cell 1;have t2:=ht9.cell 2;have t3:=ht9.cell 3;have d4:=hF9.2.2.2.2.2.1.cell 4;have u0:=hF9.2.2.2.2.1.cell 0;have r1:=hr9.cell 0;have r2:=hr9.cell 1;have r3:=hr9.cell 2;have aOe:(Instr.lookup 175 (.map (some (w.heap.size+1+1))) (.agg #[.string r.m,.string r.p,.string r.o]) false).run pG W2= .ok (.int .i64 (dR r (u++ [r]))) W2:=HC2.out.iH (M:=KF) (y:=r) hrk;have tE:=sP r r u;rw[if_pos rfl]at tE;have og:=JU r u;obtain⟨cn2,C5⟩:∃c,c=dR r u:=⟨_,rfl⟩;rw[tE,←C5]at aOe;rw[←C5]at og;clear tE C5 hF9 hq9 ht9 hr9 QF QE Uy HBt hrk;by_cases qw:n<0
       ·have e1:decide (n<0)=true:=dT qw
        have hb:=ox.out W2 HG9.out (HN.out (by rw[Vz.out,if_pos qw]));have r0:=hb.2.1;have f0:=hb.2.2;have vN:=lz hb.1;clear hb og;gi_wp2;exact vN.out
       ·have e1:decide (n<0)=false:=dF qw
        cases Mn:t.out with
        | true=>
         rw[Mn]at t2;have hb:=ox.out W2 HG9.out (HN.out (by rw[Vz.out,if_neg qw,if_pos Mn]));have r0:=hb.2.1;have f0:=hb.2.2;have vN:=lz hb.1;clear hb og Mn;gi_wp2;exact vN.out
        | false=>
         rw[Mn]at t2;by_cases QG:t.kd=q.kd;rotate_left
         ·have e2:(t.kd==q.kd)=false:=by simpa using QG
          have hb:=ox.out W2 HG9.out (HN.out (by rw[Vz.out,if_neg qw,if_neg (by rw[Mn];decide),if_pos QG]));have r0:=hb.2.1;have f0:=hb.2.2;have vN:=lz hb.1;clear hb og Mn;gi_wp2;exact vN.out
         ·have e2:(t.kd==q.kd)=true:=by simpa using QG
          by_cases hsz:t.sz=q.sz;rotate_left
          ·have e3:(t.sz==q.sz)=false:=by simpa using hsz
           have hb:=ox.out W2 HG9.out (HN.out (by rw[Vz.out,if_neg qw,if_neg (by rw[Mn];decide),if_neg (fun h=>h QG),if_pos hsz]));have r0:=hb.2.1;have f0:=hb.2.2;have vN:=lz hb.1;clear hb og Mn;gi_wp2;exact vN.out
          ·have e3:(t.sz==q.sz)=true:=by simpa using hsz
           by_cases hvl:(!(n==m))=vl;rotate_left
           ·by_cases uU:n=m
            ·have e4:(n==m)=true:=by simpa using uU
             have e5:vl=true:=by rw[e4]at hvl;cases vl<;>simp_all
             subst e5;have hb:=ox.out W2 HG9.out (HN.out (by rw[Vz.out,if_neg qw,if_neg (by rw[Mn];decide),if_neg (fun h=>h QG),if_neg (fun h=>h hsz),if_pos hvl]));have r0:=hb.2.1;have f0:=hb.2.2;have vN:=lz hb.1;clear hb og Mn hvl;gi_wp2;exact vN.out
            ·have e4:(n==m)=false:=by simpa using uU
             have e6:(n !=m)=true:=by simp[bne,e4]
             have e5:vl=false:=by rw[e4]at hvl;cases vl<;>simp_all
             subst e5;have hb:=ox.out W2 HG9.out (HN.out (by rw[Vz.out,if_neg qw,if_neg (by rw[Mn];decide),if_neg (fun h=>h QG),if_neg (fun h=>h hsz),if_pos hvl]));have r0:=hb.2.1;have f0:=hb.2.2;have vN:=lz hb.1;clear hb og Mn hvl;gi_wp2;exact vN.out
           ·have Hvl:=lz hvl
            clear hvl
            cases FC:fP r u with
            | true=>
             rw[FC]at og;have h19:0<cn2:=of_decide_eq_true og;have h18:decide (1<cn2+1)=true:=dT oz;by_cases uU:n=m
             ·have e4:(n==m)=true:=by simpa using uU
              have e5:vl=false:=by rw[←Hvl.out,e4];rfl
              subst e5;have hb:=ox.out W2 HG9.out (HN.out (by rw[Vz.out,if_neg qw,if_neg (by rw[Mn];decide),if_neg (fun h=>h QG),if_neg (fun h=>h hsz),if_neg (fun h=>h Hvl.out),if_pos FC]));have r0:=hb.2.1;have f0:=hb.2.2;have vN:=lz hb.1;clear hb og Mn FC;gi_wp2;exact vN.out
             ·have e4:(n==m)=false:=by simpa using uU
              have e6:(n !=m)=true:=by simp[bne,e4]
              have e5:vl=true:=by rw[←Hvl.out,e4];rfl
              subst e5;have hb:=ox.out W2 HG9.out (HN.out (by rw[Vz.out,if_neg qw,if_neg (by rw[Mn];decide),if_neg (fun h=>h QG),if_neg (fun h=>h hsz),if_neg (fun h=>h Hvl.out),if_pos FC]));have r0:=hb.2.1;have f0:=hb.2.2;have vN:=lz hb.1;clear hb og Mn FC;gi_wp2;exact vN.out
            | false=>
             rw[FC]at og;have h19:¬0<cn2:=of_decide_eq_false og;have h18:decide (1<cn2+1)=false:=dF oz;have Hgo:=lz (show jl x q m vl (dst.l.take (k+1)) (used++ [src])=some (u++ [r])by rw[NM.out,Vz.out,if_neg qw,if_neg (by rw[Mn];decide),if_neg (fun h=>h QG),if_neg (fun h=>h hsz),if_neg (fun h=>h Hvl.out),if_neg (by rw[FC];decide)]);clear og Mn FC;by_cases uU:n=m
             ·have e4:(n==m)=true:=by simpa using uU
              have e5:vl=false:=by rw[←Hvl.out,e4];rfl
              subst e5;gi_wp2;go_roundw
              case rel=>exact⟨k+1,u++ [r],oz,by go_num,lz Hgo.out,HC2.out,aJV.out⟩
              case measure=>simp[intOf];omega
             ·have e4:(n==m)=false:=by simpa using uU
              have e6:(n !=m)=true:=by simp[bne,e4]
              have e5:vl=true:=by rw[←Hvl.out,e4];rfl
              subst e5;gi_wp2;go_roundw
              case rel=>exact⟨k+1,u++ [r],oz,by go_num,lz Hgo.out,HC2.out,aJV.out⟩
              case measure=>simp[intOf];omega
      ·obtain rfl:k=dst.l.length:=by omega
       have Cx:=Ml.out;rw[List.take_length]at Cx;have Hnd:Hid (Eh x (T++ [⟨src,dst,vl⟩]) (some u)):=lz (aJN.out u (by rw[HD.out];exact Cx));have hul:=zS Cx;have Hcu:=lz aB0;have FB:=lz hGw;have HTl:=lz (show u.length≤1001*(T.length+1)by have h1:=HUL.out;simp at hul;omega);clear aB0 hGw Cx hul Ml hF4 Xd;gi_wp2;exact⟨FB.out,u,Hnd.out,HTl.out,Hcu.out,Hgr.out.trans FB.out⟩
noncomputable def aJX (id:Nat):Code:=(Tryz.f85.body.bind (uE id)).getD .skip
noncomputable def av:Array Oper:=match aJX 6 with | .region _ ops _=>ops | _=> #[]
def zT:List (Nat×Nat):= [(2,25),(4,26),(5,27),(7,28),(8,29),(10,30),(11,31),(13,32),(14,33),(16,34),(17,35),(19,36),(20,37),(22,38),(23,39),(24,40),(25,41),(26,42),(28,43),(29,44),(30,45),(31,46),(32,47),(34,48),(35,49),(36,50),(37,51),(39,52),(40,53),(41,54),(42,55),(44,56),(45,57),(46,58),(48,59),(49,11)]
structure aB2 where
 op:Nat
 key:Int
 src:Nat
 by_:Nat
def iz:List aB2:= [⟨1,119,0,0⟩,⟨3,108,25,2⟩,⟨6,114,27,5⟩,⟨9,118,29,8⟩,⟨12,99,31,11⟩,⟨15,97,33,14⟩,⟨18,111,35,17⟩,⟨21,105,37,20⟩,⟨27,115,42,26⟩,⟨33,98,47,32⟩,⟨38,101,51,37⟩,⟨43,100,55,42⟩,⟨47,106,58,46⟩]
structure Ctx where
 p:aC
 n:Int
 g3:Nat
 g5:Nat
 w0:World
 a0:Act
abbrev pt(b o:Nat):Value:= .pointer (some ⟨b,o,none⟩)
abbrev Uz(f:Nat):Value:= .func (.func f) #[] #[]
def dw(C:Ctx)(m:Int)(v:Value)(w:World):Prop:=∃b,v= .func (.func 164) #[] #[pt b 0]∧w.cell? ⟨b,0,none⟩=some (.int .i64 m)
def mH(C:Ctx)(o:Bool)(v:Value)(w:World):Prop:=∃b,v= .func (.func 162) #[] #[pt C.g3 0,pt b 0]∧w.cell? ⟨b,0,none⟩=some (.bool o)
def bh(C:Ctx)(mb:Nat)(j:Nat)(v:Value)(w:World):Prop:=
 if j∈ [4,7,10,13,22,28,34,39,44]then v=Uz 163 else
 if j∈ [16,19]then v= .func (.func 161) #[] #[pt C.g3 0]else
 match j with
 | 2=>v= .func (.func 166) #[] #[pt C.g5 0,pt C.g3 0]
 | 5=>dw C 4 v w
 | 8=>dw C 256 v w
 | 11=>dw C 256 v w
 | 14=>dw C 4096 v w
 | 17=>mH C true v w
 | 20=>mH C false v w
 | 23=>v=pt C.g3 4
 | 24=>v=C.p.aG.val
 | 25=>v= .int .i64 C.p.aG.l.length
 | 26=>dw C C.p.aG.l.length v w
 | 29=>v=pt C.g3 7
 | 30=>v=C.p.aX.val
 | 31=>v= .int .i64 C.p.aX.l.length
 | 32=>dw C C.p.aX.l.length v w
 | 35=>v=pt C.g3 5
 | 36=>v= .int .i64 C.p.ev
 | 37=>dw C C.p.ev v w
 | 40=>v=pt C.g3 6
 | 41=>v= .int .i64 C.p.bo
 | 42=>dw C C.p.bo v w
 | 45=>v= .int .i64 C.n
 | 46=>dw C C.n v w
 | 48=>v= .map (some mb)
 | 49=>v= .map (some mb)
 | _=>True
def Grw(w w':World):Prop:=∃row,w.grownBy w' row∧∀r,row=some r→∃es c,w.heap[r]?=some (.map es c)
theorem Grw.cell{w w':World}(h:Grw w w'){a:Addr}{v:Value}(hv:w.cell? a=some v):w'.cell? a=some v:=by
 obtain⟨row,hg,hr⟩:=h;have hlt:=World.block_lt_of_cell? w a hv;refine(World.cell?_of_block (hg.block a.block hlt (fun e=> ?_))).trans hv;obtain⟨es,c,hh⟩:=hr _ e.symm;simp[World.cell?,hh]at hv
theorem Grw.below{w w':World}(h:Below w.heap.size w w'):Grw w w':=⟨none,ux h none,fun _ e=>by cases e⟩
theorem dw.dn{C:Ctx}{m:Int}{v:Value}{w w':World}(h:dw C m v w)(hg:Grw w w'):dw C m v w':=let ⟨b,h1,h2⟩:=h;⟨b,h1,hg.cell h2⟩
theorem mH.dn{C:Ctx}{m:Bool}{v:Value}{w w':World}(h:mH C m v w)(hg:Grw w w'):mH C m v w':=let ⟨b,h1,h2⟩:=h;⟨b,h1,hg.cell h2⟩
theorem bh.dn{C:Ctx}{mb j:Nat}{v:Value}{w w':World}(h:bh C mb j v w)(hg:Grw w w'):bh C mb j v w':=by
 unfold bh at *;by_cases h1:j∈ [4,7,10,13,22,28,34,39,44]
 ·rw[if_pos h1]at h ⊢;exact h
 ·rw[if_neg h1]at h⊢
  by_cases h2:j∈ [16,19]
  ·rw[if_pos h2]at h ⊢;exact h
  ·rw[if_neg h2]at h⊢
   split at h<;>first | exact h | exact dw.dn h hg | exact mH.dn h hg
abbrev sl(a:Act)(j:Nat):Value:=a.tmps.getD j undef
def NP(a:Act)(q:aB2):Value:=if q.src=0 then Uz 165 else sl a q.src
structure dP(C:Ctx)(mb:Nat)(listed:Array Bool)(a:Act)(w:World):Prop where
 df:a.defers= []
 sz:a.tmps.size=83
 old:∀j,j≠24→(∀q∈zT,q.2≠j)→sl a j=sl C.a0 j
 lE:Below C.w0.heap.size C.w0 w
 val:∀q∈zT,listed.getD q.1 false=true→bh C mb q.1 (sl a q.2) w
 map:listed.getD 0 false=true→∃k D,sl a 24= .map (some mb)∧C.w0.heap.size≤mb∧j4 w mb k D∧k+listed.toList.count false≤50∧∀q∈iz,listed.getD q.op false=true→D.atKey (kI q.key) ni= .held (NP a q)
theorem XP{a:Act}{d:Nat}{v:Value}(h:d<a.tmps.size)(j:Nat):sl (a.put (some d) v) j=if j=d then v else sl a j:=by
 unfold sl Act.put;by_cases e:j=d
 ·subst e;simp[h]
 ·simp only[if_neg e]
  rw[Array.getD_eq_getD_getElem?,Array.getD_eq_getD_getElem?,Array.getElem?_setIfInBounds_ne (fun x=>e x.symm)]
theorem vT{listed:Array Bool}{i:Nat}(hl:listed.getD i true=false):(listed.setIfInBounds i true).toList.count false+1=listed.toList.count false:=by
 have hlt:i<listed.size:=by
  rcases Nat.lt_or_ge i listed.size with h' | h'
  ·exact h'
  ·simp[Array.getElem?_eq_none h']at hl
 have hv:listed.toList[i]'(by simpa using hlt)=false:=by simpa [hlt]using hl
 have h2:false∈listed.toList:=by rw[←hv];exact List.getElem_mem _
 have h3:=List.count_pos_iff.2 h2;rw[Array.toList_setIfInBounds,List.count_set (by simpa using hlt),hv];rw[if_pos (by rfl),if_neg dz];omega
theorem Jd{listed:Array Bool}{i:Nat}(hl:listed.getD i true=false):listed.getD i false=false:=by
 rcases Nat.lt_or_ge i listed.size with h' | h'
 ·simp[h']at hl ⊢;exact hl
 ·simp[Array.getElem?_eq_none h']
theorem aB3:∀q∈iz,q.src≠0→eV .any av q.op q.by_=true:=by
 have h:(iz.all fun q=>q.src==0||eV .any av q.op q.by_)=true:=by kernel_rfl
 intro q hq hn;have:=List.all_eq_true.1 h q hq;simpa [hn]using this
theorem KW:(∀q∈iz,eV .any av q.op 0=true)∧eV .any av 48 0=true∧eV .any av 49 0=true:=by
 have h:(iz.all fun q=>eV .any av q.op 0)=true:=by kernel_rfl
 exact⟨fun q hq=>List.all_eq_true.1 h q hq,by kernel_rfl,by kernel_rfl⟩
theorem Sz:∀q∈zT,∀r∈zT,q.2=r.2→q.1=r.1:=by decide
theorem XQ:∀q∈zT,q.2≠24∧q.2<83∧q.1≠0:=by decide
theorem aFW:∀q∈iz,q.src≠0→(q.by_,q.src)∈zT:=by
 have h:(iz.all fun q=>q.src==0||zT.contains (q.by_,q.src))=true:=by decide
 intro q hq hn;have:=List.all_eq_true.1 h q hq;simpa [hn]using this
theorem XR:∀q∈iz,∀r∈zT,q.op≠r.1:=by decide
section
variable {P:Program} {Q:Exit→Act→World→Prop} {C:Ctx} {mb:Nat} {listed:Array Bool} {a:Act} {w:World}
theorem dP.value(h:dP C mb listed a w)(cC:Shuts .any av listed){q:Nat×Nat}(hq:q∈zT)(hl:listed.getD q.1 true=false){v:Value}{w':World}(hb:Below w.heap.size w w')(hv:bh C mb q.1 v w'):
 dP C mb (listed.setIfInBounds q.1 true) (a.put (some q.2) v) w':=by
 have h24:=XQ q hq;have hsz:=h.sz;have hput:=fun j=>XP (a:=a) (v:=v) (d:=q.2) oz j
 refine⟨h.df,by simp[Act.put,h.sz],fun j hj hn=> ?_,h.lE.trans (hb.mono h.lE.size),fun r hr KX=> ?_,fun h0=> ?_⟩
 ·rw[hput,if_neg (fun e=>hn q hq e.symm)];exact h.old j hj hn
 ·rw[hput]
  by_cases e:r.2=q.2
  ·rw[if_pos e,Sz r hr q hq e];exact hv
  ·rw[if_neg e]
   have hne:q.1≠r.1:=fun e2=>e (by
    have:∀q∈zT,∀r∈zT,q.1=r.1→q.2=r.2:=by decide
    exact(this q hq r hr e2).symm)
   rw[getD_set_ne false hne]at KX;exact(h.val r hr KX).dn (Grw.below hb)
 ·rw[getD_set_ne false h24.2.2]at h0
  obtain⟨k,D,e1,e2,e3,e4,e5⟩:=h.map h0;refine⟨k,D,by rw[hput,if_neg (fun e=>h24.1 e.symm)];exact e1,e2,e3.kept (ux hb none) qz,by have:=vT hl;omega,fun r hr KX=> ?_⟩;rw[getD_set_ne false (fun e=>XR r hr q hq e.symm)]at KX;rw[e5 r hr KX];unfold NP;by_cases hs:r.src=0
  ·rw[if_pos hs,if_pos hs]
  ·rw[if_neg hs,if_neg hs,hput,if_neg (fun e=> ?_)]
   have h1:=cC _ _ (aB3 r hr hs) KX;have h2:r.by_=q.1:=Sz _ (aFW r hr hs) q hq e;rw[h2,Jd hl]at h1
   cases h1
end
section
variable {Q:Exit→Act→World→Prop} {C:Ctx} {mb:Nat} {listed:Array Bool} {a:Act} {w:World} {o:Oper} {i d:Nat}
theorem SA:av.size=50:=by kernel_rfl
theorem XS{C:Ctx}{m m' j:Nat}{v:Value}{w:World}(h:bh C m j v w)(h1:j≠48)(h2:j≠49):bh C m' j v w:=by
 unfold bh at *;by_cases e1:j∈ [4,7,10,13,22,28,34,39,44]
 ·rw[if_pos e1]at h ⊢;exact h
 ·rw[if_neg e1]at h⊢
  by_cases e2:j∈ [16,19]
  ·rw[if_pos e2]at h ⊢;exact h
  ·rw[if_neg e2]at h⊢
   split at h<;>first | exact h | exact absurd rfl h1 | exact absurd rfl h2
theorem dP.made(h:dP C mb listed a w)(cC:Shuts .any av listed)(hs:listed.size=av.size)(hl:listed.getD 0 true=false):
 dP C w.heap.size (listed.setIfInBounds 0 true) (a.put (some 24) (.map (some w.heap.size))) (w.alloc (.map #[] 0)):=by
 have hsz:=h.sz;have hput:=fun j=>XP (a:=a) (v:= .map (some w.heap.size)) (d:=24) oz j
 have qw:∀j,eV .any av j 0=true→listed.getD j false=true→False:=fun j hj hlj=>by
  have h1:=cC j 0 hj hlj;rw[Jd hl]at h1
  cases h1
 have hB:Below w.heap.size w (w.alloc (.map #[] 0)):=bN;refine⟨h.df,by simp[Act.put,h.sz],fun j hj hn=> ?_,h.lE.trans (hB.mono h.lE.size),fun r hr KX=> ?_,fun _=> ?_⟩
 ·rw[hput,if_neg hj];exact h.old j hj hn
 ·have h24:=XQ r hr
  rw[getD_set_ne false (fun e=>h24.2.2 e.symm)]at KX;rw[hput,if_neg h24.1];exact XS (bh.dn (h.val r hr KX) (Grw.below hB)) (fun e=>qw _ KW.2.1 (e▸KX)) (fun e=>qw _ KW.2.2 (e▸KX))
 ·refine⟨0,_,by rw[hput,if_pos rfl],h.lE.size,j4.made w,?_,fun q hq hlq=> ?_⟩
  ·have h1:=vT hl
   have h2:listed.toList.count false≤listed.toList.length:=List.count_le_length;rw[Array.length_toList,hs,SA]at h2;omega
  ·have hne:(0:Nat)≠q.op:=by
    have:∀q∈iz,(0:Nat)≠q.op:=by decide
    exact this q hq
   rw[getD_set_ne false hne]at hlq;exact(qw _ (KW.1 q hq) hlq).elim
theorem dP.insert(h:dP C mb listed a w)(cC:Shuts .any av listed){q:aB2}(hq:q∈iz)(hl:listed.getD q.op true=false)(h0:listed.getD 0 false=true):
 ∃k D,sl a 24= .map (some mb)∧j4 w mb k D∧k<maxLen∧∀w',j4 w' mb (k+1) (D.put (kI q.key) (.held (NP a q)))→w.grownBy w' (some mb)→dP C mb (listed.setIfInBounds q.op true) a w':=by
 obtain⟨k,D,e1,e2,e3,e4,e5⟩:=h.map h0;have aBj:=vT hl;have h50:(50:Nat)<maxLen:=by decide
 refine⟨k,D,e1,e3,oz,fun w' hw hg=> ?_⟩;have hG:Grw w w':=⟨some mb,hg,fun r e=>by cases e;obtain⟨⟨es,c,hh,_⟩,_⟩:=e3;exact⟨es,c,hh⟩⟩;refine⟨h.df,h.sz,h.old,h.lE.grown hg h.lE.size (fun k e=>by cases e;exact e2),fun r hr KX=> ?_,fun _=>⟨k+1,_,e1,e2,hw,oz,fun r hr KX=> ?_⟩⟩
 ·rw[getD_set_ne false (XR q hq r hr)]at KX
  exact(h.val r hr KX).dn hG
 ·by_cases e:r.op=q.op
  ·have:r=q:=by
    have hh:∀r∈iz,∀q∈iz,r.op=q.op→r.key=q.key∧r.src=q.src∧r.by_=q.by_:=by decide
    obtain⟨x1,x2,x3⟩:=hh r hr q hq e
    cases r;cases q;simp_all
   subst this;have hwf:∀q∈iz,(kI q.key).wf=true:=by decide
   exact aBS e3.2 _ (hwf r hr) _
  ·rw[getD_set_ne false (fun x=>e x.symm)]at KX
   have hk:∀r∈iz,∀q∈iz,r.key=q.key→r.op=q.op:=by decide
   rw[WU (fun x=>e (hk r hr q hq x))];exact e5 r hr KX
abbrev lI(C:Ctx)(listed:Array Bool)(i:Nat)(a:Act)(w:World):Prop:=∃mb,dP C mb (listed.setIfInBounds i true) a w
theorem fQ(ho:av[i]?=some o)(hg:o.guard=none)(hd:o.dst=some d)(hq:(i,d)∈zT)(h:dP C mb listed a w)(cC:Shuts .any av listed)(hl:listed.getD i true=false){v:Value}
 (hr:(execOp a.eval o).run pG w= .ok (.value v) w) (hv:bh C mb i v w):wpOp pG av Q i (lI C listed i) a w:=wpOp_step ho fun K' hK=>by
 rw[if_pos (by simp[Region.wanted,hg])];unfold Oper.wp;rw[hr,Oper.upon_value,hd];exact hK _ _ ⟨mb,h.value cC (q:=(i,d)) hq hl (Below.refl _ _) hv⟩
theorem oP(ho:av[i]?=some o)(hg:o.guard=none)(hd:o.dst=some d)(hq:(i,d)∈zT)(h:dP C mb listed a w)(cC:Shuts .any av listed)(hl:listed.getD i true=false){f:FuncId}{args:Array Value}
 (hr:(execOp a.eval o).run pG w= .ok (.enter f args) w) (hc:Calls pG f args w fun e w'=>∃v,e= .returned v∧Below w.heap.size w w'∧bh C mb i v w'):wpOp pG av Q i (lI C listed i) a w:=wpOp_step ho fun K' hK=>by
 rw[if_pos (by simp[Region.wanted,hg])];unfold Oper.wp;rw[hr,Oper.upon_enter,hd];refine hc.mono ?_;rintro e w' ⟨v,rfl,hb,hv⟩;exact hK _ _ ⟨mb,h.value cC (q:=(i,d)) hq hl hb hv⟩
theorem aFX(ho:av[0]?=some o)(hg:o.guard=none)(hd:o.dst=some 24)(h:dP C mb listed a w)(cC:Shuts .any av listed)(hs:listed.size=av.size)(hl:listed.getD 0 true=false)
 (hr:(execOp a.eval o).run pG w= .ok (.value (.map (some w.heap.size))) (w.alloc (.map #[] 0))):wpOp pG av Q 0 (lI C listed 0) a w:=wpOp_step ho fun K' hK=>by
 rw[if_pos (by simp[Region.wanted,hg])];unfold Oper.wp;rw[hr,Oper.upon_value,hd];exact hK _ _ ⟨_,h.made cC hs hl⟩
theorem lJ{q:aB2}(hq:q∈iz)(ho:av[q.op]?=some o)(hg:o.guard=none)(hd:o.dst=none){x:Operand}(hop:o.op= .insert 214 (.tmp 24) (.const (.int .i32 q.key)) x)(hx:a.eval x=NP a q)
 (h:dP C mb listed a w) (cC:Shuts .any av listed) (hl:listed.getD q.op true=false) (h0:listed.getD 0 false=true):wpOp pG av Q q.op (lI C listed q.op) a w:=wpOp_step ho fun K' hK=>by
 rw[if_pos (by simp[Region.wanted,hg])];obtain⟨k,D,e1,e2,e3,e4⟩:=h.insert cC hq hl h0;have hwf:∀q∈iz,(kI q.key).wf=true:=by decide
 obtain⟨w',hrun,hw,hgr⟩:=e2.put e3 q.key (hwf q hq) (NP a q);have hm:a.eval (.tmp 24)= .map (some mb):=e1;have hk:a.eval (.const (.int .i32 q.key))= .int .i32 q.key:=rfl;unfold Oper.wp;simp[execOp,hop,hm,hk,hx,hrun,Result.andThen];rw[Oper.upon_skip,hd];exact hK _ _ ⟨mb,e4 w' hw hgr⟩
end
end
end Go.Proofs.YtmdgooofdmpcjaaGreatDoor
