import Derived.Test.YtmdgooofdmpcjaaGreatDoorY7
set_option maxRecDepth 100000
set_option maxHeartbeats 8000000
set_option linter.unusedSimpArgs false
set_option linter.unusedVariables false
set_option linter.unusedSectionVars false
open Go.Proofs.Tryz renaming prog → pG
open Array renaming getElem?_eq_none->GX
open Bool renaming and_eq_true->BW,false->Bj,true->BR
open List renaming all_eq_true->EL,filterMap_cons->EY,getD_eq_getElem?_getD->E1,getElem?_eq_getElem->EN,getElem_mem->CS,length_filterMap_le->IV,mem_append->E2,mem_cons->BU,mem_cons_self->BS,mem_map->GR,not_mem_nil->Fc,range->EO,take_succ_eq_append_getElem->Dl
open Nat renaming lt_of_lt_of_le->EU,lt_or_ge->Ii
open Option renaming none->Ag,some->Ai
open Go.Proofs.Tryz
namespace Go.Proofs.YtmdgooofdmpcjaaGreatDoor
open Fence renaming wide->FE
open Go renaming Addr->EK,Calls->ET,Value->Bn,World->Al,callFunc->EZ
open Go.Proofs renaming enters_of->Df
open Region renaming Mode->GZ,binds->G8,ready->GP
open RowKit renaming Below->BD,intOf->E8
open RowKit.Below renaming refl->BK
open World renaming cell?_alloc_lt->GH,putObj_heap_other->EM,putObj_heap_same->G7,size_alloc->Dj
section
open Go.ChangeShapes Go.WideShapes Go.ChangeAt Go.RowKit
attribute [local go_sem] Oper.semAt_some
structure ay.IsT(x:ay)(I:List gF):Prop where
 m:iC bT.is x.mods.l (I.filterMap gF.PI)
 s:x.aP.l=I.filterMap gF.Z5
 l:x.links.l=I.filterMap gF.ln?
 v:iC fU.is x.aF.l (I.filterMap gF.Z6)
 ch:x.aj=gN
 h:x.bQ=gN
 ca:x.causes=gN
 ve:x.aA=gN
theorem RP{x:Cf}{r:jK}(h:r∈x.rows):r.t≠31:=by
 simp only[Cf.rows,BU]at h;rcases h with rfl | rfl | rfl | rfl | h
 .show 67≠31;decide
 .show 87≠31;decide
 .show 46≠31;decide
 .show 44≠31;decide
 .rcases wU h with e | e | e<;>rw[e]<;>decide
theorem aEa(i:gF):0<i.len:=by cases i<;>simp[gF.len]<;>omega
theorem aDN{ts:List Tok}{p:Nat}{i:gF}(h:J3 ts p i=BR):p<ts.length:=by
 cases i<;>unfold J3 at h<;>simp only[BW]at h
 .exact(gG h.1.1).1
 .exact(gG h.1).1
 .exact(gG h.1).1
 .exact(gG h.1).1
theorem MK{ts:List Tok}:∀(I:List gF) (p:Nat),qA ts p I=BR->∀z∈I.filterMap gF.PI,∀y∈z.parts,∀q∈y.aq,0<=q.kd/\q.kd<=255
 | [],_,_,z,hz,_,_,_,_=>by simp at hz
 | i :: r,p,h,z,hz,y,hy,q,hq=>by
  unfold qA at h;simp only[BW]at h
  cases i with
  | mo x=>
   simp only[EY,gF.PI,BU]at hz;rcases hz with rfl | hz
   .have h1:=h.1
    unfold J3 at h1;simp only[BW]at h1;have:=of_decide_eq_true (EL.1 (EL.1 h1.2 y hy) q hq);omega
   .exact MK r _ h.2 z hz y hy q hq
  | sw x=>exact MK r _ h.2 z (by simpa [EY,gF.PI]using hz) y hy q hq
  | ln x=>exact MK r _ h.2 z (by simpa [EY,gF.PI]using hz) y hy q hq
  | vl x=>exact MK r _ h.2 z (by simpa [EY,gF.PI]using hz) y hy q hq
theorem aIL{W:Al}{base:Nat}{x:Cf}{I:List gF}{ts:List Tok}(ho:dA W base x.rows)(hx:x.Is I)(hI:qA ts 0 I=BR){q0 q2 q3 q4:Option EK}{m0 m2 m3 m4:Nat}(e0:x.v0= .slice q0 x.M.length m0)(e2:x.v2= .slice q2 x.S.length m2)(e3:x.v3= .slice q3 x.L.length m3)(e4:x.v4= .slice q4 x.V.length m4):
 ay.rd W W.heap.size ⟨⟨q0,m0,x.M⟩,gN,⟨q2,m2,x.S⟩,⟨q3,m3,x.L⟩,⟨q4,m4,x.V⟩,gN,gN,gN⟩:=by
 have h0:=ho (zj x.v0 x.M) (by simp[Cf.rows]);have h2:=ho (wS x.v2 x.S) (by simp[Cf.rows]);have h3:=ho (wT x.v3 x.L) (by simp[Cf.rows]);have h4:=ho (vB x.v4 x.V) (by simp[Cf.rows]);rw[e0]at h0;rw[e2]at h2;rw[e3]at h3;rw[e4]at h4;have b0:x.M.length<=m0/\m0<=maxLen:=by obtain⟨_,_,hv,a,b⟩:=bp h0;cases hv;exact⟨a,b⟩
 have b2:x.S.length<=m2/\m2<=maxLen:=by obtain⟨_,_,hv,a,b⟩:=bp h2;cases hv;exact⟨a,b⟩
 have b3:x.L.length<=m3/\m3<=maxLen:=by obtain⟨_,_,hv,a,b⟩:=bp h3;cases hv;exact⟨a,b⟩
 have b4:x.V.length<=m4/\m4<=maxLen:=by obtain⟨_,_,hv,a,b⟩:=bp h4;cases hv;exact⟨a,b⟩
 have kd:=MK I 0 hI;refine⟨b0.1,b0.2,Cd h0 λy hy=> ?_,nL,nZ,λh=>absurd h (Nat.lt_irrefl 0),b2.1,b2.2,Ce h2,b3.1,b3.2,uJ h3,b4.1,b4.2,ML h4 λy hy=> ?_,nL,nZ,λh=>absurd h (Nat.lt_irrefl 0),nL,nZ,λh=>absurd h (Nat.lt_irrefl 0),nL,nZ,λh=>absurd h (Nat.lt_irrefl 0)⟩
 .obtain⟨z,hz,hi⟩:=iC.mem hx.m y hy
  exact aAu hi (λr hr=>ho r (by
   simp only[Cf.rows,Cf.inner,BU,E2,List.mem_flatMap];exact .inr (.inr (.inr (.inr (.inl ⟨y,hy,hr⟩)))))) (kd z hz)
 .exact aEb (ho y.row (by
   simp only[Cf.rows,Cf.inner,BU,E2,GR];exact .inr (.inr (.inr (.inr (.inr ⟨y,hy,rfl⟩))))))
def jP(W:Al)(base:Nat)(x:ay)(I:List gF):Prop:=∃c:Cf,dA W base c.rows/\c.Is I/\∃(q0:Option EK) (m0:Nat) (q2:Option EK) (m2:Nat) (q3:Option EK) (m3:Nat) (q4:Option EK) (m4:Nat),c.v0= .slice q0 c.M.length m0/\c.v2= .slice q2 c.S.length m2/\c.v3= .slice q3 c.L.length m3/\c.v4= .slice q4 c.V.length m4/\x=⟨⟨q0,m0,c.M⟩,gN,⟨q2,m2,c.S⟩,⟨q3,m3,c.L⟩,⟨q4,m4,c.V⟩,gN,gN,gN⟩
theorem jP.rd{W:Al}{base:Nat}{x:ay}{I:List gF}{ts:List Tok}(h:jP W base x I)(hI:qA ts 0 I=BR):x.rd W W.heap.size:=by
 obtain⟨c,h1,h2,q0,m0,q2,m2,q3,m3,q4,m4,e0,e2,e3,e4,rfl⟩:=h;exact aIL h1 h2 hI e0 e2 e3 e4
theorem jP.isT{W:Al}{base:Nat}{x:ay}{I:List gF}(h:jP W base x I):x.IsT I:=by
 obtain⟨c,h1,h2,q0,m0,q2,m2,q3,m3,q4,m4,e0,e2,e3,e4,rfl⟩:=h;exact⟨h2.m,h2.s,h2.l,h2.v,rfl,rfl,rfl,rfl⟩
theorem jP.below{W W':Al}{base:Nat}{x:ay}{I:List gF}(h:jP W base x I)(hb:BD W.heap.size W W'):jP W' base x I:=by
 obtain⟨c,h1,h2⟩:=h;exact⟨c,h1.below hb,h2⟩
theorem jP.far{W:Al}{base:Nat}{x:ay}{I:List gF}(h:jP W base x I)(p:EK)(hp:p.block<base)(u:Bn):jP (W.setCell p u) base x I:=by
 obtain⟨c,h1,h2⟩:=h;exact⟨c,h1.gr (Gr.setCell W p u rfl:Gr (· =p.block) _ _) hp,h2⟩
theorem aAv(s:ByteArray)(ts:List Tok)(F:Nat)(I:List gF)(w:Al)(hs:s.size<=1000)(h:jG s F 0 []=Ai ts)(hl:ts.length<=100000)(hI:qA ts 0 I=BR)(hn:I.length<=900):
 ET pG 50 #[.string s] w λe w'=>∃(x:ay) (base:Nat),e= .returned (.tuple #[x.val,.int .i64 0,.int .i64 0])/\w.heap.size<=base/\jP w' base x I/\BD w.heap.size w w':=by
 obtain⟨w0,hw0⟩:=ez (w.alloc (.cells jg 31));have bW:BD w.heap.size w w0:=by rw[hw0];exact bN
 have jy:ah w0 w.heap.size 31 jg:=by rw[hw0];exact ah.new w _ _
 have hof:=aEZ s ts F w0 hs h;have Hof:=lz hof;have Mc:=lz hw0;have aV:=lz bW;have rT:=lz jy;have hz0:w0.heap.size=w.heap.size+1:=by rw[hw0];simp
 have HI:=lz (λk hk=>DB I 0 k hI hk);have HIa:=lz hI;clear hof hw0 bW jy h hI;go_enter func50,ntmps50;go_wp2_with fail;rw[<-Mc.out];refine Hof.out.mono ?_;rintro e w1 ⟨g,A,c,rfl,PK,hg1,aU⟩;obtain⟨w2,hw2⟩:=ez (w1.alloc (.cells jg 31));have pq:BD w1.heap.size w1 w2:=by rw[hw2];exact bN
 have wV:BD w.heap.size w w2:=(aV.out.trans (aU.mono aV.out.size)).trans (pq.mono (by have:=aU.size;omega));have MN:=PK.lt;have hgw:w.heap.size<g:=by omega
 have hP:ig w g A c ts s.size [⟨w1.heap.size,31,jg⟩,⟨w.heap.size,31,jg⟩] (Cf.rows ⟨.slice Ag 0 0,.slice Ag 0 0,.slice Ag 0 0,.slice Ag 0 0,[],[],[],[]⟩) 0 w2:=by
  refine⟨PK.below pq,wV,oz,λr hr=> ?_,λr hr=> ?_⟩
  .simp only[BU,Fc,or_false]at hr
   rcases hr with rfl | rfl
   .exact⟨by show w.heap.size<=w1.heap.size;have:=aU.size;omega,by show w1.heap.size≠g;omega,by rw[hw2];exact ah.new w1 _ _⟩
   .exact⟨nL,by show w.heap.size≠g;omega,(rT.out.below aU rT.out.lt).below pq (by have:=aU.size;show w.heap.size<_;omega)⟩
  .simp only[Cf.rows,Cf.inner,List.flatMap_nil,List.map_nil,List.nil_append,BU,Fc,or_false]at hr
   rcases hr with rfl | rfl | rfl | rfl<;>exact World.ownsRow_nil _ _ _ _
 have HP:=lz hP;have Hw2:=lz hw2;have hs1:w.heap.size<w1.heap.size:=by have:=aU.size;omega
 clear PK aU pq wV hP hw2 Hof;go_wp2_with fail;rw[<-Hw2.out];go_loopw [] (λwr=>∃(k:Nat) (x:Cf),k<=I.length/\x.Is (I.take k)/\ig w g A c ts s.size [⟨w1.heap.size,31,x.cs⟩,⟨w.heap.size,31,jg⟩] x.rows (mD (I.take k)) wr) (λwr=>ts.length-jZ g wr)
 case atStart=>exact⟨0,⟨.slice Ag 0 0,.slice Ag 0 0,.slice Ag 0 0,.slice Ag 0 0,[],[],[],[]⟩,nZ,⟨trivial,rfl,rfl,trivial⟩,HP.out⟩
 case round=>
  clear HP Hw2;obtain⟨k,x,hk,hx,hS⟩:=hrel;obtain⟨pos,DE⟩:=ez (mD (I.take k));rw[<-DE]at hS;have DF:=HI.out k hk;rw[Nat.zero_add,<-DE]at DF;have wW:=hS.eX.jZ;obtain⟨q0,m0,q2,m2,q3,m3,q4,m4,e0,e2,e3,e4⟩:=Cf.slices hS;have hlen:x.M.length<=1000/\x.S.length<=1000/\x.L.length<=1000/\x.V.length<=1000:=by
   have a1:=hx.m.len;have a2:=hx.v.len;have b1:((I.take k).filterMap gF.PI).length<=(I.take k).length:=IV _ _;have b2:((I.take k).filterMap gF.Z5).length<=(I.take k).length:=IV _ _;have b3:((I.take k).filterMap gF.ln?).length<=(I.take k).length:=IV _ _;have b4:((I.take k).filterMap gF.Z6).length<=(I.take k).length:=IV _ _;have b5:(I.take k).length<=900:=by rw[List.length_take];omega
   rw[<-hx.s]at b2;rw[<-hx.l]at b3;omega
  have aAw:=lz DE;have HX:=lz hx;obtain⟨v0,v2,v3,v4,M,S,L,V⟩:=x;dsimp only at e0 e2 e3 e4 hlen;subst e0 e2 e3 e4;have r0:=hS.eX.blk.cell 0;have r1:=hS.eX.blk.cell 1;have r4:=hS.eX.blk.cell 4;have hcb:=hS.at_ (r:=⟨w1.heap.size,31,_⟩) (BS ..);have d0:=hcb.cell 0;have d1:=hcb.cell 1;have d2:=hcb.cell 2;have d3:=hcb.cell 3;have d4:=hcb.cell 4;have d5:=hcb.cell 5;have d6:=hcb.cell 6;have d7:=hcb.cell 7;have HS:=lz hS;clear hS hcb DE hx;by_cases hlt:k<I.length
  .rw[List.drop_eq_getElem_cons hlt]at DF
   unfold qA at DF;simp only[BW]at DF;have hd:(pos:Int)<(ts.length:Int):=by have:=aDN DF.1;omega
   have hit:=fun(n:Nat)=>Wd I[k] ⟨.slice q0 M.length m0,.slice q2 S.length m2,.slice q3 L.length m3,.slice q4 V.length m4,M,S,L,V⟩ (I.take k) (wr.drewN n) (HS.out.below (aD (BK _ _))) HX.out (λr hr=>by
    simp only[BU,Fc,or_false]at hr;rcases hr with rfl | rfl<;>rfl) hl DF.1 hlen
   have Hit:=lz hit;have Hdr:=lz DF.1;clear hit DF;go_wp2_with fail;go_quiet (fail);go_wp2_with fail;refine(Hit.out _).mono ?_;rintro e W5 ⟨y,rfl,hy,hP5⟩;obtain⟨p0,n0,p2,n2,p3,n3,p4,n4,f0,f2,f3,f4⟩:=Cf.slices hP5;obtain⟨u0,u2,u3,u4,M5,S5,L5,V5⟩:=y;dsimp only at f0 f2 f3 f4;subst f0 f2 f3 f4;have sQ:=hP5.at_ (r:=⟨w1.heap.size,31,Cf.cs ⟨.slice q0 M.length m0,.slice q2 S.length m2,.slice q3 L.length m3,.slice q4 V.length m4,M,S,L,V⟩⟩) (BS ..);have e0:=sQ.cell 0;have e1:=sQ.cell 1;have e2:=sQ.cell 2;have e3:=sQ.cell 3;have e4:=sQ.cell 4;have e5:=sQ.cell 5;have e6:=sQ.cell 6;have e7:=sQ.cell 7;have g0:=sQ.frozen 0;have g1:=sQ.frozen 1;have g2:=sQ.frozen 2;have g3:=sQ.frozen 3;have g4:=sQ.frozen 4;have g5:=sQ.frozen 5;have g6:=sQ.frozen 6;have g7:=sQ.frozen 7;have hP6:=hP5.Wf (show g<w1.heap.size by omega) (λr hr=>by
    simp only[BU,Fc,or_false]at hr;subst hr;show w.heap.size≠w1.heap.size;omega) (hP5.J4 (BS ..) (λq hq=>RP hq)) (.slice p0 M5.length n0) (.slice Ag 0 0) (.slice p2 S5.length n2) (.slice p3 L5.length n3) (.slice p4 V5.length n4) (.slice Ag 0 0) (.slice Ag 0 0) (.slice Ag 0 0)
   obtain⟨W6,J5⟩:=ez (((((((((W5.setCell ⟨w1.heap.size,0,Ag⟩ (.slice p0 M5.length n0)).setCell ⟨w1.heap.size,1,Ag⟩ (.slice Ag 0 0)).setCell ⟨w1.heap.size,2,Ag⟩ (.slice p2 S5.length n2)).setCell ⟨w1.heap.size,3,Ag⟩ (.slice p3 L5.length n3)).setCell ⟨w1.heap.size,4,Ag⟩ (.slice p4 V5.length n4)).setCell ⟨w1.heap.size,5,Ag⟩ (.slice Ag 0 0)).setCell ⟨w1.heap.size,6,Ag⟩ (.slice Ag 0 0)).setCell ⟨w1.heap.size,7,Ag⟩ (.slice Ag 0 0)));rw[<-J5]at hP6;have Wg:=hP6.eX.jZ;have HP6:=lz hP6;have RR:=lz J5;have HY:=lz hy;clear hP5 sQ hP6 J5 Hit r0 r1 r4 hy d0 d1 d2 d3 d4 d5 d6 d7;go_wp2_with fail;rw[<-RR.out];go_roundw
   case rel=>
    refine⟨k+1,⟨.slice p0 M5.length n0,.slice p2 S5.length n2,.slice p3 L5.length n3,.slice p4 V5.length n4,M5,S5,L5,V5⟩,oz,?_,?_⟩
    .rw[Dl hlt];exact HY.out
    .rw[Dl hlt,AF,<-aAw.out];exact HP6.out
   case measure=>
    rw[Wg,wW];have:=aEa I[k];have:=aDN Hdr.out;omega
  .have hke:k=I.length:=by omega
   have hd:¬(pos:Int)<(ts.length:Int):=by
    rw[hke,List.drop_length]at DF;have:=of_decide_eq_true DF;omega
   have hxI:Cf.Is ⟨.slice q0 M.length m0,.slice q2 S.length m2,.slice q3 L.length m3,.slice q4 V.length m4,M,S,L,V⟩ I:=by
    have:=HX.out
    rwa[hke,List.take_length]at this
   have qB:=lz hxI;have MO:=HS.out.at_ (r:=⟨w.heap.size,31,jg⟩) qz;have t0:=MO.cell 0;have t1:=MO.cell 1;have t2:=MO.cell 2;have t3:=MO.cell 3;have t4:=MO.cell 4;have t5:=MO.cell 5;have t6:=MO.cell 6;have t7:=MO.cell 7;have f0:=MO.frozen 0;have f1:=MO.frozen 1;have f2:=MO.frozen 2;have f3:=MO.frozen 3;have f4:=MO.frozen 4;have f5:=MO.frozen 5;have f6:=MO.frozen 6;have f7:=MO.frozen 7;clear MO hxI hke DF;go_wp2_with fail;go_quiet (fail);go_wp2_with fail;have hD:=HS.out.below (W':=wr.drewN nq) (aD (BK _ _));have hown:dA (wr.drewN nq) (g+1) (Cf.rows ⟨.slice q0 M.length m0,.slice q2 S.length m2,.slice q3 L.length m3,.slice q4 V.length m4,M,S,L,V⟩):=hD.q;have Hgb:Hid (w.heap.size<=g+1):=lz (by have h1:=hD.hB;have h2:=aV.out.size;omega);have DH:ah (wr.drewN nq) w.heap.size 31 jg:=hD.at_ (r:=⟨w.heap.size,31,jg⟩) qz;have aNl:BD w.heap.size w (wr.drewN nq):=hD.lE;have cD:∀(W:Al) (cs:Array Bn) (i:Nat) (u:Bn),dA W (g+1) (Cf.rows ⟨.slice q0 M.length m0,.slice q2 S.length m2,.slice q3 L.length m3,.slice q4 V.length m4,M,S,L,V⟩)/\ah W w.heap.size 31 cs/\BD w.heap.size w W->dA (W.setCell ⟨w.heap.size,i,Ag⟩ u) (g+1) (Cf.rows ⟨.slice q0 M.length m0,.slice q2 S.length m2,.slice q3 L.length m3,.slice q4 V.length m4,M,S,L,V⟩)/\ah (W.setCell ⟨w.heap.size,i,Ag⟩ u) w.heap.size 31 (cs.setIfInBounds i u)/\BD w.heap.size w (W.setCell ⟨w.heap.size,i,Ag⟩ u):=λW cs i u h=>
    ⟨h.1.set h.2.1 (λr hr=>RP hr) u,h.2.1.bX i u,zk h.2.2 (Gr.setCell (X:=(· =w.heap.size)) _ _ _ rfl) nL⟩
   have hF:=cD _ _ 7 (.slice Ag 0 0) (cD _ _ 6 (.slice Ag 0 0) (cD _ _ 5 (.slice Ag 0 0) (cD _ _ 4 (.slice q4 V.length m4) (cD _ _ 3 (.slice q3 L.length m3) (cD _ _ 2 (.slice q2 S.length m2) (cD _ _ 1 (.slice Ag 0 0) (cD _ _ 0 (.slice q0 M.length m0) ⟨hown,DH,aNl⟩)))))));obtain⟨WZ,hWZ⟩:=ez ((((((((((wr.drewN nq).setCell ⟨w.heap.size,0,Ag⟩ (.slice q0 M.length m0)).setCell ⟨w.heap.size,1,Ag⟩ (.slice Ag 0 0)).setCell ⟨w.heap.size,2,Ag⟩ (.slice q2 S.length m2)).setCell ⟨w.heap.size,3,Ag⟩ (.slice q3 L.length m3)).setCell ⟨w.heap.size,4,Ag⟩ (.slice q4 V.length m4)).setCell ⟨w.heap.size,5,Ag⟩ (.slice Ag 0 0)).setCell ⟨w.heap.size,6,Ag⟩ (.slice Ag 0 0)).setCell ⟨w.heap.size,7,Ag⟩ (.slice Ag 0 0)));rw[<-hWZ]at hF ⊢;obtain⟨F1,F2,F3⟩:=hF;have F2':ah WZ w.heap.size 31 (gy (.slice q0 M.length m0) (.slice q2 S.length m2) (.slice q3 L.length m3) (.slice q4 V.length m4)):=by simpa using F2
   have z0:=F2'.cell 0;have z1:=F2'.cell 1;have z2:=F2'.cell 2;have z3:=F2'.cell 3;have z4:=F2'.cell 4;have z5:=F2'.cell 5;have z6:=F2'.cell 6;have z7:=F2'.cell 7;refine bodyPost_ret (v:= .tuple #[.agg (gy (.slice q0 M.length m0) (.slice q2 S.length m2) (.slice q3 L.length m3) (.slice q4 V.length m4)),.int .i64 0,.int .i64 0]) (by simp[results,results50,go_sem,z0,z1,z2,z3,z4,z5,z6,z7]) rfl ?_;exact⟨⟨⟨q0,m0,M⟩,gN,⟨q2,m2,S⟩,⟨q3,m3,L⟩,⟨q4,m4,V⟩,gN,gN,gN⟩,g+1,rfl,Hgb.out,⟨_,F1,qB.out,_,_,_,_,_,_,_,_,rfl,rfl,rfl,rfl,rfl⟩,F3⟩
def RT(ops:Array Oper):Bool:=(EO ops.size).all λi=>match ops[i]? with | some o=>o.after.all λe=>decide (e.on<i) | none=>BR
theorem PL{ops:Array Oper}(h:RT ops=BR){i:Nat}{o:Oper}(ho:ops[i]?=Ai o):∀e∈o.after,e.on<i:=by
 have hi:i<ops.size:=(gE ho).1;simp only[RT,EL,List.mem_range]at h;have h1:=h i hi;rw[ho]at h1;intro e he;have h2:=(Array.all_eq_true'.1 h1) e he;exact of_decide_eq_true h2
theorem Wh{md:GZ}{ops:Array Oper}{listed:Array Bool}(hb:RT ops=BR):∀(i:Nat),i<ops.size->listed.getD i BR=Bj->GP md ops listed≠ []:=by
 intro i
 induction i using Nat.strongRecOn with
 | ind i ih=>
  intro hi hl h0;have ho:ops[i]?=Ai ops[i]:=by simp[hi]
  have hr:i∈GP md ops listed:=mem_ready.2 ⟨hl,ops[i],ho,λe he hbi=>by
   have hlt:=PL hb ho e he
   cases hd:listed.getD e.on BR with
   | false=>exact absurd h0 (ih e.on hlt oz hd)
   | true=>
    rcases Ii e.on listed.size with h' | h'
    .simp[h']at hd ⊢;exact hd
    .rcases Ii i listed.size with h2 | h2
     .omega
     .simp[GX h2]at hl⟩
  rw[h0]at hr
  cases hr
def eV(md:GZ)(ops:Array Oper)(i j:Nat):Bool:=match ops[i]? with | some o=>o.after.any (λe=>G8 md e&&e.on==j) | none=>Bj
def Shuts(md:GZ)(ops:Array Oper)(listed:Array Bool):Prop:=∀i j,eV md ops i j=BR->listed.getD i Bj=BR->listed.getD j Bj=BR
theorem MP{md:GZ}{ops:Array Oper}{i j:Nat}{o:Oper}(ho:ops[i]?=Ai o)(h:eV md ops i j=BR):∃e∈o.after,G8 md e=BR/\e.on=j:=by
 unfold eV at h;rw[ho]at h;simp only[Array.any_eq_true']at h;obtain⟨e,he,hb⟩:=h;simp only[BW,beq_iff_eq]at hb;exact⟨e,he,hb⟩
theorem getD_set_true{listed:Array Bool}{i j:Nat}(h:listed.getD j Bj=BR):(listed.setIfInBounds i BR).getD j Bj=true:=by
 by_cases e:i=j
 .subst e
  rcases Ii i listed.size with h' | h'
  .simp[h']
  .simp[GX h']at h
 .rw[getD_set_ne Bj e];exact h
theorem Shuts.set{md:GZ}{ops:Array Oper}{listed:Array Bool}(h:Shuts md ops listed){i:Nat}{o:Oper}(ho:ops[i]?=Ai o)(aJ:∀e∈o.after,G8 md e=BR->listed.getD e.on Bj=BR):Shuts md ops (listed.setIfInBounds i BR):=λk j hd hk=>by
 by_cases e:i=k
 .subst e
  obtain⟨e,he,hb,rfl⟩:=MP ho hd;exact getD_set_true (aJ e he hb)
 .rw[getD_set_ne Bj e]at hk
  exact getD_set_true (h k j hd hk)
section
variable {P:Program} {md:GZ} {ops:Array Oper} {Q:Exit->Act->Al->Prop}
theorem J6(hb:RT ops=BR)(Inv:Array Bool->Act->Al->Prop)
 (MQ:∀listed a w i o,Inv listed a w->Shuts md ops listed->listed.size=ops.size->ops[i]?=Ai o->listed.getD i BR=Bj->(∀e∈o.after,G8 md e=BR->listed.getD e.on Bj=BR)->wpOp P ops Q i (Inv (listed.setIfInBounds i BR)) a w)
 (iJ:∀listed a w,Inv listed a w->(∀i,i<ops.size->listed.getD i BR=BR)->Q .normal a w):
 ∀(fuel:Nat) (listed:Array Bool) (a:Act) (w:Al),listed.size=ops.size->listed.toList.count Bj<=fuel->Shuts md ops listed->Inv listed a w->wpAny P md ops Q fuel listed a w:=by
 have uK:∀listed a w,Inv listed a w->GP md ops listed= []->Q .normal a w:=λlisted a w hI h0=>iJ listed a w hI λi hi=>by
  cases hd:listed.getD i BR with
  | true=>rfl
  | false=>exact absurd h0 (Wh hb i hi hd)
 intro fuel
 induction fuel with
 | zero=>
  intro listed a w hs hc cC hI;have h0:GP md ops listed= []:=by
   cases hr:GP md ops listed with
   | nil=>rfl
   | cons i l=>
    have hi:=(mem_ready.1 (by rw[hr];simp:i∈GP md ops listed)).1;have hlt:i<listed.size:=by
     rcases Ii i listed.size with h' | h'
     .exact h'
     .simp[GX h']at hi
    have h2:Bj∈listed.toList:=by
     simp[hlt]at hi;rw[<-hi];simp
    have h3:=List.count_pos_iff.2 h2;omega
  exact⟨h0,uK _ _ _ hI h0⟩
 | succ fuel ih=>
  intro listed a w hs hc cC hI;refine⟨uK _ _ _ hI,λi hi=> ?_⟩;obtain⟨hl,o,ho,aJ⟩:=mem_ready.1 hi;refine wpOp_mono (λa' w' hI'=>ih _ _ _ (by simpa using hs) ?_ (cC.set ho aJ) hI') (MQ listed a w i o hI cC hs ho hl aJ);have hlt:i<listed.size:=by
   rcases Ii i listed.size with h' | h'
   .exact h'
   .simp[GX h']at hl
  have hv:listed.toList[i]'(by simpa using hlt)=false:=by simpa [hlt]using hl
  have h2:Bj∈listed.toList:=by rw[<-hv];exact CS _
  have h3:=List.count_pos_iff.2 h2;rw[Array.toList_setIfInBounds,List.count_set (by simpa using hlt),hv];rw[if_pos (by rfl),if_neg dz];omega
end
theorem Cg{q:Prop}(z:q:=by
 go_wp2;go_loopw [5,8] (λ_ i wr=>∃k:Nat,k<=l.length/\i= .int .i64 k/\BD w.heap.size w wr/\Hid (∀j (h:j<l.length),j<k->p l[j]=Bj)) (λ_ i _=>l.length-(E8 i).toNat)
 case atStart=>exact⟨0,nZ,rfl,BK _ _,λj _ h=>absurd h oz⟩
 case round=>
  obtain⟨k,hk,rfl,hB,aJ⟩:=hrel;by_cases hlt:k<l.length
  .obtain⟨b,o,rfl,hb,hc⟩:=h.keep hB oz
   have gH:=hc k hlt;have au:CU g (#[(l[k]).val]++lb) wr (.bool (p l[k])):=by
    first
    | exact hp wr l[k] (CS hlt) hB
    | exact hp wr l[k] (CS hlt) hB (gH.2.2.2.2.more hB.size)
    | exact hp wr l[k] (CS hlt) hB (gH.2.2.2.2.2.more hB.size)
    | exact hp wr l[k] (CS hlt) hB (gH.2.2.2.2.2.2.more hB.size)
    | exact hp wr l[k] (CS hlt) hB (gH.2.2.2.2.2.2.2.more hB.size)
    | exact hp wr l[k] (CS hlt) hB (gH.2.2.2.2.2.2.2.2.2.2.more hB.size)
   clear hc hp h;have hs:=hB.size;have cD:p l[k]=BR->cV p l=k:=λhq=>nR hlt hq aJ.out
   have cQ:p l[k]=Bj->∀j (h:j<l.length),j<k+1->p l[j]=false:=λhq=>lU (p:=λr=>p r=Bj) aJ.out hq
   have dU:=lz cD;have dH:=lz cQ;clear cD cQ aJ;generalize l[k]=r at gH au dU dH;first
   | obtain⟨c0,c1,c2,c3,c4,c5,c6,c7,c8,c9,_⟩:=gH
   | obtain⟨c0,c1,c2,c3,c4,c5,c6,_⟩:=gH
   | obtain⟨c0,c1,c2,c3,c4,c5,_⟩:=gH
   | obtain⟨c0,c1,c2,c3,c4,_⟩:=gH
   | obtain⟨c0,c1,c2,c3,_⟩:=gH
   | obtain⟨c0,c1,c2,c3⟩:=gH
   | obtain⟨c0,c1,c2⟩:=gH
   have aN:=lz au;clear au
   cases hq:p r with
   | true=>
    have cD:=lz (dU.out hq);rw[hq]at aN;clear dU dH hq;go_wp2_with (go_at_fn g;refine aN.out.mono ?_;rintro e w' ⟨rfl,hb'⟩);go_ret;exact⟨eT cD.out.symm,hB.trans (hb'.mono hs)⟩
   | false=>
    have cQ:=lz (dH.out hq);rw[hq]at aN;clear dU dH hq;go_wp2_with (go_at_fn g;refine aN.out.mono ?_;rintro e w' ⟨rfl,hb'⟩);go_roundw
    case rel=>exact⟨k+1,oz,by go_num,hB.trans (hb'.mono hs),cQ⟩
    case measure=>simp[E8];omega
  .go_wp2
   go_ret;exact⟨eT (nM λj hj=>aJ.out j hj oz).symm,hB⟩):q:=z
theorem Ch{q:Prop}(z:q:=by
 go_wp2_with fail;refine hI.mono ?_;rintro e w1 ⟨rfl,aU⟩;clear hI;go_wp2;go_ret;exact⟨rfl,aU⟩):q:=z
theorem pI{q:Prop}(z:q:=by
 have Hc:=lz (au (W.alloc x.obj) (bN));have c0:(W.alloc x.obj).cell? ⟨Bx,0,Ag⟩=Ai (.func (.func g) #[] lb):=(hb.alloc _).cell 0;have hlt:=hb.lt;clear au hb;go_wp2_with (go_at_fn g;refine Hc.out.mono ?_;rintro e w' ⟨rfl,hb'⟩);go_ret;exact⟨rfl,((BK _ W).alloc nL x.obj).trans (hb'.mono qz)⟩):q:=z
theorem pJ{q:Prop}(z:q:=by
 have eP:=lz aZ;have cU:=lz bY;generalize l.all p=b at *;clear h1 bY aZ hp h;go_wp2_with fail;refine eP.out.mono ?_;rintro e w1 ⟨rfl,aU⟩;have HB:=lz (cU.out.trans (aU.mono cU.out.size));clear eP aU;go_wp2;go_ret;exact⟨by cases b<;>rfl,HB.out⟩):q:=z
theorem Tv:rU 234 CK ku:=by
 intro g lb p eg l A c w hp h hl;go_enter func234,ntmps234;exact Cg
theorem wX:rV 158 CK ku:=by
 intro g lb p eg l A c w hp h hl;have hI:=Tv g lb p eg l A c w hp h hl;rw[<-eZ];generalize cV p l=q at hI ⊢;clear h hp;go_enter func158,ntmps158;exact Ch
theorem Tw:rU 318 J7 jo:=by
 intro g lb p eg l A c w hp h hl;go_enter func318,ntmps318;exact Cg
theorem J8:rV 301 J7 jo:=by
 intro g lb p eg l A c w hp h hl;have hI:=Tw g lb p eg l A c w hp h hl;rw[<-eZ];generalize cV p l=q at hI ⊢;clear h hp;go_enter func301,ntmps301;exact Ch
theorem DI:rU 229 wY fu:=by
 intro g lb p eg l A c w hp h hl;go_enter func229,ntmps229;exact Cg
theorem uL:rV 135 wY fu:=by
 intro g lb p eg l A c w hp h hl;have hI:=DI g lb p eg l A c w hp h hl;rw[<-eZ];generalize cV p l=q at hI ⊢;clear h hp;go_enter func135,ntmps135;exact Ch
theorem PN:rU 230 wZ gI:=by
 intro g lb p eg l A c w hp h hl;go_enter func230,ntmps230;exact Cg
theorem uM:rV 137 wZ gI:=by
 intro g lb p eg l A c w hp h hl;have hI:=PN g lb p eg l A c w hp h hl;rw[<-eZ];generalize cV p l=q at hI ⊢;clear h hp;go_enter func137,ntmps137;exact Ch
theorem DJ:rU 231 xg fW:=by
 intro g lb p eg l A c w hp h hl;go_enter func231,ntmps231;exact Cg
theorem uN:rV 139 xg fW:=by
 intro g lb p eg l A c w hp h hl;have hI:=DJ g lb p eg l A c w hp h hl;rw[<-eZ];generalize cV p l=q at hI ⊢;clear h hp;go_enter func139,ntmps139;exact Ch
theorem xk:rU 104 qX dK:=by
 intro g lb p eg l A c w hp h hl;go_enter func104,ntmps104;exact Cg
theorem rW:rV 144 qX dK:=by
 intro g lb p eg l A c w hp h hl;have hI:=xk g lb p eg l A c w hp h hl;rw[<-eZ];generalize cV p l=q at hI ⊢;clear h hp;go_enter func144,ntmps144;exact Ch
theorem FR:rU 270 sR dY:=by
 intro g lb p eg l A c w hp h hl;go_enter func270,ntmps270;exact Cg
theorem zl:rV 212 sR dY:=by
 intro g lb p eg l A c w hp h hl;have hI:=FR g lb p eg l A c w hp h hl;rw[<-eZ];generalize cV p l=q at hI ⊢;clear h hp;go_enter func212,ntmps212;exact Ch
theorem xq:rU 106 qY dL:=by
 intro g lb p eg l A c w hp h hl;go_enter func106,ntmps106;exact Cg
theorem rX:rV 146 qY dL:=by
 intro g lb p eg l A c w hp h hl;have hI:=xq g lb p eg l A c w hp h hl;rw[<-eZ];generalize cV p l=q at hI ⊢;clear h hp;go_enter func146,ntmps146;exact Ch
theorem PO:rU 233 xu fZ:=by
 intro g lb p eg l A c w hp h hl;go_enter func233,ntmps233;exact Cg
theorem uO:rV 148 xu fZ:=by
 intro g lb p eg l A c w hp h hl;have hI:=PO g lb p eg l A c w hp h hl;rw[<-eZ];generalize cV p l=q at hI ⊢;clear h hp;go_enter func148,ntmps148;exact Ch
theorem Wi:rU 243 J9 mV:=by
 intro g lb p eg l A c w hp h hl;go_enter func243,ntmps243;exact Cg
theorem AJ:rV 169 J9 mV:=by
 intro g lb p eg l A c w hp h hl;have hI:=Wi g lb p eg l A c w hp h hl;rw[<-eZ];generalize cV p l=q at hI ⊢;clear h hp;go_enter func169,ntmps169;exact Ch
theorem Ka:rU 244 qZ fA:=by
 intro g lb p eg l A c w hp h hl;go_enter func244,ntmps244;exact Cg
theorem rY:rV 171 qZ fA:=by
 intro g lb p eg l A c w hp h hl;have hI:=Ka g lb p eg l A c w hp h hl;rw[<-eZ];generalize cV p l=q at hI ⊢;clear h hp;go_enter func171,ntmps171;exact Ch
theorem FT:rU 245 pS dS:=by
 intro g lb p eg l A c w hp h hl;go_enter func245,ntmps245;exact Cg
theorem qC:rV 173 pS dS:=by
 intro g lb p eg l A c w hp h hl;have hI:=FT g lb p eg l A c w hp h hl;rw[<-eZ];generalize cV p l=q at hI ⊢;clear h hp;go_enter func173,ntmps173;exact Ch
theorem FU:pK aM.val 136 133:=by
 intro g lb eg Bx b x W hb au;go_enter func136,ntmps136;exact pI
theorem Tx:jF 56 wY fu:=by
 intro g lb p eg l A c w hp h hl;obtain⟨h1,bY⟩:=fF w 133 #[.func (.func g) #[] lb];have aZ:=uL 136 #[.pointer (Ai ⟨w.heap.size,0,Ag⟩)] (λx=> !p x) (Df func136 kz rfl) l A c _ (λW x hx hW fK=>FU g lb eg _ (p x) x W (h1.below hW h1.lt) λW' hW'=>hp W' x hx (Fx bY hW hW') (fK.below hW')) (h.below bY) hl;rw[cB]at aZ;go_enter func56,ntmps56;exact pJ
theorem FW:pK cT.val 138 134:=by
 intro g lb eg Bx b x W hb au;go_enter func138,ntmps138;exact pI
theorem Iy:jF 57 wZ gI:=by
 intro g lb p eg l A c w hp h hl;obtain⟨h1,bY⟩:=fF w 134 #[.func (.func g) #[] lb];have aZ:=uM 138 #[.pointer (Ai ⟨w.heap.size,0,Ag⟩)] (λx=> !p x) (Df func138 kz rfl) l A c _ (λW x hx hW fK=>FW g lb eg _ (p x) x W (h1.below hW h1.lt) λW' hW'=>hp W' x hx (Fx bY hW hW') (fK.below hW')) (h.below bY) hl;rw[cB]at aZ;go_enter func57,ntmps57;exact pJ
theorem FX:pK aC.val 140 137:=by
 intro g lb eg Bx b x W hb au;go_enter func140,ntmps140;exact pI
theorem Tz:jF 59 xg fW:=by
 intro g lb p eg l A c w hp h hl;obtain⟨h1,bY⟩:=fF w 137 #[.func (.func g) #[] lb];have aZ:=uN 140 #[.pointer (Ai ⟨w.heap.size,0,Ag⟩)] (λx=> !p x) (Df func140 kz rfl) l A c _ (λW x hx hW fK=>FX g lb eg _ (p x) x W (h1.below hW h1.lt) λW' hW'=>hp W' x hx (Fx bY hW hW') (fK.below hW')) (h.below bY) hl;rw[cB]at aZ;go_enter func59,ntmps59;exact pJ
theorem Ci:pK bT.val 145 139:=by
 intro g lb eg Bx b x W hb au;go_enter func145,ntmps145;exact pI
theorem AL:jF 66 qX dK:=by
 intro g lb p eg l A c w hp h hl;obtain⟨h1,bY⟩:=fF w 139 #[.func (.func g) #[] lb];have aZ:=rW 145 #[.pointer (Ai ⟨w.heap.size,0,Ag⟩)] (λx=> !p x) (Df func145 kz rfl) l A c _ (λW x hx hW fK=>Ci g lb eg _ (p x) x W (h1.below hW h1.lt) λW' hW'=>hp W' x hx (Fx bY hW hW') (fK.below hW')) (h.below bY) hl;rw[cB]at aZ;go_enter func66,ntmps66;exact pJ
theorem Cj:pK iI.val 147 140:=by
 intro g lb eg Bx b x W hb au;go_enter func147,ntmps147;exact pI
theorem MR:jF 67 qY dL:=by
 intro g lb p eg l A c w hp h hl;obtain⟨h1,bY⟩:=fF w 140 #[.func (.func g) #[] lb];have aZ:=rX 147 #[.pointer (Ai ⟨w.heap.size,0,Ag⟩)] (λx=> !p x) (Df func147 kz rfl) l A c _ (λW x hx hW=>Cj g lb eg _ (p x) x W (h1.below hW h1.lt) λW' hW'=>hp W' x hx (Fx bY hW hW')) (h.below bY) hl;rw[cB]at aZ;go_enter func67,ntmps67;exact pJ
theorem FY:pK aO.val 149 141:=by
 intro g lb eg Bx b x W hb au;go_enter func149,ntmps149;exact pI
theorem TB:jF 68 xu fZ:=by
 intro g lb p eg l A c w hp h hl;obtain⟨h1,bY⟩:=fF w 141 #[.func (.func g) #[] lb];have aZ:=uO 149 #[.pointer (Ai ⟨w.heap.size,0,Ag⟩)] (λx=> !p x) (Df func149 kz rfl) l A c _ (λW x hx hW=>FY g lb eg _ (p x) x W (h1.below hW h1.lt) λW' hW'=>hp W' x hx (Fx bY hW hW')) (h.below bY) hl;rw[cB]at aZ;go_enter func68,ntmps68;exact pJ
theorem MS:pK fU.val 170 179:=by
 intro g lb eg Bx b x W hb au;go_enter func170,ntmps170;exact pI
theorem aAy:jF 88 J9 mV:=by
 intro g lb p eg l A c w hp h hl;obtain⟨h1,bY⟩:=fF w 179 #[.func (.func g) #[] lb];have aZ:=AJ 170 #[.pointer (Ai ⟨w.heap.size,0,Ag⟩)] (λx=> !p x) (Df func170 kz rfl) l A c _ (λW x hx hW fK=>MS g lb eg _ (p x) x W (h1.below hW h1.lt) λW' hW'=>hp W' x hx (Fx bY hW hW') (fK.below hW')) (h.below bY) hl;rw[cB]at aZ;go_enter func88,ntmps88;exact pJ
theorem Kc:pK gu.val 159 171:=by
 intro g lb eg Bx b x W hb au;go_enter func159,ntmps159;exact pI
theorem Wj:jF 83 CK ku:=by
 intro g lb p eg l A c w hp h hl;obtain⟨h1,bY⟩:=fF w 171 #[.func (.func g) #[] lb];have aZ:=wX 159 #[.pointer (Ai ⟨w.heap.size,0,Ag⟩)] (λx=> !p x) (Df func159 kz rfl) l A c _ (λW x hx hW fK=>Kc g lb eg _ (p x) x W (h1.below hW h1.lt) λW' hW'=>hp W' x hx (Fx bY hW hW') (fK.below hW')) (h.below bY) hl;rw[cB]at aZ;go_enter func83,ntmps83;exact pJ
theorem Ck:pK iK.val 172 181:=by
 intro g lb eg Bx b x W hb au;go_enter func172,ntmps172;exact pI
theorem MU:jF 92 qZ fA:=by
 intro g lb p eg l A c w hp h hl;obtain⟨h1,bY⟩:=fF w 181 #[.func (.func g) #[] lb];have aZ:=rY 172 #[.pointer (Ai ⟨w.heap.size,0,Ag⟩)] (λx=> !p x) (Df func172 kz rfl) l A c _ (λW x hx hW fK=>Ck g lb eg _ (p x) x W (h1.below hW h1.lt) λW' hW'=>hp W' x hx (Fx bY hW hW') (fK.below hW')) (h.below bY) hl;rw[cB]at aZ;go_enter func92,ntmps92;exact pJ
theorem zm:pK lF.val 174 182:=by
 intro g lb eg Bx b x W hb au;go_enter func174,ntmps174;exact pI
theorem Ke:jF 93 pS dS:=by
 intro g lb p eg l A c w hp h hl;obtain⟨h1,bY⟩:=fF w 182 #[.func (.func g) #[] lb];have aZ:=qC 174 #[.pointer (Ai ⟨w.heap.size,0,Ag⟩)] (λx=> !p x) (Df func174 kz rfl) l A c _ (λW x hx hW=>zm g lb eg _ (p x) x W (h1.below hW h1.lt) λW' hW'=>hp W' x hx (Fx bY hW hW')) (h.below bY) hl;rw[cB]at aZ;go_enter func93,ntmps93;exact pJ
def aAz{α:Type}(X:Nat->Prop)(f:Nat)(lb:Array Bn)(encs:α->Array Bn)(xs:List α)(w:Al):Prop:=
 ∀(l:Nat) (W:Al) (J Jx:List α->Al->Prop),BD w.heap.size w W->(∀T W W',J T W->BD W.heap.size W W'->J T W')->(∀T W W',Jx T W->BD W.heap.size W W'->Jx T W')->J [] W->
  (∀T (t:α) W',T++ [t] <+: xs->Gr X w W'->J T W'->YieldAt FE 7 pG l (encs t) W' λe W2=>(e= .returned (.bool BR)/\J (T++ [t]) W2/\Gr X W' W2)\/(e= .returned (.bool Bj)/\Jx (T++ [t]) W2))->
  CallsIn FE 8 pG f (#[.func (.yield l) #[] #[]]++lb) W λe W'=>(∃v,e= .returned v)/\(J xs W'\/∃T,T <+: xs/\Jx T W')
theorem aA0{α:Type}{g:Operand}{ps:Array Tmp}{assign body:Code}{Q:Exit->Act->Al->Prop}{a:Act}{w:Al}{gf:Nat}{lb:Array Bn}{encs:α->Array Bn}{xs:List α}{X:Nat->Prop}(hg:a.eval g= .func (.func gf) #[] lb)
 (eg:∀args w,(EZ gf args).run pG w= .ok (.enter gf args) w) (BX:∀t,(encs t).size=ps.size) (hX:∀k,X k->k<w.heap.size) (MV:aAz X gf lb encs xs w)
 (Post lW:List α->Al->Prop) (hPb:∀T W W',Post T W->BD W.heap.size W W'->Post T W') (hEb:∀T W W',lW T W->BD W.heap.size W W'->lW T W')
 (MW:∀T (l:Nat) W (o o':Obj),w.heap.size<=l->W.heap[l]?=Ai o->o.isCells=Bj->Post T W->Post T (W.putObj l o'))
 (MX:∀T (l:Nat) W (o o':Obj),w.heap.size<=l->W.heap[l]?=Ai o->o.isCells=Bj->lW T W->lW T (W.putObj l o'))
 (hP0:Post [] w)
 (Ax:List α->α->Act->Al->Prop) (Kf:∀T t (l:Nat) a' W (o o':Obj),w.heap.size<=l->W.heap[l]?=Ai o->o.isCells=Bj->Ax T t a' W->Ax T t a' (W.putObj l o'))
 (rm:∀(l:Nat) T (t:α) (W:Al) (K:Act->Al->Prop),T++ [t] <+: xs->w.heap.size+2<=W.heap.size->Gr X w W->Post T W->
  (∀a' W',KeepsFrom w.heap.size W W'->Gr X W W'->Ax T t a' W'->K a' W')->
  assign.wpIn (FE.inRound l) 7 pG (Exit.then K (λ_ _ _=>False)) {tmps:=(ps.zip (encs t)).foldl (λt (p,v)=>t.setIfInBounds p v) a.tmps,defers:= []} W)
 (DK:∀(l:Nat) T (t:α) (a':Act) (W:Al),T++ [t] <+: xs->Gr X w W->Ax T t a' W->body.wpIn (FE.inRound l) 7 pG (λe a3 W3=>KeepsFrom w.heap.size W W3/\((e= .normal/\Gr X W W3/\Post (T++ [t]) W3)\/(e= .ret/\lW (T++ [t]) W3))) a' W)
 (uK:∀(D:Nat) (W3:Al),w.heap.size<=D->Post xs W3->W3.heap[D]?=Ai (.deferred (Ai []))->Q .normal {a with defers:={target:= .collected D,args:= #[]} :: a.defers} W3)
 (Wk:∀(D:Nat) T (W3:Al),w.heap.size<=D->T <+: xs->lW T W3->W3.heap[D]?=Ai (.deferred (Ai []))->Q .ret {a with defers:={target:= .collected D,args:= #[]} :: a.defers} W3):
 (Code.rangeFunc g ps assign body).wpIn FE 9 pG Q a w:=by
 refine wpIn_rangeFunc ?_;intro fn RF;obtain⟨rec,jL⟩:∃rec:LoopState->Option Code->Loop,rec=λst pe=>{state:=st,pending:=pe,fn,tmps:=a.tmps,params:=ps,assign,body,defers:=w.heap.size}:=⟨_,rfl⟩
 obtain⟨W1,hW1⟩:=ez ((w.alloc (.deferred (Ai []))).alloc (.loop (rec .ready Ag)));have DL:W1.heap[w.heap.size+1]?=Ai (.loop (rec .ready Ag)):=by
  rw[hW1];have:=World.alloc_heap_new (w.alloc (.deferred (Ai []))) (.loop (rec .ready Ag));rwa[Dj]at this
 have TD:W1.heap[w.heap.size]?=Ai (.deferred (Ai [])):=by
  rw[hW1];exact(Below.heap_alloc _ _ _ qz).trans (World.alloc_heap_new w _)
 have aU:BD w.heap.size w W1:=by rw[hW1];exact(bN).alloc qz _
 have hz1:W1.heap.size=w.heap.size+2:=by rw[hW1];simp
 refine⟨w.heap.size+1,[{target:= .collected w.heap.size,args:= #[]}],W1,{target:= .fn (.func gf) lb,args:= #[.func (.yield (w.heap.size+1)) #[] #[]]},W1,gf,#[.func (.yield (w.heap.size+1)) #[] #[]]++lb,W1,?_,?_,?_,?_,λ_=>by omega,?_⟩
 .rw[hW1,jL];exact run_enterLoop_outer _ _ _ _ _
 .simp only[resolve,hg];simp[go_sem]
 .intro f' PS;simp[Target.leads]at PS;subst PS;trivial
 .simp[invoke,go_sem,eg]
 have hgr:∀W (o:Obj) l,w.heap.size<=l->Gr X w W->Gr X w (W.putObj l o):=λW o l hl h=>
  ⟨h.os,h.tape,h.output,by simpa using h.size,λk hk hn=>(EM oz).trans (h.block k hk hn)⟩
 have Kg:∀T (t:α) W,T++ [t] <+: xs->Gr X w W->Post T W->W.heap[w.heap.size+1]?=Ai (.loop (rec .ready Ag))->W.heap[w.heap.size]?=Ai (.deferred (Ai []))->
  YieldAt FE 7 pG (w.heap.size+1) (encs t) W λe W2=>
   (e= .returned (.bool BR)/\(Post (T++ [t]) W2/\W2.heap[w.heap.size+1]?=Ai (.loop (rec .ready Ag))/\W2.heap[w.heap.size]?=Ai (.deferred (Ai [])))/\Gr X W W2)\/
   (e= .returned (.bool Bj)/\lW (T++ [t]) W2/\W2.heap[w.heap.size+1]?=Ai (.loop (rec .done (Ai .ret)))/\W2.heap[w.heap.size]?=Ai (.deferred (Ai []))):=by
  intro T t W hT hG hP hl hk;have hy:=run_yield (P:=pG) (args:=encs t) hl (by rw[jL];exact BX t);rw[jL]at hy;have hsz:w.heap.size+2<=W.heap.size:=by
   have:=(gE hl).1;omega
  refine⟨fn,_,assign,body,hy,roundIn_of_wpIn RF (rm _ T t W _ hT hsz hG hP ?_)⟩;intro a' Wa hkf hga Vr;have FZ:=hkf.same _ _ oz hl rfl;have hka:=hkf.same _ _ nL hk rfl;have hlt:w.heap.size+1<Wa.heap.size:=(gE FZ).1;refine⟨_,run_beginRound FZ (by rw[jL]),?_⟩;have Cb:(Wa.putObj (w.heap.size+1) (.loop {rec .ready Ag with state:= .busy})).heap[w.heap.size+1]?=Ai (.loop {rec .ready Ag with state:= .busy}):=G7 hlt;have rZ:(Wa.putObj (w.heap.size+1) (.loop {rec .ready Ag with state:= .busy})).heap[w.heap.size]?=Ai (.deferred (Ai [])):=(EM oz).trans hka;refine wpIn_mono (DK _ T t a' _ hT (hgr _ _ _ oz (hG.trans hga)) (Kf _ _ _ _ _ _ _ oz FZ rfl Vr)) ?_;rintro e a3 W3 ⟨zn,Wm⟩;have qD:=zn.same _ _ oz Cb rfl;have Wn:=zn.same _ _ nL rZ rfl;have TF:w.heap.size+1<W3.heap.size:=(gE qD).1;rcases Wm with⟨rfl,hX3,zo⟩ | ⟨rfl,zo⟩
  .have hr:=run_endRound (P:=pG) Ag qD
   refine⟨_,_,hr,.inl ⟨rfl,⟨MW _ _ _ _ _ oz qD rfl zo,?_,(EM oz).trans Wn⟩,?_⟩⟩
   .refine(G7 TF).trans ?_
    rw[jL];rfl
   .refine⟨hX3.os.trans hga.os,hX3.tape.trans hga.tape,hX3.output.trans hga.output,?_,λk hk hn=> ?_⟩
    .have h1:=hX3.size
     have h2:=hga.size;simp at h1 ⊢;omega
    .by_cases e:k=w.heap.size+1
     .subst e
      refine Eq.trans ?_ hl.symm;refine(G7 TF).trans ?_;rw[jL];rfl
     .have rZ:k<Wa.heap.size:=EU hk hga.size
      exact(EM e).trans ((hX3.block k (by simpa using rZ) hn).trans ((EM e).trans (hga.block k hk hn)))
  .have hr:=run_endRound (P:=pG) (Ai .ret) qD
   refine⟨_,_,hr,.inr ⟨rfl,MX _ _ _ _ _ oz qD rfl zo,?_,(EM oz).trans Wn⟩⟩;refine(G7 TF).trans ?_;rw[jL];rfl
 have qR:∀W W' (o o':Obj),W.heap[w.heap.size+1]?=Ai o->W.heap[w.heap.size]?=Ai o'->BD W.heap.size W W'->W'.heap[w.heap.size+1]?=Ai o/\W'.heap[w.heap.size]?=Ai o':=λW W' o o' h1 h2 hG=>
  ⟨(hG.block _ (gE h1).1).trans h1,(hG.block _ (gE h2).1).trans h2⟩
 refine(MV (w.heap.size+1) W1 (λT W=>Post T W/\W.heap[w.heap.size+1]?=Ai (.loop (rec .ready Ag))/\W.heap[w.heap.size]?=Ai (.deferred (Ai [])))
  (λT W=>lW T W/\W.heap[w.heap.size+1]?=Ai (.loop (rec .done (Ai .ret)))/\W.heap[w.heap.size]?=Ai (.deferred (Ai []))) aU
  (λT W W' h hG=>⟨hPb _ _ _ h.1 hG,qR _ _ _ _ h.2.1 h.2.2 hG⟩) (λT W W' h hG=>⟨hEb _ _ _ h.1 hG,qR _ _ _ _ h.2.1 h.2.2 hG⟩) ⟨hPb _ _ _ hP0 aU,DL,TD⟩ ?_).mono ?_
 .intro T t W' hT hG hJ
  exact Kg T t W' hT hG hJ.1 hJ.2.1 hJ.2.2
 .rintro e W3 ⟨⟨v,rfl⟩,iJ⟩
  rcases iJ with⟨hP,qD,zn⟩ | ⟨T,hT,hP,qD,zn⟩
  .have hr:=run_endLoop (P:=pG) qD (by rw[jL];simp)
   rw[show(rec .ready Ag).pending=Ag by rw[jL]]at hr;refine⟨Ag,_,hr,?_⟩;exact uK _ _ nL (MW _ _ _ _ _ oz qD rfl hP) ((EM oz).trans zn)
  .have hr:=run_endLoop (P:=pG) qD (by rw[jL];simp)
   rw[show(rec .done (Ai .ret)).pending=Ai .ret by rw[jL]]at hr;refine⟨Ai .ret,_,hr,?_⟩;exact wpIn_ret (Wk _ _ _ nL hT (MX _ _ _ _ _ oz qD rfl hP) ((EM oz).trans zn))
theorem zq{B:Nat}{W:Al}{l:Nat}(o':Obj)(hl:B<=l):BD B W (W.putObj l o'):=⟨rfl,rfl,rfl,qz,λk hk=>EM oz⟩
theorem mW{W:Al}{l Bx:Nat}{t:TypeId}{cs:Array Bn}{o o':Obj}(h:ah W Bx t cs)(ho:W.heap[l]?=Ai o)(hc:o.isCells=Bj):ah (W.putObj l o') Bx t cs:=by
 have hne:Bx≠l:=λe=>by subst e;rw[show W.heap[Bx]?=_ from h]at ho;cases ho;cases hc
 exact(EM hne).trans h
theorem DM{B:Nat}{X:Nat->Prop}{W W':Al}(h:Gr X W W')(hX:∀k,X k->k<B):KeepsFrom B W W':=
 ⟨h.size,λk o hk ho hc=>(h.block k (gE ho).1 (λhx=>absurd (hX k hx) oz)).trans ho⟩
theorem tQ{α:Type}{g:Operand}{ps:Array Tmp}{assign body:Code}{Q:Exit->Act->Al->Prop}{a:Act}{w:Al}{gf:Nat}{lb:Array Bn}{encs:α->Array Bn}{xs:List α}{X XE:Nat->Prop}(hg:a.eval g= .func (.func gf) #[] lb)
 (eg:∀args w,(EZ gf args).run pG w= .ok (.enter gf args) w) (BX:∀t,(encs t).size=ps.size) (hX:∀k,X k->k<w.heap.size) (hXE:∀k,XE k->k<w.heap.size) (MV:aAz X gf lb encs xs w)
 (I IE:List α->Al->Prop) (hI:∀T W W',I T W->BD w.heap.size W W'->I T W') (RU:∀T W W',IE T W->BD w.heap.size W W'->IE T W') (TG:I [] w)
 (Ax:α->Act->Al->Prop) (Kf:∀t (l:Nat) a' W (o o':Obj),w.heap.size<=l->W.heap[l]?=Ai o->o.isCells=Bj->Ax t a' W->Ax t a' (W.putObj l o'))
 (rm:∀(l:Nat) T (t:α) (W:Al) (K:Act->Al->Prop),T++ [t] <+: xs->w.heap.size+2<=W.heap.size->(∀a' W',BD W.heap.size W W'->Ax t a' W'->K a' W')->
  assign.wpIn (FE.inRound l) 7 pG (Exit.then K (λ_ _ _=>False)) {tmps:=(ps.zip (encs t)).foldl (λt (p,v)=>t.setIfInBounds p v) a.tmps,defers:= []} W)
 (DK:∀(l:Nat) T (t:α) (a':Act) (W:Al),T++ [t] <+: xs->w.heap.size+2<=W.heap.size->Gr X w W->I T W->Ax t a' W->body.wpIn (FE.inRound l) 7 pG (λe _ W3=>(e= .normal/\Gr X W W3/\I (T++ [t]) W3)\/(e= .ret/\Gr XE W W3/\IE (T++ [t]) W3)) a' W)
 (uK:∀(D:Nat) (W3:Al),w.heap.size<=D->w.heap.size<=W3.heap.size->I xs W3->W3.heap[D]?=Ai (.deferred (Ai []))->Q .normal {a with defers:={target:= .collected D,args:= #[]} :: a.defers} W3)
 (Wk:∀(D:Nat) T (W3:Al),w.heap.size<=D->w.heap.size<=W3.heap.size->T <+: xs->IE T W3->W3.heap[D]?=Ai (.deferred (Ai []))->Q .ret {a with defers:={target:= .collected D,args:= #[]} :: a.defers} W3):
 (Code.rangeFunc g ps assign body).wpIn FE 9 pG Q a w:=by
 refine aA0 hg eg BX hX MV (λT W=>w.heap.size<=W.heap.size/\I T W) (λT W=>w.heap.size<=W.heap.size/\IE T W)
  (λT W W' h hb=>⟨nT h.1 hb.size,hI _ _ _ h.2 (hb.mono h.1)⟩) (λT W W' h hb=>⟨nT h.1 hb.size,RU _ _ _ h.2 (hb.mono h.1)⟩)
  (λT l W o o' hl ho hc h=>⟨by simpa using h.1,hI _ _ _ h.2 (zq o' hl)⟩) (λT l W o o' hl ho hc h=>⟨by simpa using h.1,RU _ _ _ h.2 (zq o' hl)⟩) ⟨nL,TG⟩
  (λT t a' W=>w.heap.size+2<=W.heap.size/\I T W/\Ax t a' W) (λT t l a' W o o' hl ho hc h=>⟨by simpa using h.1,hI _ _ _ h.2.1 (zq o' hl),Kf _ _ _ _ _ _ hl ho hc h.2.2⟩)
  (λl T t W K hT hsz hG hP hK=>rm l T t W K hT hsz λa' W' hb Vr=>hK a' W' (DM (X:=λ_=>False) (Gr.ak hb) (λ_ h=>h.elim)) (Gr.ak hb) ⟨nT hsz hb.size,hI _ _ _ hP.2 (hb.mono oz),Vr⟩)
  (λl T t a' W hT hG Vr=>wpIn_mono (DK l T t a' W hT Vr.1 hG Vr.2.1 Vr.2.2) λe a3 W3 h=> ?_)
  (λD W3 hD h hk=>uK D W3 hD h.1 h.2 hk) (λD T W3 hD hT h hk=>Wk D T W3 hD h.1 hT h.2 hk)
 have h1:=Vr.1;rcases h with⟨he,wk,hi⟩ | ⟨he,wk,hi⟩
 .exact⟨DM wk hX,.inl ⟨he,wk,by have:=wk.size;omega,hi⟩⟩
 .exact⟨DM wk hXE,.inr ⟨he,by have:=wk.size;omega,hi⟩⟩
theorem kN{X:Nat->Prop}{w w':Al}{B:Nat}(h:Gr X w w')(hB:B<=w.heap.size)(hX:∀k,X k->B<=k):∀b o,b<B->w'.cell? ⟨b,o,Ag⟩=w.cell? ⟨b,o,Ag⟩:=λb o hb=>
 World.cell?_of_block (h.block b (EU hb hB) λhx=>absurd (hX b hx) oz)
def jh{α:Type}(vl:α->Bn)(X:Nat->Prop)(g:Nat)(lb:Array Bn)(q:Nat->Bool)(l:List α)(R:α->Al->Prop)(J:Nat->Al->Prop):Prop:=
 ∀k (hk:k<l.length) W,J k W->R l[k] W->ET pG g (#[vl l[k]]++lb) W λe w'=>e= .returned (.bool (q k))/\J (k+1) w'/\Gr X W w'
theorem nX{q:Nat->Bool}{n k:Nat}(hk:k<n)(hq:q k=BR)(h:∀j,j<n->j<k->q j=Bj):cV q (EO n)=k:=
 nR (by simpa using hk) (by simpa using hq) (λj hj hjk=>by simpa using h j (by simpa using hj) hjk)
theorem lG{q:Nat->Bool}{n:Nat}(h:∀j,j<n->q j=Bj):cV q (EO n)= -1:=
 nM λj hj=>by simpa using h j (by simpa using hj)
theorem ru{q:Nat->Bool}{n k:Nat}(h:∀j,j<n->j<k->q j=Bj)(hq:q k=Bj):∀j,j<n->j<k+1->q j=false:=λj hj hk=>by
 by_cases e:j=k
 .subst e;exact hq
 .exact h j hj oz
theorem MZ(g:Nat)(lb:Array Bn)(q:Nat->Bool)(J:Nat->Al->Prop)(X:Nat->Prop)(B:Nat)(eg:∀args w,(EZ g args).run pG w= .ok (.enter g args) w)(l:List aC)(A:Option EK)(c:Nat)(w:Al)
 (hp:jh aC.val X g lb q l (λx W=>x.rd W B) J) (h0:J 0 w) (h:fW w B A l) (bW:B<=w.heap.size) (hX:∀k,X k->B<=k) (hl:l.length<=9223372036854775807):
 ET pG 231 #[.slice A l.length c,.func (.func g) #[] lb] w λe w'=>e= .returned (.int .i64 (cV q (EO l.length)))/\Gr X w w'/\∃k,J k w':=by
 go_enter func231,ntmps231;go_wp2;go_loopw [5,8] (λ_ i wr=>∃k:Nat,k<=l.length/\i= .int .i64 k/\Gr X w wr/\J k wr/\Hid (∀j,j<l.length->j<k->q j=Bj)) (λ_ i _=>l.length-(E8 i).toNat)
 case atStart=>exact⟨0,nZ,rfl,Gr.refl _ _,h0,λj _ h=>absurd h oz⟩
 case round=>
  clear h0;obtain⟨k,hk,rfl,hB,hJ,aJ⟩:=hrel;have HG:=lz hB;by_cases hlt:k<l.length
  .have hh:=h.dn nL (kN hB bW hX)
   obtain⟨b,o,rfl,hb,hc⟩:=hh oz;have gH:=hc k hlt;have au:=hp k hlt wr hJ (gH.2.2.2.2.2.2.2.2.2.2);have hs:=hB.size;have M0:=lz (show∃k,J (k+1) wr\/True from⟨0,.inr trivial⟩);clear hc hp h hh hJ hB;have cD:q k=BR->cV q (EO l.length)=k:=λhq=>nX hlt hq aJ.out
   have cQ:q k=Bj->∀j,j<l.length->j<k+1->q j=false:=λhq=>ru aJ.out hq
   have dU:=lz cD;have dH:=lz cQ;clear cD cQ aJ;generalize l[k]=r at gH au;obtain⟨c0,c1,c2,c3,c4,c5,c6,c7,c8,c9,_⟩:=gH;have aN:=lz au;clear au
   cases hq:q k with
   | true=>
    have cD:=lz (dU.out hq);rw[hq]at aN;clear dU dH hq;go_wp2_with (go_at_fn g;refine aN.out.mono ?_;rintro e w' ⟨rfl,hj',hb'⟩);go_ret;exact⟨eT cD.out.symm,HG.out.trans hb',⟨_,hj'⟩⟩
   | false=>
    have cQ:=lz (dH.out hq);rw[hq]at aN;clear dU dH hq;go_wp2_with (go_at_fn g;refine aN.out.mono ?_;rintro e w' ⟨rfl,hj',hb'⟩);go_roundw
    case rel=>exact⟨k+1,oz,by go_num,HG.out.trans hb',hj',cQ⟩
    case measure=>simp[E8];omega
  .go_wp2
   go_ret;exact⟨eT (lG λj hj=>aJ.out j hj oz).symm,HG.out,⟨_,hJ⟩⟩
theorem DN(g:Nat)(lb:Array Bn)(q:Nat->Bool)(J:Nat->Al->Prop)(X:Nat->Prop)(B:Nat)(eg:∀args w,(EZ g args).run pG w= .ok (.enter g args) w)(l:List aC)(A:Option EK)(c:Nat)(w:Al)
 (hp:jh aC.val X g lb q l (λx W=>x.rd W B) J) (h0:J 0 w) (h:fW w B A l) (bW:B<=w.heap.size) (hX:∀k,X k->B<=k) (hl:l.length<=9223372036854775807):
 ET pG 139 #[.slice A l.length c,.func (.func g) #[] lb] w λe w'=>e= .returned (.bool ((EO l.length).any q))/\Gr X w w'/\∃k,J k w':=by
 have hI:=MZ g lb q J X B eg l A c w hp h0 h bW hX hl;rw[<-eZ];generalize cV q (EO l.length)=r at hI ⊢;clear h hp h0;go_enter func139,ntmps139;go_wp2_with fail;refine hI.mono ?_;rintro e w1 ⟨rfl,aU⟩;clear hI;go_wp2;go_ret;exact⟨rfl,aU⟩
theorem TH(g:Nat)(lb:Array Bn)(eg:∀args w,(EZ g args).run pG w= .ok (.enter g args) w)(Bx:Nat)(b:Bool)(x:aC)(W:Al)(X:Nat->Prop)(J':Al->Prop)(hb:ah W Bx 137 #[.func (.func g) #[] lb])
 (au:ET pG g (#[x.val]++lb) (W.alloc (.cells #[.string x.nm,.int .i64 x.pe,.int .i64 x.le,.int .i64 x.mem,.slice x.aG.a x.aG.l.length x.aG.c,.int .i64 x.ev,.int .i64 x.bo,.slice x.aX.a x.aX.l.length x.aX.c,.slice x.aq.a x.aq.l.length x.aq.c,.slice x.procs.a x.procs.l.length x.procs.c] 71)) λe w'=>e= .returned (.bool b)/\J' w'/\Gr X (W.alloc (.cells #[.string x.nm,.int .i64 x.pe,.int .i64 x.le,.int .i64 x.mem,.slice x.aG.a x.aG.l.length x.aG.c,.int .i64 x.ev,.int .i64 x.bo,.slice x.aX.a x.aX.l.length x.aX.c,.slice x.aq.a x.aq.l.length x.aq.c,.slice x.procs.a x.procs.l.length x.procs.c] 71)) w'):
 ET pG 140 #[x.val,.pointer (Ai ⟨Bx,0,Ag⟩)] W λe w'=>e= .returned (.bool (!b))/\J' w'/\Gr X W w':=by
 have hc:=au;have c0:(W.alloc (.cells #[.string x.nm,.int .i64 x.pe,.int .i64 x.le,.int .i64 x.mem,.slice x.aG.a x.aG.l.length x.aG.c,.int .i64 x.ev,.int .i64 x.bo,.slice x.aX.a x.aX.l.length x.aX.c,.slice x.aq.a x.aq.l.length x.aq.c,.slice x.procs.a x.procs.l.length x.procs.c] 71)).cell? ⟨Bx,0,Ag⟩=Ai (.func (.func g) #[] lb):=(hb.alloc _).cell 0;dsimp only[aC.val]at hc;have Hc:=lz hc;have hlt:=hb.lt;clear au hb hc;go_enter func140,ntmps140;go_wp2_with (go_at_fn g;refine Hc.out.mono ?_;rintro e w' ⟨rfl,hj',hb'⟩);go_ret;exact⟨rfl,hj',(Gr.alloc X W _).trans hb'⟩
theorem PU(g:Nat)(lb:Array Bn)(q:Nat->Bool)(J:Nat->Al->Prop)(X:Nat->Prop)(B:Nat)(eg:∀args w,(EZ g args).run pG w= .ok (.enter g args) w)(l:List aC)(A:Option EK)(c:Nat)(w:Al)
 (hp:jh aC.val X g lb q l (λx W=>x.rd W B) J) (zu:∀k W o,J k W->J k (W.alloc o)) (h0:J 0 w) (h:fW w B A l) (bW:B<=w.heap.size) (hX:∀k,X k->B<=k/\k<w.heap.size) (hl:l.length<=9223372036854775807):
 ET pG 59 #[.slice A l.length c,.func (.func g) #[] lb] w λe w'=>e= .returned (.bool ((EO l.length).all q))/\Gr X w w'/\∃k,J k w':=by
 have h1:=ah.new w 137 #[.func (.func g) #[] lb];have aZ:=DN 140 #[.pointer (Ai ⟨w.heap.size,0,Ag⟩)] (λk=> !q k) (λk W=>J k W/\ah W w.heap.size 137 #[.func (.func g) #[] lb]) X B (Df func140 kz rfl) l A c (w.alloc (.cells #[.func (.func g) #[] lb] 137))
  (λk hk W hJ hr=>(TH g lb eg w.heap.size (q k) l[k] W X (J (k+1)) hJ.2 (hp k hk _ (zu _ _ _ hJ.1) (hr.dn nL λb o hb=>GH W _ ⟨b,o,Ag⟩ (by have:=hJ.2.lt;simp only;omega)))).mono λe w' ⟨e1,e2,e3⟩=>⟨e1,⟨e2,e3.blk hJ.2 λhx=>absurd (hX _ hx).2 oz⟩,e3⟩)
  ⟨zu _ _ _ h0,h1⟩ (h.dn nL λb o hb=>GH w _ ⟨b,o,Ag⟩ (by simp only;omega)) qo (λk hk=>(hX k hk).1) hl
 rw[cB]at aZ;have eP:=lz aZ;generalize (EO l.length).all q=r at *;clear h1 aZ hp h hX zu h0;go_enter func59,ntmps59;go_wp2_with fail;refine eP.out.mono ?_;rintro e w1 ⟨rfl,hg1,k,M4,_⟩;have HG:=lz ((Gr.alloc X w (.cells #[.func (.func g) #[] lb] 137)).trans hg1);have HJ:=lz M4;clear eP hg1 M4;go_wp2;go_ret;exact⟨by cases r<;>rfl,HG.out,⟨k,HJ.out⟩⟩
theorem M6(g:Nat)(lb:Array Bn)(q:Nat->Bool)(J:Nat->Al->Prop)(X:Nat->Prop)(B:Nat)(eg:∀args w,(EZ g args).run pG w= .ok (.enter g args) w)(l:List aM)(A:Option EK)(c:Nat)(w:Al)
 (hp:jh aM.val X g lb q l (λx W=>x.rd W B) J) (h0:J 0 w) (h:fu w B A l) (bW:B<=w.heap.size) (hX:∀k,X k->B<=k) (hl:l.length<=9223372036854775807):
 ET pG 229 #[.slice A l.length c,.func (.func g) #[] lb] w λe w'=>e= .returned (.int .i64 (cV q (EO l.length)))/\Gr X w w'/\∃k,J k w':=by
 go_enter func229,ntmps229;go_wp2;go_loopw [5,8] (λ_ i wr=>∃k:Nat,k<=l.length/\i= .int .i64 k/\Gr X w wr/\J k wr/\Hid (∀j,j<l.length->j<k->q j=Bj)) (λ_ i _=>l.length-(E8 i).toNat)
 case atStart=>exact⟨0,nZ,rfl,Gr.refl _ _,h0,λj _ h=>absurd h oz⟩
 case round=>
  clear h0;obtain⟨k,hk,rfl,hB,hJ,aJ⟩:=hrel;have HG:=lz hB;by_cases hlt:k<l.length
  .have hh:=h.dn nL (kN hB bW hX)
   obtain⟨b,o,rfl,hb,hc⟩:=hh oz;have gH:=hc k hlt;have au:=hp k hlt wr hJ (gH.2.2.2.2.2.2);have hs:=hB.size;have M0:=lz (show∃k,J (k+1) wr\/True from⟨0,.inr trivial⟩);clear hc hp h hh hJ hB;have cD:q k=BR->cV q (EO l.length)=k:=λhq=>nX hlt hq aJ.out
   have cQ:q k=Bj->∀j,j<l.length->j<k+1->q j=false:=λhq=>ru aJ.out hq
   have dU:=lz cD;have dH:=lz cQ;clear cD cQ aJ;generalize l[k]=r at gH au;obtain⟨c0,c1,c2,c3,c4,c5,_⟩:=gH;have aN:=lz au;clear au
   cases hq:q k with
   | true=>
    have cD:=lz (dU.out hq);rw[hq]at aN;clear dU dH hq;go_wp2_with (go_at_fn g;refine aN.out.mono ?_;rintro e w' ⟨rfl,hj',hb'⟩);go_ret;exact⟨eT cD.out.symm,HG.out.trans hb',⟨_,hj'⟩⟩
   | false=>
    have cQ:=lz (dH.out hq);rw[hq]at aN;clear dU dH hq;go_wp2_with (go_at_fn g;refine aN.out.mono ?_;rintro e w' ⟨rfl,hj',hb'⟩);go_roundw
    case rel=>exact⟨k+1,oz,by go_num,HG.out.trans hb',hj',cQ⟩
    case measure=>simp[E8];omega
  .go_wp2
   go_ret;exact⟨eT (lG λj hj=>aJ.out j hj oz).symm,HG.out,⟨_,hJ⟩⟩
theorem DP(g:Nat)(lb:Array Bn)(q:Nat->Bool)(J:Nat->Al->Prop)(X:Nat->Prop)(B:Nat)(eg:∀args w,(EZ g args).run pG w= .ok (.enter g args) w)(l:List aM)(A:Option EK)(c:Nat)(w:Al)
 (hp:jh aM.val X g lb q l (λx W=>x.rd W B) J) (h0:J 0 w) (h:fu w B A l) (bW:B<=w.heap.size) (hX:∀k,X k->B<=k) (hl:l.length<=9223372036854775807):
 ET pG 135 #[.slice A l.length c,.func (.func g) #[] lb] w λe w'=>e= .returned (.bool ((EO l.length).any q))/\Gr X w w'/\∃k,J k w':=by
 have hI:=M6 g lb q J X B eg l A c w hp h0 h bW hX hl;rw[<-eZ];generalize cV q (EO l.length)=r at hI ⊢;clear h hp h0;go_enter func135,ntmps135;go_wp2_with fail;refine hI.mono ?_;rintro e w1 ⟨rfl,aU⟩;clear hI;go_wp2;go_ret;exact⟨rfl,aU⟩
theorem TI(g:Nat)(lb:Array Bn)(eg:∀args w,(EZ g args).run pG w= .ok (.enter g args) w)(Bx:Nat)(b:Bool)(x:aM)(W:Al)(X:Nat->Prop)(J':Al->Prop)(hb:ah W Bx 133 #[.func (.func g) #[] lb])
 (au:ET pG g (#[x.val]++lb) (W.alloc (.cells #[.string x.nm,.int .u8 x.kd,.bool x.out,.int .i64 x.sz,.int .i64 x.dp,.int .i64 x.rf] 73)) λe w'=>e= .returned (.bool b)/\J' w'/\Gr X (W.alloc (.cells #[.string x.nm,.int .u8 x.kd,.bool x.out,.int .i64 x.sz,.int .i64 x.dp,.int .i64 x.rf] 73)) w'):
 ET pG 136 #[x.val,.pointer (Ai ⟨Bx,0,Ag⟩)] W λe w'=>e= .returned (.bool (!b))/\J' w'/\Gr X W w':=by
 have hc:=au;have c0:(W.alloc (.cells #[.string x.nm,.int .u8 x.kd,.bool x.out,.int .i64 x.sz,.int .i64 x.dp,.int .i64 x.rf] 73)).cell? ⟨Bx,0,Ag⟩=Ai (.func (.func g) #[] lb):=(hb.alloc _).cell 0;dsimp only[aM.val]at hc;have Hc:=lz hc;have hlt:=hb.lt;clear au hb hc;go_enter func136,ntmps136;go_wp2_with (go_at_fn g;refine Hc.out.mono ?_;rintro e w' ⟨rfl,hj',hb'⟩);go_ret;exact⟨rfl,hj',(Gr.alloc X W _).trans hb'⟩
theorem PV(g:Nat)(lb:Array Bn)(q:Nat->Bool)(J:Nat->Al->Prop)(X:Nat->Prop)(B:Nat)(eg:∀args w,(EZ g args).run pG w= .ok (.enter g args) w)(l:List aM)(A:Option EK)(c:Nat)(w:Al)
 (hp:jh aM.val X g lb q l (λx W=>x.rd W B) J) (zu:∀k W o,J k W->J k (W.alloc o)) (h0:J 0 w) (h:fu w B A l) (bW:B<=w.heap.size) (hX:∀k,X k->B<=k/\k<w.heap.size) (hl:l.length<=9223372036854775807):
 ET pG 56 #[.slice A l.length c,.func (.func g) #[] lb] w λe w'=>e= .returned (.bool ((EO l.length).all q))/\Gr X w w'/\∃k,J k w':=by
 have h1:=ah.new w 133 #[.func (.func g) #[] lb];have aZ:=DP 136 #[.pointer (Ai ⟨w.heap.size,0,Ag⟩)] (λk=> !q k) (λk W=>J k W/\ah W w.heap.size 133 #[.func (.func g) #[] lb]) X B (Df func136 kz rfl) l A c (w.alloc (.cells #[.func (.func g) #[] lb] 133))
  (λk hk W hJ hr=>(TI g lb eg w.heap.size (q k) l[k] W X (J (k+1)) hJ.2 (hp k hk _ (zu _ _ _ hJ.1) (hr.dn nL λb o hb=>GH W _ ⟨b,o,Ag⟩ (by have:=hJ.2.lt;simp only;omega)))).mono λe w' ⟨e1,e2,e3⟩=>⟨e1,⟨e2,e3.blk hJ.2 λhx=>absurd (hX _ hx).2 oz⟩,e3⟩)
  ⟨zu _ _ _ h0,h1⟩ (h.dn nL λb o hb=>GH w _ ⟨b,o,Ag⟩ (by simp only;omega)) qo (λk hk=>(hX k hk).1) hl
 rw[cB]at aZ;have eP:=lz aZ;generalize (EO l.length).all q=r at *;clear h1 aZ hp h hX zu h0;go_enter func56,ntmps56;go_wp2_with fail;refine eP.out.mono ?_;rintro e w1 ⟨rfl,hg1,k,M4,_⟩;have HG:=lz ((Gr.alloc X w (.cells #[.func (.func g) #[] lb] 133)).trans hg1);have HJ:=lz M4;clear eP hg1 M4;go_wp2;go_ret;exact⟨by cases r<;>rfl,HG.out,⟨k,HJ.out⟩⟩
theorem M7(g:Nat)(lb:Array Bn)(q:Nat->Bool)(J:Nat->Al->Prop)(X:Nat->Prop)(B:Nat)(eg:∀args w,(EZ g args).run pG w= .ok (.enter g args) w)(l:List cT)(A:Option EK)(c:Nat)(w:Al)
 (hp:jh cT.val X g lb q l (λx W=>x.rd W B) J) (h0:J 0 w) (h:gI w B A l) (bW:B<=w.heap.size) (hX:∀k,X k->B<=k) (hl:l.length<=9223372036854775807):
 ET pG 230 #[.slice A l.length c,.func (.func g) #[] lb] w λe w'=>e= .returned (.int .i64 (cV q (EO l.length)))/\Gr X w w'/\∃k,J k w':=by
 go_enter func230,ntmps230;go_wp2;go_loopw [5,8] (λ_ i wr=>∃k:Nat,k<=l.length/\i= .int .i64 k/\Gr X w wr/\J k wr/\Hid (∀j,j<l.length->j<k->q j=Bj)) (λ_ i _=>l.length-(E8 i).toNat)
 case atStart=>exact⟨0,nZ,rfl,Gr.refl _ _,h0,λj _ h=>absurd h oz⟩
 case round=>
  clear h0;obtain⟨k,hk,rfl,hB,hJ,aJ⟩:=hrel;have HG:=lz hB;by_cases hlt:k<l.length
  .have hh:=h.dn nL (kN hB bW hX)
   obtain⟨b,o,rfl,hb,hc⟩:=hh oz;have gH:=hc k hlt;have au:=hp k hlt wr hJ (gH.2.2.2.2.2);have hs:=hB.size;have M0:=lz (show∃k,J (k+1) wr\/True from⟨0,.inr trivial⟩);clear hc hp h hh hJ hB;have cD:q k=BR->cV q (EO l.length)=k:=λhq=>nX hlt hq aJ.out
   have cQ:q k=Bj->∀j,j<l.length->j<k+1->q j=false:=λhq=>ru aJ.out hq
   have dU:=lz cD;have dH:=lz cQ;clear cD cQ aJ;generalize l[k]=r at gH au;obtain⟨c0,c1,c2,c3,c4,_⟩:=gH;have aN:=lz au;clear au
   cases hq:q k with
   | true=>
    have cD:=lz (dU.out hq);rw[hq]at aN;clear dU dH hq;go_wp2_with (go_at_fn g;refine aN.out.mono ?_;rintro e w' ⟨rfl,hj',hb'⟩);go_ret;exact⟨eT cD.out.symm,HG.out.trans hb',⟨_,hj'⟩⟩
   | false=>
    have cQ:=lz (dH.out hq);rw[hq]at aN;clear dU dH hq;go_wp2_with (go_at_fn g;refine aN.out.mono ?_;rintro e w' ⟨rfl,hj',hb'⟩);go_roundw
    case rel=>exact⟨k+1,oz,by go_num,HG.out.trans hb',hj',cQ⟩
    case measure=>simp[E8];omega
  .go_wp2
   go_ret;exact⟨eT (lG λj hj=>aJ.out j hj oz).symm,HG.out,⟨_,hJ⟩⟩
theorem DQ(g:Nat)(lb:Array Bn)(q:Nat->Bool)(J:Nat->Al->Prop)(X:Nat->Prop)(B:Nat)(eg:∀args w,(EZ g args).run pG w= .ok (.enter g args) w)(l:List cT)(A:Option EK)(c:Nat)(w:Al)
 (hp:jh cT.val X g lb q l (λx W=>x.rd W B) J) (h0:J 0 w) (h:gI w B A l) (bW:B<=w.heap.size) (hX:∀k,X k->B<=k) (hl:l.length<=9223372036854775807):
 ET pG 137 #[.slice A l.length c,.func (.func g) #[] lb] w λe w'=>e= .returned (.bool ((EO l.length).any q))/\Gr X w w'/\∃k,J k w':=by
 have hI:=M7 g lb q J X B eg l A c w hp h0 h bW hX hl;rw[<-eZ];generalize cV q (EO l.length)=r at hI ⊢;clear h hp h0;go_enter func137,ntmps137;go_wp2_with fail;refine hI.mono ?_;rintro e w1 ⟨rfl,aU⟩;clear hI;go_wp2;go_ret;exact⟨rfl,aU⟩
theorem TJ(g:Nat)(lb:Array Bn)(eg:∀args w,(EZ g args).run pG w= .ok (.enter g args) w)(Bx:Nat)(b:Bool)(x:cT)(W:Al)(X:Nat->Prop)(J':Al->Prop)(hb:ah W Bx 134 #[.func (.func g) #[] lb])
 (au:ET pG g (#[x.val]++lb) (W.alloc (.cells #[.string x.nm,.int .i64 x.pr,.int .i64 x.pe,.int .i64 x.li,.slice x.code.a x.code.l.length x.code.c] 76)) λe w'=>e= .returned (.bool b)/\J' w'/\Gr X (W.alloc (.cells #[.string x.nm,.int .i64 x.pr,.int .i64 x.pe,.int .i64 x.li,.slice x.code.a x.code.l.length x.code.c] 76)) w'):
 ET pG 138 #[x.val,.pointer (Ai ⟨Bx,0,Ag⟩)] W λe w'=>e= .returned (.bool (!b))/\J' w'/\Gr X W w':=by
 have hc:=au;have c0:(W.alloc (.cells #[.string x.nm,.int .i64 x.pr,.int .i64 x.pe,.int .i64 x.li,.slice x.code.a x.code.l.length x.code.c] 76)).cell? ⟨Bx,0,Ag⟩=Ai (.func (.func g) #[] lb):=(hb.alloc _).cell 0;dsimp only[cT.val]at hc;have Hc:=lz hc;have hlt:=hb.lt;clear au hb hc;go_enter func138,ntmps138;go_wp2_with (go_at_fn g;refine Hc.out.mono ?_;rintro e w' ⟨rfl,hj',hb'⟩);go_ret;exact⟨rfl,hj',(Gr.alloc X W _).trans hb'⟩
theorem PW(g:Nat)(lb:Array Bn)(q:Nat->Bool)(J:Nat->Al->Prop)(X:Nat->Prop)(B:Nat)(eg:∀args w,(EZ g args).run pG w= .ok (.enter g args) w)(l:List cT)(A:Option EK)(c:Nat)(w:Al)
 (hp:jh cT.val X g lb q l (λx W=>x.rd W B) J) (zu:∀k W o,J k W->J k (W.alloc o)) (h0:J 0 w) (h:gI w B A l) (bW:B<=w.heap.size) (hX:∀k,X k->B<=k/\k<w.heap.size) (hl:l.length<=9223372036854775807):
 ET pG 57 #[.slice A l.length c,.func (.func g) #[] lb] w λe w'=>e= .returned (.bool ((EO l.length).all q))/\Gr X w w'/\∃k,J k w':=by
 have h1:=ah.new w 134 #[.func (.func g) #[] lb];have aZ:=DQ 138 #[.pointer (Ai ⟨w.heap.size,0,Ag⟩)] (λk=> !q k) (λk W=>J k W/\ah W w.heap.size 134 #[.func (.func g) #[] lb]) X B (Df func138 kz rfl) l A c (w.alloc (.cells #[.func (.func g) #[] lb] 134))
  (λk hk W hJ hr=>(TJ g lb eg w.heap.size (q k) l[k] W X (J (k+1)) hJ.2 (hp k hk _ (zu _ _ _ hJ.1) (hr.dn nL λb o hb=>GH W _ ⟨b,o,Ag⟩ (by have:=hJ.2.lt;simp only;omega)))).mono λe w' ⟨e1,e2,e3⟩=>⟨e1,⟨e2,e3.blk hJ.2 λhx=>absurd (hX _ hx).2 oz⟩,e3⟩)
  ⟨zu _ _ _ h0,h1⟩ (h.dn nL λb o hb=>GH w _ ⟨b,o,Ag⟩ (by simp only;omega)) qo (λk hk=>(hX k hk).1) hl
 rw[cB]at aZ;have eP:=lz aZ;generalize (EO l.length).all q=r at *;clear h1 aZ hp h hX zu h0;go_enter func57,ntmps57;go_wp2_with fail;refine eP.out.mono ?_;rintro e w1 ⟨rfl,hg1,k,M4,_⟩;have HG:=lz ((Gr.alloc X w (.cells #[.func (.func g) #[] lb] 134)).trans hg1);have HJ:=lz M4;clear eP hg1 M4;go_wp2;go_ret;exact⟨by cases r<;>rfl,HG.out,⟨k,HJ.out⟩⟩
theorem F4(g:Nat)(lb:Array Bn)(q:Nat->Bool)(J:Nat->Al->Prop)(X:Nat->Prop)(B:Nat)(eg:∀args w,(EZ g args).run pG w= .ok (.enter g args) w)(l:List bT)(A:Option EK)(c:Nat)(w:Al)
 (hp:jh bT.val X g lb q l (λx W=>x.rd W B) J) (h0:J 0 w) (h:dK w B A l) (bW:B<=w.heap.size) (hX:∀k,X k->B<=k) (hl:l.length<=9223372036854775807):
 ET pG 104 #[.slice A l.length c,.func (.func g) #[] lb] w λe w'=>e= .returned (.int .i64 (cV q (EO l.length)))/\Gr X w w'/\∃k,J k w':=by
 go_enter func104,ntmps104;go_wp2;go_loopw [5,8] (λ_ i wr=>∃k:Nat,k<=l.length/\i= .int .i64 k/\Gr X w wr/\J k wr/\Hid (∀j,j<l.length->j<k->q j=Bj)) (λ_ i _=>l.length-(E8 i).toNat)
 case atStart=>exact⟨0,nZ,rfl,Gr.refl _ _,h0,λj _ h=>absurd h oz⟩
 case round=>
  clear h0;obtain⟨k,hk,rfl,hB,hJ,aJ⟩:=hrel;have HG:=lz hB;by_cases hlt:k<l.length
  .have hh:=h.dn nL (kN hB bW hX)
   obtain⟨b,o,rfl,hb,hc⟩:=hh oz;have gH:=hc k hlt;have au:=hp k hlt wr hJ (gH.2.2.2.2);have hs:=hB.size;have M0:=lz (show∃k,J (k+1) wr\/True from⟨0,.inr trivial⟩);clear hc hp h hh hJ hB;have cD:q k=BR->cV q (EO l.length)=k:=λhq=>nX hlt hq aJ.out
   have cQ:q k=Bj->∀j,j<l.length->j<k+1->q j=false:=λhq=>ru aJ.out hq
   have dU:=lz cD;have dH:=lz cQ;clear cD cQ aJ;generalize l[k]=r at gH au;obtain⟨c0,c1,c2,c3,_⟩:=gH;have aN:=lz au;clear au
   cases hq:q k with
   | true=>
    have cD:=lz (dU.out hq);rw[hq]at aN;clear dU dH hq;go_wp2_with (go_at_fn g;refine aN.out.mono ?_;rintro e w' ⟨rfl,hj',hb'⟩);go_ret;exact⟨eT cD.out.symm,HG.out.trans hb',⟨_,hj'⟩⟩
   | false=>
    have cQ:=lz (dH.out hq);rw[hq]at aN;clear dU dH hq;go_wp2_with (go_at_fn g;refine aN.out.mono ?_;rintro e w' ⟨rfl,hj',hb'⟩);go_roundw
    case rel=>exact⟨k+1,oz,by go_num,HG.out.trans hb',hj',cQ⟩
    case measure=>simp[E8];omega
  .go_wp2
   go_ret;exact⟨eT (lG λj hj=>aJ.out j hj oz).symm,HG.out,⟨_,hJ⟩⟩
theorem zw(g:Nat)(lb:Array Bn)(q:Nat->Bool)(J:Nat->Al->Prop)(X:Nat->Prop)(B:Nat)(eg:∀args w,(EZ g args).run pG w= .ok (.enter g args) w)(l:List bT)(A:Option EK)(c:Nat)(w:Al)
 (hp:jh bT.val X g lb q l (λx W=>x.rd W B) J) (h0:J 0 w) (h:dK w B A l) (bW:B<=w.heap.size) (hX:∀k,X k->B<=k) (hl:l.length<=9223372036854775807):
 ET pG 144 #[.slice A l.length c,.func (.func g) #[] lb] w λe w'=>e= .returned (.bool ((EO l.length).any q))/\Gr X w w'/\∃k,J k w':=by
 have hI:=F4 g lb q J X B eg l A c w hp h0 h bW hX hl;rw[<-eZ];generalize cV q (EO l.length)=r at hI ⊢;clear h hp h0;go_enter func144,ntmps144;go_wp2_with fail;refine hI.mono ?_;rintro e w1 ⟨rfl,aU⟩;clear hI;go_wp2;go_ret;exact⟨rfl,aU⟩
theorem M8(g:Nat)(lb:Array Bn)(eg:∀args w,(EZ g args).run pG w= .ok (.enter g args) w)(Bx:Nat)(b:Bool)(x:bT)(W:Al)(X:Nat->Prop)(J':Al->Prop)(hb:ah W Bx 139 #[.func (.func g) #[] lb])
 (au:ET pG g (#[x.val]++lb) (W.alloc (.cells #[.string x.nm,.int .i64 x.mem,.int .i64 x.fr,.slice x.parts.a x.parts.l.length x.parts.c] 67)) λe w'=>e= .returned (.bool b)/\J' w'/\Gr X (W.alloc (.cells #[.string x.nm,.int .i64 x.mem,.int .i64 x.fr,.slice x.parts.a x.parts.l.length x.parts.c] 67)) w'):
 ET pG 145 #[x.val,.pointer (Ai ⟨Bx,0,Ag⟩)] W λe w'=>e= .returned (.bool (!b))/\J' w'/\Gr X W w':=by
 have hc:=au;have c0:(W.alloc (.cells #[.string x.nm,.int .i64 x.mem,.int .i64 x.fr,.slice x.parts.a x.parts.l.length x.parts.c] 67)).cell? ⟨Bx,0,Ag⟩=Ai (.func (.func g) #[] lb):=(hb.alloc _).cell 0;dsimp only[bT.val]at hc;have Hc:=lz hc;have hlt:=hb.lt;clear au hb hc;go_enter func145,ntmps145;go_wp2_with (go_at_fn g;refine Hc.out.mono ?_;rintro e w' ⟨rfl,hj',hb'⟩);go_ret;exact⟨rfl,hj',(Gr.alloc X W _).trans hb'⟩
theorem Kh(g:Nat)(lb:Array Bn)(q:Nat->Bool)(J:Nat->Al->Prop)(X:Nat->Prop)(B:Nat)(eg:∀args w,(EZ g args).run pG w= .ok (.enter g args) w)(l:List bT)(A:Option EK)(c:Nat)(w:Al)
 (hp:jh bT.val X g lb q l (λx W=>x.rd W B) J) (zu:∀k W o,J k W->J k (W.alloc o)) (h0:J 0 w) (h:dK w B A l) (bW:B<=w.heap.size) (hX:∀k,X k->B<=k/\k<w.heap.size) (hl:l.length<=9223372036854775807):
 ET pG 66 #[.slice A l.length c,.func (.func g) #[] lb] w λe w'=>e= .returned (.bool ((EO l.length).all q))/\Gr X w w'/\∃k,J k w':=by
 have h1:=ah.new w 139 #[.func (.func g) #[] lb];have aZ:=zw 145 #[.pointer (Ai ⟨w.heap.size,0,Ag⟩)] (λk=> !q k) (λk W=>J k W/\ah W w.heap.size 139 #[.func (.func g) #[] lb]) X B (Df func145 kz rfl) l A c (w.alloc (.cells #[.func (.func g) #[] lb] 139))
  (λk hk W hJ hr=>(M8 g lb eg w.heap.size (q k) l[k] W X (J (k+1)) hJ.2 (hp k hk _ (zu _ _ _ hJ.1) (hr.dn nL λb o hb=>GH W _ ⟨b,o,Ag⟩ (by have:=hJ.2.lt;simp only;omega)))).mono λe w' ⟨e1,e2,e3⟩=>⟨e1,⟨e2,e3.blk hJ.2 λhx=>absurd (hX _ hx).2 oz⟩,e3⟩)
  ⟨zu _ _ _ h0,h1⟩ (h.dn nL λb o hb=>GH w _ ⟨b,o,Ag⟩ (by simp only;omega)) qo (λk hk=>(hX k hk).1) hl
 rw[cB]at aZ;have eP:=lz aZ;generalize (EO l.length).all q=r at *;clear h1 aZ hp h hX zu h0;go_enter func66,ntmps66;go_wp2_with fail;refine eP.out.mono ?_;rintro e w1 ⟨rfl,hg1,k,M4,_⟩;have HG:=lz ((Gr.alloc X w (.cells #[.func (.func g) #[] lb] 139)).trans hg1);have HJ:=lz M4;clear eP hg1 M4;go_wp2;go_ret;exact⟨by cases r<;>rfl,HG.out,⟨k,HJ.out⟩⟩
theorem F5(g:Nat)(lb:Array Bn)(q:Nat->Bool)(J:Nat->Al->Prop)(X:Nat->Prop)(B:Nat)(eg:∀args w,(EZ g args).run pG w= .ok (.enter g args) w)(l:List iI)(A:Option EK)(c:Nat)(w:Al)
 (hp:jh iI.val X g lb q l (λ_ _=>True) J) (h0:J 0 w) (h:dL w B A l) (bW:B<=w.heap.size) (hX:∀k,X k->B<=k) (hl:l.length<=9223372036854775807):
 ET pG 106 #[.slice A l.length c,.func (.func g) #[] lb] w λe w'=>e= .returned (.int .i64 (cV q (EO l.length)))/\Gr X w w'/\∃k,J k w':=by
 go_enter func106,ntmps106;go_wp2;go_loopw [5,8] (λ_ i wr=>∃k:Nat,k<=l.length/\i= .int .i64 k/\Gr X w wr/\J k wr/\Hid (∀j,j<l.length->j<k->q j=Bj)) (λ_ i _=>l.length-(E8 i).toNat)
 case atStart=>exact⟨0,nZ,rfl,Gr.refl _ _,h0,λj _ h=>absurd h oz⟩
 case round=>
  clear h0;obtain⟨k,hk,rfl,hB,hJ,aJ⟩:=hrel;have HG:=lz hB;by_cases hlt:k<l.length
  .have hh:=h.dn nL (kN hB bW hX)
   obtain⟨b,o,rfl,hb,hc⟩:=hh oz;have gH:=hc k hlt;have au:=hp k hlt wr hJ (trivial);have hs:=hB.size;have M0:=lz (show∃k,J (k+1) wr\/True from⟨0,.inr trivial⟩);clear hc hp h hh hJ hB;have cD:q k=BR->cV q (EO l.length)=k:=λhq=>nX hlt hq aJ.out
   have cQ:q k=Bj->∀j,j<l.length->j<k+1->q j=false:=λhq=>ru aJ.out hq
   have dU:=lz cD;have dH:=lz cQ;clear cD cQ aJ;generalize l[k]=r at gH au;obtain⟨c0,c1,c2,c3⟩:=gH;have aN:=lz au;clear au
   cases hq:q k with
   | true=>
    have cD:=lz (dU.out hq);rw[hq]at aN;clear dU dH hq;go_wp2_with (go_at_fn g;refine aN.out.mono ?_;rintro e w' ⟨rfl,hj',hb'⟩);go_ret;exact⟨eT cD.out.symm,HG.out.trans hb',⟨_,hj'⟩⟩
   | false=>
    have cQ:=lz (dH.out hq);rw[hq]at aN;clear dU dH hq;go_wp2_with (go_at_fn g;refine aN.out.mono ?_;rintro e w' ⟨rfl,hj',hb'⟩);go_roundw
    case rel=>exact⟨k+1,oz,by go_num,HG.out.trans hb',hj',cQ⟩
    case measure=>simp[E8];omega
  .go_wp2
   go_ret;exact⟨eT (lG λj hj=>aJ.out j hj oz).symm,HG.out,⟨_,hJ⟩⟩
theorem zx(g:Nat)(lb:Array Bn)(q:Nat->Bool)(J:Nat->Al->Prop)(X:Nat->Prop)(B:Nat)(eg:∀args w,(EZ g args).run pG w= .ok (.enter g args) w)(l:List iI)(A:Option EK)(c:Nat)(w:Al)
 (hp:jh iI.val X g lb q l (λ_ _=>True) J) (h0:J 0 w) (h:dL w B A l) (bW:B<=w.heap.size) (hX:∀k,X k->B<=k) (hl:l.length<=9223372036854775807):
 ET pG 146 #[.slice A l.length c,.func (.func g) #[] lb] w λe w'=>e= .returned (.bool ((EO l.length).any q))/\Gr X w w'/\∃k,J k w':=by
 have hI:=F5 g lb q J X B eg l A c w hp h0 h bW hX hl;rw[<-eZ];generalize cV q (EO l.length)=r at hI ⊢;clear h hp h0;go_enter func146,ntmps146;go_wp2_with fail;refine hI.mono ?_;rintro e w1 ⟨rfl,aU⟩;clear hI;go_wp2;go_ret;exact⟨rfl,aU⟩
theorem M9(g:Nat)(lb:Array Bn)(eg:∀args w,(EZ g args).run pG w= .ok (.enter g args) w)(Bx:Nat)(b:Bool)(x:iI)(W:Al)(X:Nat->Prop)(J':Al->Prop)(hb:ah W Bx 140 #[.func (.func g) #[] lb])
 (au:ET pG g (#[x.val]++lb) (W.alloc (.cells #[.string x.nm,.int .i64 x.net,.int .i64 x.dl,.int .i64 x.st] 87)) λe w'=>e= .returned (.bool b)/\J' w'/\Gr X (W.alloc (.cells #[.string x.nm,.int .i64 x.net,.int .i64 x.dl,.int .i64 x.st] 87)) w'):
 ET pG 147 #[x.val,.pointer (Ai ⟨Bx,0,Ag⟩)] W λe w'=>e= .returned (.bool (!b))/\J' w'/\Gr X W w':=by
 have hc:=au;have c0:(W.alloc (.cells #[.string x.nm,.int .i64 x.net,.int .i64 x.dl,.int .i64 x.st] 87)).cell? ⟨Bx,0,Ag⟩=Ai (.func (.func g) #[] lb):=(hb.alloc _).cell 0;dsimp only[iI.val]at hc;have Hc:=lz hc;have hlt:=hb.lt;clear au hb hc;go_enter func147,ntmps147;go_wp2_with (go_at_fn g;refine Hc.out.mono ?_;rintro e w' ⟨rfl,hj',hb'⟩);go_ret;exact⟨rfl,hj',(Gr.alloc X W _).trans hb'⟩
theorem Ki(g:Nat)(lb:Array Bn)(q:Nat->Bool)(J:Nat->Al->Prop)(X:Nat->Prop)(B:Nat)(eg:∀args w,(EZ g args).run pG w= .ok (.enter g args) w)(l:List iI)(A:Option EK)(c:Nat)(w:Al)
 (hp:jh iI.val X g lb q l (λ_ _=>True) J) (zu:∀k W o,J k W->J k (W.alloc o)) (h0:J 0 w) (h:dL w B A l) (bW:B<=w.heap.size) (hX:∀k,X k->B<=k/\k<w.heap.size) (hl:l.length<=9223372036854775807):
 ET pG 67 #[.slice A l.length c,.func (.func g) #[] lb] w λe w'=>e= .returned (.bool ((EO l.length).all q))/\Gr X w w'/\∃k,J k w':=by
 have h1:=ah.new w 140 #[.func (.func g) #[] lb];have aZ:=zx 147 #[.pointer (Ai ⟨w.heap.size,0,Ag⟩)] (λk=> !q k) (λk W=>J k W/\ah W w.heap.size 140 #[.func (.func g) #[] lb]) X B (Df func147 kz rfl) l A c (w.alloc (.cells #[.func (.func g) #[] lb] 140))
  (λk hk W hJ hr=>(M9 g lb eg w.heap.size (q k) l[k] W X (J (k+1)) hJ.2 (hp k hk _ (zu _ _ _ hJ.1) (trivial))).mono λe w' ⟨e1,e2,e3⟩=>⟨e1,⟨e2,e3.blk hJ.2 λhx=>absurd (hX _ hx).2 oz⟩,e3⟩)
  ⟨zu _ _ _ h0,h1⟩ (h.dn nL λb o hb=>GH w _ ⟨b,o,Ag⟩ (by simp only;omega)) qo (λk hk=>(hX k hk).1) hl
 rw[cB]at aZ;have eP:=lz aZ;generalize (EO l.length).all q=r at *;clear h1 aZ hp h hX zu h0;go_enter func67,ntmps67;go_wp2_with fail;refine eP.out.mono ?_;rintro e w1 ⟨rfl,hg1,k,M4,_⟩;have HG:=lz ((Gr.alloc X w (.cells #[.func (.func g) #[] lb] 140)).trans hg1);have HJ:=lz M4;clear eP hg1 M4;go_wp2;go_ret;exact⟨by cases r<;>rfl,HG.out,⟨k,HJ.out⟩⟩
theorem TK(g:Nat)(lb:Array Bn)(q:Nat->Bool)(J:Nat->Al->Prop)(X:Nat->Prop)(B:Nat)(eg:∀args w,(EZ g args).run pG w= .ok (.enter g args) w)(l:List fU)(A:Option EK)(c:Nat)(w:Al)
 (hp:jh fU.val X g lb q l (λx W=>x.rd W B) J) (h0:J 0 w) (h:mV w B A l) (bW:B<=w.heap.size) (hX:∀k,X k->B<=k) (hl:l.length<=9223372036854775807):
 ET pG 243 #[.slice A l.length c,.func (.func g) #[] lb] w λe w'=>e= .returned (.int .i64 (cV q (EO l.length)))/\Gr X w w'/\∃k,J k w':=by
 go_enter func243,ntmps243;go_wp2;go_loopw [5,8] (λ_ i wr=>∃k:Nat,k<=l.length/\i= .int .i64 k/\Gr X w wr/\J k wr/\Hid (∀j,j<l.length->j<k->q j=Bj)) (λ_ i _=>l.length-(E8 i).toNat)
 case atStart=>exact⟨0,nZ,rfl,Gr.refl _ _,h0,λj _ h=>absurd h oz⟩
 case round=>
  clear h0;obtain⟨k,hk,rfl,hB,hJ,aJ⟩:=hrel;have HG:=lz hB;by_cases hlt:k<l.length
  .have hh:=h.dn nL (kN hB bW hX)
   obtain⟨b,o,rfl,hb,hc⟩:=hh oz;have gH:=hc k hlt;have au:=hp k hlt wr hJ (gH.2.2.2.2.2.2.2);have hs:=hB.size;have M0:=lz (show∃k,J (k+1) wr\/True from⟨0,.inr trivial⟩);clear hc hp h hh hJ hB;have cD:q k=BR->cV q (EO l.length)=k:=λhq=>nX hlt hq aJ.out
   have cQ:q k=Bj->∀j,j<l.length->j<k+1->q j=false:=λhq=>ru aJ.out hq
   have dU:=lz cD;have dH:=lz cQ;clear cD cQ aJ;generalize l[k]=r at gH au;obtain⟨c0,c1,c2,c3,c4,c5,c6,_⟩:=gH;have aN:=lz au;clear au
   cases hq:q k with
   | true=>
    have cD:=lz (dU.out hq);rw[hq]at aN;clear dU dH hq;go_wp2_with (go_at_fn g;refine aN.out.mono ?_;rintro e w' ⟨rfl,hj',hb'⟩);go_ret;exact⟨eT cD.out.symm,HG.out.trans hb',⟨_,hj'⟩⟩
   | false=>
    have cQ:=lz (dH.out hq);rw[hq]at aN;clear dU dH hq;go_wp2_with (go_at_fn g;refine aN.out.mono ?_;rintro e w' ⟨rfl,hj',hb'⟩);go_roundw
    case rel=>exact⟨k+1,oz,by go_num,HG.out.trans hb',hj',cQ⟩
    case measure=>simp[E8];omega
  .go_wp2
   go_ret;exact⟨eT (lG λj hj=>aJ.out j hj oz).symm,HG.out,⟨_,hJ⟩⟩
theorem Kj(g:Nat)(lb:Array Bn)(q:Nat->Bool)(J:Nat->Al->Prop)(X:Nat->Prop)(B:Nat)(eg:∀args w,(EZ g args).run pG w= .ok (.enter g args) w)(l:List fU)(A:Option EK)(c:Nat)(w:Al)
 (hp:jh fU.val X g lb q l (λx W=>x.rd W B) J) (h0:J 0 w) (h:mV w B A l) (bW:B<=w.heap.size) (hX:∀k,X k->B<=k) (hl:l.length<=9223372036854775807):
 ET pG 169 #[.slice A l.length c,.func (.func g) #[] lb] w λe w'=>e= .returned (.bool ((EO l.length).any q))/\Gr X w w'/\∃k,J k w':=by
 have hI:=TK g lb q J X B eg l A c w hp h0 h bW hX hl;rw[<-eZ];generalize cV q (EO l.length)=r at hI ⊢;clear h hp h0;go_enter func169,ntmps169;go_wp2_with fail;refine hI.mono ?_;rintro e w1 ⟨rfl,aU⟩;clear hI;go_wp2;go_ret;exact⟨rfl,aU⟩
theorem aA2(g:Nat)(lb:Array Bn)(eg:∀args w,(EZ g args).run pG w= .ok (.enter g args) w)(Bx:Nat)(b:Bool)(x:fU)(W:Al)(X:Nat->Prop)(J':Al->Prop)(hb:ah W Bx 179 #[.func (.func g) #[] lb])
 (au:ET pG g (#[x.val]++lb) (W.alloc (.cells #[.string x.nm,.string x.src.m,.string x.src.p,.string x.src.o,.int .i64 x.lQ,.int .i64 x.mx,.slice x.dst.a x.dst.l.length x.dst.c] 44)) λe w'=>e= .returned (.bool b)/\J' w'/\Gr X (W.alloc (.cells #[.string x.nm,.string x.src.m,.string x.src.p,.string x.src.o,.int .i64 x.lQ,.int .i64 x.mx,.slice x.dst.a x.dst.l.length x.dst.c] 44)) w'):
 ET pG 170 #[x.val,.pointer (Ai ⟨Bx,0,Ag⟩)] W λe w'=>e= .returned (.bool (!b))/\J' w'/\Gr X W w':=by
 have hc:=au;have c0:(W.alloc (.cells #[.string x.nm,.string x.src.m,.string x.src.p,.string x.src.o,.int .i64 x.lQ,.int .i64 x.mx,.slice x.dst.a x.dst.l.length x.dst.c] 44)).cell? ⟨Bx,0,Ag⟩=Ai (.func (.func g) #[] lb):=(hb.alloc _).cell 0;dsimp only[fU.val]at hc;have Hc:=lz hc;have hlt:=hb.lt;clear au hb hc;go_enter func170,ntmps170;go_wp2_with (go_at_fn g;refine Hc.out.mono ?_;rintro e w' ⟨rfl,hj',hb'⟩);go_ret;exact⟨rfl,hj',(Gr.alloc X W _).trans hb'⟩
theorem Wo(g:Nat)(lb:Array Bn)(q:Nat->Bool)(J:Nat->Al->Prop)(X:Nat->Prop)(B:Nat)(eg:∀args w,(EZ g args).run pG w= .ok (.enter g args) w)(l:List fU)(A:Option EK)(c:Nat)(w:Al)
 (hp:jh fU.val X g lb q l (λx W=>x.rd W B) J) (zu:∀k W o,J k W->J k (W.alloc o)) (h0:J 0 w) (h:mV w B A l) (bW:B<=w.heap.size) (hX:∀k,X k->B<=k/\k<w.heap.size) (hl:l.length<=9223372036854775807):
 ET pG 88 #[.slice A l.length c,.func (.func g) #[] lb] w λe w'=>e= .returned (.bool ((EO l.length).all q))/\Gr X w w'/\∃k,J k w':=by
 have h1:=ah.new w 179 #[.func (.func g) #[] lb];have aZ:=Kj 170 #[.pointer (Ai ⟨w.heap.size,0,Ag⟩)] (λk=> !q k) (λk W=>J k W/\ah W w.heap.size 179 #[.func (.func g) #[] lb]) X B (Df func170 kz rfl) l A c (w.alloc (.cells #[.func (.func g) #[] lb] 179))
  (λk hk W hJ hr=>(aA2 g lb eg w.heap.size (q k) l[k] W X (J (k+1)) hJ.2 (hp k hk _ (zu _ _ _ hJ.1) (hr.dn nL λb o hb=>GH W _ ⟨b,o,Ag⟩ (by have:=hJ.2.lt;simp only;omega)))).mono λe w' ⟨e1,e2,e3⟩=>⟨e1,⟨e2,e3.blk hJ.2 λhx=>absurd (hX _ hx).2 oz⟩,e3⟩)
  ⟨zu _ _ _ h0,h1⟩ (h.dn nL λb o hb=>GH w _ ⟨b,o,Ag⟩ (by simp only;omega)) qo (λk hk=>(hX k hk).1) hl
 rw[cB]at aZ;have eP:=lz aZ;generalize (EO l.length).all q=r at *;clear h1 aZ hp h hX zu h0;go_enter func88,ntmps88;go_wp2_with fail;refine eP.out.mono ?_;rintro e w1 ⟨rfl,hg1,k,M4,_⟩;have HG:=lz ((Gr.alloc X w (.cells #[.func (.func g) #[] lb] 179)).trans hg1);have HJ:=lz M4;clear eP hg1 M4;go_wp2;go_ret;exact⟨by cases r<;>rfl,HG.out,⟨k,HJ.out⟩⟩
theorem TL(g:Nat)(lb:Array Bn)(eg:∀args w,(EZ g args).run pG w= .ok (.enter g args) w)(Bx:Nat)(b:Bool)(x:aO)(W:Al)(X:Nat->Prop)(J':Al->Prop)(hb:ah W Bx 141 #[.func (.func g) #[] lb])
 (au:ET pG g (#[x.val]++lb) (W.alloc (.cells #[.string x.a,.string x.b,.int .i64 x.net,.int .i64 x.slow] 46)) λe w'=>e= .returned (.bool b)/\J' w'/\Gr X (W.alloc (.cells #[.string x.a,.string x.b,.int .i64 x.net,.int .i64 x.slow] 46)) w'):
 ET pG 149 #[x.val,.pointer (Ai ⟨Bx,0,Ag⟩)] W λe w'=>e= .returned (.bool (!b))/\J' w'/\Gr X W w':=by
 have hc:=au;have c0:(W.alloc (.cells #[.string x.a,.string x.b,.int .i64 x.net,.int .i64 x.slow] 46)).cell? ⟨Bx,0,Ag⟩=Ai (.func (.func g) #[] lb):=(hb.alloc _).cell 0;dsimp only[aO.val]at hc;have Hc:=lz hc;have hlt:=hb.lt;clear au hb hc;go_enter func149,ntmps149;go_wp2_with (go_at_fn g;refine Hc.out.mono ?_;rintro e w' ⟨rfl,hj',hb'⟩);go_ret;exact⟨rfl,hj',(Gr.alloc X W _).trans hb'⟩
def F6(L:List (List UInt8))(n:Int):ByteArray:=if n<1\/n>L.length then⟨#[]⟩else⟨(L.getD (n-1).toNat []).toArray⟩
def nY(v:ByteArray)(n:Int):ByteArray:=F6 (Lib.fields v.data.toList) n
def PX(v:ByteArray):Bool:=v.data.toList.all λb=>decide (b.toNat<128)
theorem Wp{v:ByteArray}(h:PX v=BR):∀(j:Nat) b,v.data.toList[j]?=Ai b->b.toNat<128:=λj b hj=>by
 unfold PX at h;rw[EL]at h;exact of_decide_eq_true (h b (List.mem_of_getElem? hj))
theorem RV(v:ByteArray)(n:Int)(w:Al)(hL:ct w)(hv:v.size<=100000)(ha:PX v=BR)(h0:0<=n)(h1:n<=255):
 CU 274 #[.string v,.int .u8 n] w (.string (nY v n)):=by
 have hf:ET pG 303 #[.string v] w λe w'=>e= .returned (.slice (Ai ⟨w.heap.size,0,Ag⟩) (Lib.fields v.data.toList).length (Lib.fields v.data.toList).length)/\w'=w.alloc (.cells ((Lib.fields v.data.toList).map λl=>Value.string ⟨l.toArray⟩).toArray 9):=Any.strings_Fields_laid PY v w oz (Wp ha) hL.asc
 unfold nY;obtain⟨L,hLL⟩:=ez (Lib.fields v.data.toList);rw[<-hLL]at hf ⊢;have Hf:=lz hf;clear hf hLL ha hL;by_cases hlt:n<1
 .have hr:F6 L n=⟨#[]⟩:=if_pos (.inl hlt)
  have Hr:=lz hr;have hd:decide (n<1)=true:=dT hlt;clear hr;go_enter func274,ntmps274;go_wp2_with (go_at_call 303;refine Hf.out.mono ?_;rintro e w' ⟨rfl,rfl⟩);go_ret;exact⟨by rw[Hr.out];rfl,bN⟩
 .by_cases og:n>L.length
  .have hr:F6 L n=⟨#[]⟩:=if_pos (.inr og)
   have Hr:=lz hr;have hd:decide (n<1)=false:=dF hlt;have hd2:decide (n>(L.length:Int))=true:=dT og;have hw:IntKind.i64.wrap n=n:=by unfold IntKind.wrap;simp[IntKind.bits];omega
   clear hr;go_enter func274,ntmps274;go_wp2_with (go_at_call 303;refine Hf.out.mono ?_;rintro e w' ⟨rfl,rfl⟩);go_ret;exact⟨by rw[Hr.out];rfl,bN⟩
  .have hr:F6 L n=⟨(L.getD (n-1).toNat []).toArray⟩:=if_neg (by rintro(h | h)<;>omega)
   have Hr:=lz hr;have hd:decide (n<1)=false:=dF hlt;have hd2:decide (n>(L.length:Int))=false:=dF og;have hw:IntKind.i64.wrap n=n:=by unfold IntKind.wrap;simp[IntKind.bits];omega
   have hw8:IntKind.u8.wrap (n-1)=n-1:=by unfold IntKind.wrap;simp[IntKind.bits,IntKind.signed];omega
   have lX:0<=n-1:=by omega
   have Wq:n-1<(L.length:Int):=by omega
   have c0:(w.alloc (.cells (L.map λl=>Value.string ⟨l.toArray⟩).toArray 9)).cell? ⟨w.heap.size,n.toNat-1,Ag⟩=Ai (.string (F6 L n)):=by
    rw[(ah.new w 9 _).cell,hr,show n.toNat-1=(n-1).toNat by omega];have ht:(n-1).toNat<L.length:=by omega
    simp only[List.getElem?_toArray,List.getElem?_map,E1,EN ht];rfl
   clear hr;go_enter func274,ntmps274;go_wp2_with (go_at_call 303;refine Hf.out.mono ?_;rintro e w' ⟨rfl,rfl⟩);go_ret;exact⟨rfl,bN⟩
theorem TM{L:List (List UInt8)}{m:Nat}(h:(L.all λl=>decide (l.length<=m))=BR)(n:Int):(F6 L n).size<=m:=by
 unfold F6;split
 .exact Nat.zero_le _
 .rename_i hn
  have ht:(n-1).toNat<L.length:=by omega
  rw[EL]at h;have:=of_decide_eq_true (h _ (CS ht));simp only[E1,EN ht,Option.getD_some];simpa [ByteArray.size]using this
theorem Wr{v:ByteArray}{m:Nat}(h:((Lib.fields v.data.toList).all λl=>decide (l.length<=m))=BR)(n:Int):(nY v n).size<=m:=TM h n
def xw:ByteArray:=⟨#[100,101,97,100,108,105,110,101,32,109,101,109,111,114,121,32,114,97,105,115,101,100,32,110,117,109,101,114,105,99,32,115,116,97,99,107,32,112,111,119,101,114,32,119,105,110,100,111,119]⟩
def xO:ByteArray:=⟨#[112,114,111,99,101,115,115,32,112,97,114,116,32,109,111,100,117,108,101]⟩
def oh:ByteArray:=⟨#[105,103,110,111,114,101,32,115,116,111,112,32,114,101,115,116,97,114,116,32,119,97,114,109,32,99,111,108,100,32,105,100,108,101,32,114,101,115,101,116,32,104,97,108,116]⟩
theorem aA3(n:Int)(w:Al)(hL:ct w)(h0:0<=n)(h1:n<=255):CU 221 #[.int .u8 n] w (.string (nY xw n)):=by
 have Hc:=lz (RV xw n w hL dz kz h0 h1);go_enter func221,ntmps221;go_wp2_with (go_at_call 274;refine Hc.out.mono ?_;rintro e w' ⟨rfl,hb⟩);go_ret;exact⟨rfl,hb⟩
theorem aA4(n:Int)(w:Al)(hL:ct w)(h0:0<=n)(h1:n<=255):CU 222 #[.int .u8 n] w (.string (nY xO n)):=by
 have Hc:=lz (RV xO n w hL dz kz h0 h1);go_enter func222,ntmps222;go_wp2_with (go_at_call 274;refine Hc.out.mono ?_;rintro e w' ⟨rfl,hb⟩);go_ret;exact⟨rfl,hb⟩
theorem Ws(n:Int)(w:Al)(hL:ct w)(h0:0<=n)(h1:n<=255):CU 223 #[.int .u8 n] w (.string (nY oh n)):=by
 have Hc:=lz (RV oh n w hL dz kz h0 h1);go_enter func223,ntmps223;go_wp2_with (go_at_call 274;refine Hc.out.mono ?_;rintro e w' ⟨rfl,hb⟩);go_ret;exact⟨rfl,hb⟩
def TN:ByteArray:=⟨(([119,111,114,107,58,119,32,115,101,116,58,114,118,32,97,100,100,58,114,114,32,115,117,98,58,114,114,32,108,111,97,100,58,114,97,114,32,115,116,111,114,101,58,114,97,114,32,115].append [101,110,100,58,111,114,108,32,114,101,99,118,58,105,114,114,32,119,97,105,116,58,115,32,115,105,103,110,97,108,58,115,32,114,97,105,115,101,58,101,32,108,111,119,101,114,58,101]).append ([32,117,110,116,105,108,58,101,32,112,117,116,58,98,114,32,103,101,116,58,98,114,32,115,104,111,119,58,100,114,32,108,111,111,107,58,100,114,32,99,108,101,97,114,58,100,32,110].append [101,120,116,58,32,106,117,109,112,58,106,32,122,101,114,111,58,114,106,32,108,101,115,115,58,114,114,106,32,100,105,118,58,114,114,32,102,97,117,108,116,58,99,32,115,116,111,112,58])).toArray⟩
def xP(n:Int):ByteArray:=⟨(Lib.cut (nY TN n).data.toList [58]).1.toArray⟩
def mX(n:Int):ByteArray:=⟨(Lib.cut (nY TN n).data.toList [58]).2.1.toArray⟩
theorem uP(n:Int)(w:Al)(hL:ct w)(h0:0<=n)(h1:n<=255):CU 240 #[.int .u8 n] w (.tuple #[.string (xP n),.string (mX n)]):=by
 have hc:=RV TN n w hL (of_decide_eq_true kz) kz h0 h1;have hz:(nY TN n).size<4294967281:=Nat.lt_of_le_of_lt (Wr (m:=10) kz n) dz;obtain⟨m,hm⟩:=hL.mx;have hx:=fun(W:Al) (hb:BD w.heap.size w W)=>Any.strings_Cut aA5 (nY TN n) ⟨#[58]⟩ m W hz ((hb.cell (p:=⟨_,0,Ag⟩) (World.block_lt_of_cell? w _ hm)).trans hm)
 have Hc:=lz hc;have Hx:=lz hx;clear hc hx hm;go_enter func240,ntmps240;go_wp2_with (first | (go_at_call 274;refine Hc.out.mono ?_;rintro e w1 ⟨rfl,hb⟩) | (go_at_call 285;refine(Hx.out _ hb).mono ?_;rintro e w2 ⟨rfl,k,rfl⟩));go_ret2;exact⟨rfl,aD hb⟩
def fH(n:Int):Bool:=decide (0<=n)&&decide (n<=1073741824)
def dJ(lo hi n:Int):Bool:=decide (lo<=n)&&decide (n<=hi)
theorem aEd(n:Int)(w:Al):CU 264 #[.int .i64 n] w (.bool (!fH n)):=by
 by_cases h1:n<0
 .have hr:fH n=false:=by unfold fH;rw[dF oz];rfl
  have d1:decide (n<0)=true:=dT h1;rw[hr];clear hr;go_enter func264,ntmps264;go_wp2;go_ret;exact⟨rfl,BK _ _⟩
 .have d1:decide (n<0)=false:=dF h1
  by_cases h2:n>1073741824
  .have hr:fH n=false:=by unfold fH;rw[dF (p:=n<=1073741824) oz,Bool.and_false]
   have d2:decide (n>1073741824)=true:=dT h2;rw[hr];clear hr;go_enter func264,ntmps264;go_wp2;go_ret;exact⟨rfl,BK _ _⟩
  .have hr:fH n=true:=by unfold fH;rw[dT (p:=n<=1073741824) oz,dT (p:=0<=n) oz];rfl
   have d2:decide (n>1073741824)=false:=dF h2;rw[hr];clear hr;go_enter func264,ntmps264;go_wp2;go_ret;exact⟨rfl,BK _ _⟩
theorem sS(l:List Int)(A:Option EK)(c:Nat)(w:Al)(h:fV w w.heap.size A l)(hl:l.length<=9223372036854775807):
 CU 209 #[.slice A l.length c] w (.bool (l.all fH)):=by
 have aZ:=sU 264 #[] (λn=> !fH n) (Df func264 kz rfl) l A c w (λW r hr hW=>aEd r W) h hl;rw[cB]at aZ;have eP:=lz aZ;generalize l.all fH=q at *;clear aZ h;go_enter func209,ntmps209;go_wp2_with fail;refine eP.out.mono ?_;rintro e w1 ⟨rfl,aU⟩;go_wp2;go_ret;exact⟨by cases q<;>rfl,aU⟩
theorem aEe(lo hi n:Int)(B1 B2:Nat)(w:Al)(b1:ah w B1 3 #[.int .i64 lo])(b2:ah w B2 3 #[.int .i64 hi]):CU 134 #[.int .i64 n,.pointer (Ai ⟨B1,0,Ag⟩),.pointer (Ai ⟨B2,0,Ag⟩)] w (.bool (!dJ lo hi n)):=by
 have c1:=b1.cell 0;have c2:=b2.cell 0;clear b1 b2;by_cases h1:n<lo
 .have hr:dJ lo hi n=false:=by unfold dJ;rw[dF oz];rfl
  have d1:decide (n<lo)=true:=dT h1;rw[hr];clear hr;go_enter func134,ntmps134;go_wp2;go_ret;exact⟨rfl,BK _ _⟩
 .have d1:decide (n<lo)=false:=dF h1
  by_cases h2:n>hi
  .have hr:dJ lo hi n=false:=by unfold dJ;rw[dF (p:=n<=hi) oz,Bool.and_false]
   have d2:decide (n>hi)=true:=dT h2;rw[hr];clear hr;go_enter func134,ntmps134;go_wp2;go_ret;exact⟨rfl,BK _ _⟩
  .have hr:dJ lo hi n=true:=by unfold dJ;rw[dT (p:=n<=hi) oz,dT (p:=lo<=n) oz];rfl
   have d2:decide (n>hi)=false:=dF h2;rw[hr];clear hr;go_enter func134,ntmps134;go_wp2;go_ret;exact⟨rfl,BK _ _⟩
theorem lY(lo hi:Int)(l:List Int)(A:Option EK)(c:Nat)(w:Al)(h:fV w w.heap.size A l)(hl:l.length<=9223372036854775807):
 CU 53 #[.int .i64 lo,.int .i64 hi,.slice A l.length c] w (.bool (l.all (dJ lo hi))):=by
 obtain⟨w1,cN⟩:=ez ((w.alloc (.cells #[.int .i64 lo] 3)).alloc (.cells #[.int .i64 hi] 3));have bY:BD w.heap.size w w1:=by rw[cN];exact(bN).alloc qz _
 have b1:ah w1 w.heap.size 3 #[.int .i64 lo]:=by rw[cN];exact(ah.new w _ _).alloc _
 have b2:ah w1 (w.heap.size+1) 3 #[.int .i64 hi]:=by rw[cN];have:=ah.new (w.alloc (.cells #[.int .i64 lo] 3)) 3 #[.int .i64 hi];rwa[Dj]at this
 have aZ:=sU 134 #[.pointer (Ai ⟨w.heap.size,0,Ag⟩),.pointer (Ai ⟨w.heap.size+1,0,Ag⟩)] (λn=> !dJ lo hi n) (Df func134 kz rfl) l A c w1
  (λW r hr hW=>aEe lo hi r _ _ W (b1.below hW b1.lt) (b2.below hW b2.lt)) (h.below bY) hl
 rw[cB]at aZ;have eP:=lz aZ;have cU:=lz bY;have lH:=lz cN;generalize l.all (dJ lo hi)=q at *;clear aZ h bY b1 b2 cN;go_enter func53,ntmps53;go_wp2_with fail;rw[<-lH.out];refine eP.out.mono ?_;rintro e w2 ⟨rfl,dI⟩;have HB:=lz (cU.out.trans (dI.mono cU.out.size));clear dI;go_wp2;go_ret;exact⟨by cases q<;>rfl,HB.out⟩
theorem aA6(s:ByteArray)(w:Al)(hL:ct w):CU 273 #[.string s] w (.bool (!dh s)):=by
 have Hw:=lz (om s w hL);generalize dh s=q at *;clear hL;go_enter func273,ntmps273;go_wp2_with fail;refine Hw.out.mono ?_;rintro e w1 ⟨rfl,aU⟩;go_wp2;go_ret;exact⟨rfl,aU⟩
theorem Kk(l:List ByteArray)(A:Option EK)(c:Nat)(w:Al)(hL:ct w)(h:iB w w.heap.size A l)(hl:l.length<=9223372036854775807):
 CU 217 #[.slice A l.length c] w (.bool (l.all dh)):=by
 have aZ:=uF 273 #[] (λs=> !dh s) (Df func273 kz rfl) l A c w (λW r hr hW=>aA6 r W (hL.below hW)) h hl;rw[cB]at aZ;have eP:=lz aZ;generalize l.all dh=q at *;clear aZ h hL;go_enter func217,ntmps217;go_wp2_with fail;refine eP.out.mono ?_;rintro e w1 ⟨rfl,aU⟩;go_wp2;go_ret;exact⟨by cases q<;>rfl,aU⟩
theorem iZ{w:Al}{B o:Nat}{l:List Int}(hB:B<w.heap.size)(h:∀i (hi:i<l.length),w.cell? ⟨B,o+i,Ag⟩=Ai (.int .i64 l[i])):fV w w.heap.size (Ai ⟨B,o,Ag⟩) l:=
 λ_=>⟨B,o,rfl,hB,h⟩
theorem RW(n:Int)(w:Al):CU 280 (#[.int .i64 n]++ #[]) w (.bool (decide (n=0))):=by
 by_cases h:n=0
 .subst h
  go_enter func280,ntmps280;go_wp2;go_ret;exact⟨rfl,BK _ _⟩
 .have d:(n==0)=false:=by simpa using h
  rw[dF h];go_enter func280,ntmps280;go_wp2;go_ret;exact⟨rfl,BK _ _⟩
theorem Wt(g:Nat)(lb:Array Bn)(eg:∀args w,(EZ g args).run pG w= .ok (.enter g args) w)(Bx:Nat)(b:Bool)(x:Int)(W:Al)(hb:ah W Bx 206 #[.func (.func g) #[] lb])
 (au:CU g (#[.int .i64 x]++lb) W (.bool b)):
 CU 304 #[.int .i64 x,.pointer (Ai ⟨Bx,0,Ag⟩)] W (.bool (!b)):=by
 have c0:=hb.cell 0;have Hc:=lz au;clear au hb;go_enter func304,ntmps304;go_wp2_with (go_at_fn g;refine Hc.out.mono ?_;rintro e w' ⟨rfl,hb'⟩);go_ret;exact⟨rfl,hb'⟩
theorem Na(g:Nat)(lb:Array Bn)(p:Int->Bool)(eg:∀args w,(EZ g args).run pG w= .ok (.enter g args) w)(l:List Int)(A:Option EK)(c:Nat)(w:Al)
 (hp:Kl g lb p l w) (h:fV w w.heap.size A l) (hl:l.length<=9223372036854775807):
 CU 279 #[.slice A l.length c,.func (.func g) #[] lb] w (.bool (l.all p)):=by
 have h1:=ah.new w 206 #[.func (.func g) #[] lb];have bY:BD w.heap.size w (w.alloc (.cells #[.func (.func g) #[] lb] 206)):=bN;have aZ:=sU 304 #[.pointer (Ai ⟨w.heap.size,0,Ag⟩)] (λx=> !p x) (Df func304 kz rfl) l A c (w.alloc (.cells #[.func (.func g) #[] lb] 206))
  (λW x hx hW=>Wt g lb eg _ (p x) x W (h1.below hW h1.lt) (hp W x hx (bY.trans (hW.mono bY.size)))) (h.below bY) hl
 rw[cB]at aZ;have eP:=lz aZ;generalize l.all p=q at *;clear h1 bY aZ hp h;go_enter func279,ntmps279;go_wp2_with fail;refine eP.out.mono ?_;rintro e w1 ⟨rfl,aU⟩;have HB:=lz (((BK _ w).alloc nL (.cells #[.func (.func g) #[] lb] 206)).trans (aU.mono qz));clear eP aU;go_wp2;go_ret;exact⟨by cases q<;>rfl,HB.out⟩
theorem vC(n:Int)(w:Al)(hL:ct w)(h0:0<=n)(h1:n<=255):CU 277 #[.int .u8 n] w (.string (xP n)):=by
 have Hc:=lz (uP n w hL h0 h1);clear hL;go_enter func277,ntmps277;go_wp2_with (go_at_call 240;refine Hc.out.mono ?_;rintro e w' ⟨rfl,hb⟩);go_ret;exact⟨rfl,hb⟩
theorem oq(n:Int)(w:Al)(hL:ct w)(h0:0<=n)(h1:n<=255):CU 167 #[.int .u8 n] w (.string (mX n)):=by
 have Hc:=lz (uP n w hL h0 h1);clear hL;go_enter func167,ntmps167;go_wp2_with (go_at_call 240;refine Hc.out.mono ?_;rintro e w' ⟨rfl,hb⟩);go_ret;exact⟨rfl,hb⟩
theorem Nb:(Lib.fields TN.data.toList).length=25:=by kernel_rfl
def aIP:List Nat:=(EO 26).map fun(n:Nat)=>(mX (n:Int)).size
theorem Wu:(aIP.all λk=>decide (k<=3))=true:=by kernel_rfl
theorem Nc{n:Int}(h:n<1\/n>25):mX n=⟨#[]⟩:=by
 unfold mX nY F6;rw[Nb,if_pos (show n<1\/n>((25:Nat):Int)from h)];rfl
theorem qE(n:Int):(mX n).size<=3:=by
 by_cases h:n<1\/n>25
 .rw[Nc h];decide
 .have hn:n.toNat<26:=by omega
  have h1:=EL.1 Wu (mX n.toNat).size (GR.2 ⟨n.toNat,List.mem_range.2 hn,rfl⟩);rw[Int.toNat_of_nonneg oz]at h1;exact of_decide_eq_true h1
theorem Cl:pK bT.val 207 139:=by
 intro g lb eg Bx b x W hb au;go_enter func207,ntmps207;exact pI
theorem Nd:jF 117 qX dK:=by
 intro g lb p eg l A c w hp h hl;obtain⟨h1,bY⟩:=fF w 139 #[.func (.func g) #[] lb];have aZ:=rW 207 #[.pointer (Ai ⟨w.heap.size,0,Ag⟩)] (λx=> !p x) (Df func207 kz rfl) l A c _ (λW x hx hW fK=>Cl g lb eg _ (p x) x W (h1.below hW h1.lt) λW' hW'=>hp W' x hx (Fx bY hW hW') (fK.below hW')) (h.below bY) hl;rw[cB]at aZ;go_enter func117,ntmps117;exact pJ
theorem zy:pK gq.val 213 204:=by
 intro g lb eg Bx b x W hb au;go_enter func213,ntmps213;exact pI
theorem Km:jF 119 sR dY:=by
 intro g lb p eg l A c w hp h hl;obtain⟨h1,bY⟩:=fF w 204 #[.func (.func g) #[] lb];have aZ:=zl 213 #[.pointer (Ai ⟨w.heap.size,0,Ag⟩)] (λx=> !p x) (Df func213 kz rfl) l A c _ (λW x hx hW fK=>zy g lb eg _ (p x) x W (h1.below hW h1.lt) λW' hW'=>hp W' x hx (Fx bY hW hW') (fK.below hW')) (h.below bY) hl;rw[cB]at aZ;go_enter func119,ntmps119;exact pJ
theorem Cm:pK iI.val 215 140:=by
 intro g lb eg Bx b x W hb au;go_enter func215,ntmps215;exact pI
theorem Nf:jF 121 qY dL:=by
 intro g lb p eg l A c w hp h hl;obtain⟨h1,bY⟩:=fF w 140 #[.func (.func g) #[] lb];have aZ:=rX 215 #[.pointer (Ai ⟨w.heap.size,0,Ag⟩)] (λx=> !p x) (Df func215 kz rfl) l A c _ (λW x hx hW=>Cm g lb eg _ (p x) x W (h1.below hW h1.lt) λW' hW'=>hp W' x hx (Fx bY hW hW')) (h.below bY) hl;rw[cB]at aZ;go_enter func121,ntmps121;exact pJ
theorem F7:pK aO.val 216 141:=by
 intro g lb eg Bx b x W hb au;go_enter func216,ntmps216;exact pI
theorem TP:jF 123 xu fZ:=by
 intro g lb p eg l A c w hp h hl;obtain⟨h1,bY⟩:=fF w 141 #[.func (.func g) #[] lb];have aZ:=uO 216 #[.pointer (Ai ⟨w.heap.size,0,Ag⟩)] (λx=> !p x) (Df func216 kz rfl) l A c _ (λW x hx hW=>F7 g lb eg _ (p x) x W (h1.below hW h1.lt) λW' hW'=>hp W' x hx (Fx bY hW hW')) (h.below bY) hl;rw[cB]at aZ;go_enter func123,ntmps123;exact pJ
theorem Ng:pK fU.val 218 179:=by
 intro g lb eg Bx b x W hb au;go_enter func218,ntmps218;exact pI
theorem aA7:jF 125 J9 mV:=by
 intro g lb p eg l A c w hp h hl;obtain⟨h1,bY⟩:=fF w 179 #[.func (.func g) #[] lb];have aZ:=AJ 218 #[.pointer (Ai ⟨w.heap.size,0,Ag⟩)] (λx=> !p x) (Df func218 kz rfl) l A c _ (λW x hx hW fK=>Ng g lb eg _ (p x) x W (h1.below hW h1.lt) λW' hW'=>hp W' x hx (Fx bY hW hW') (fK.below hW')) (h.below bY) hl;rw[cB]at aZ;go_enter func125,ntmps125;exact pJ
theorem Cn:pK iK.val 219 181:=by
 intro g lb eg Bx b x W hb au;go_enter func219,ntmps219;exact pI
theorem Nh:jF 127 qZ fA:=by
 intro g lb p eg l A c w hp h hl;obtain⟨h1,bY⟩:=fF w 181 #[.func (.func g) #[] lb];have aZ:=rY 219 #[.pointer (Ai ⟨w.heap.size,0,Ag⟩)] (λx=> !p x) (Df func219 kz rfl) l A c _ (λW x hx hW fK=>Cn g lb eg _ (p x) x W (h1.below hW h1.lt) λW' hW'=>hp W' x hx (Fx bY hW hW') (fK.below hW')) (h.below bY) hl;rw[cB]at aZ;go_enter func127,ntmps127;exact pJ
theorem zD:pK lF.val 227 182:=by
 intro g lb eg Bx b x W hb au;go_enter func227,ntmps227;exact pI
theorem Kn:jF 131 pS dS:=by
 intro g lb p eg l A c w hp h hl;obtain⟨h1,bY⟩:=fF w 182 #[.func (.func g) #[] lb];have aZ:=qC 227 #[.pointer (Ai ⟨w.heap.size,0,Ag⟩)] (λx=> !p x) (Df func227 kz rfl) l A c _ (λW x hx hW=>zD g lb eg _ (p x) x W (h1.below hW h1.lt) λW' hW'=>hp W' x hx (Fx bY hW hW')) (h.below bY) hl;rw[cB]at aZ;go_enter func131,ntmps131;exact pJ
theorem F8:pK aC.val 265 137:=by
 intro g lb eg Bx b x W hb au;go_enter func265,ntmps265;exact pI
theorem TQ:jF 210 xg fW:=by
 intro g lb p eg l A c w hp h hl;obtain⟨h1,bY⟩:=fF w 137 #[.func (.func g) #[] lb];have aZ:=uN 265 #[.pointer (Ai ⟨w.heap.size,0,Ag⟩)] (λx=> !p x) (Df func265 kz rfl) l A c _ (λW x hx hW fK=>F8 g lb eg _ (p x) x W (h1.below hW h1.lt) λW' hW'=>hp W' x hx (Fx bY hW hW') (fK.below hW')) (h.below bY) hl;rw[cB]at aZ;go_enter func210,ntmps210;exact pJ
theorem Ko:pK gu.val 276 171:=by
 intro g lb eg Bx b x W hb au;go_enter func276,ntmps276;exact pI
theorem Ni:jF 235 CK ku:=by
 intro g lb p eg l A c w hp h hl;obtain⟨h1,bY⟩:=fF w 171 #[.func (.func g) #[] lb];have aZ:=wX 276 #[.pointer (Ai ⟨w.heap.size,0,Ag⟩)] (λx=> !p x) (Df func276 kz rfl) l A c _ (λW x hx hW fK=>Ko g lb eg _ (p x) x W (h1.below hW h1.lt) λW' hW'=>hp W' x hx (Fx bY hW hW') (fK.below hW')) (h.below bY) hl;rw[cB]at aZ;go_enter func235,ntmps235;exact pJ
theorem F9:pK aM.val 299 133:=by
 intro g lb eg Bx b x W hb au;go_enter func299,ntmps299;exact pI
theorem TR:jF 266 wY fu:=by
 intro g lb p eg l A c w hp h hl;obtain⟨h1,bY⟩:=fF w 133 #[.func (.func g) #[] lb];have aZ:=uL 299 #[.pointer (Ai ⟨w.heap.size,0,Ag⟩)] (λx=> !p x) (Df func299 kz rfl) l A c _ (λW x hx hW fK=>F9 g lb eg _ (p x) x W (h1.below hW h1.lt) λW' hW'=>hp W' x hx (Fx bY hW hW') (fK.below hW')) (h.below bY) hl;rw[cB]at aZ;go_enter func266,ntmps266;exact pJ
theorem Ga:pK cT.val 300 134:=by
 intro g lb eg Bx b x W hb au;go_enter func300,ntmps300;exact pI
theorem TT:jF 268 wZ gI:=by
 intro g lb p eg l A c w hp h hl;obtain⟨h1,bY⟩:=fF w 134 #[.func (.func g) #[] lb];have aZ:=uM 300 #[.pointer (Ai ⟨w.heap.size,0,Ag⟩)] (λx=> !p x) (Df func300 kz rfl) l A c _ (λW x hx hW fK=>Ga g lb eg _ (p x) x W (h1.below hW h1.lt) λW' hW'=>hp W' x hx (Fx bY hW hW') (fK.below hW')) (h.below bY) hl;rw[cB]at aZ;go_enter func268,ntmps268;exact pJ
theorem Kq:pK bw.val 302 292:=by
 intro g lb eg Bx b x W hb au;go_enter func302,ntmps302;exact pI
theorem Wv:jF 272 J7 jo:=by
 intro g lb p eg l A c w hp h hl;obtain⟨h1,bY⟩:=fF w 292 #[.func (.func g) #[] lb];have aZ:=J8 302 #[.pointer (Ai ⟨w.heap.size,0,Ag⟩)] (λx=> !p x) (Df func302 kz rfl) l A c _ (λW x hx hW=>Kq g lb eg _ (p x) x W (h1.below hW h1.lt) λW' hW'=>hp W' x hx (Fx bY hW hW')) (h.below bY) hl;rw[cB]at aZ;go_enter func272,ntmps272;exact pJ
