import Derived.Test.YtmdgooofdmpcjaaGreatDoorY5
set_option maxRecDepth 100000
set_option maxHeartbeats 8000000
set_option linter.unusedSimpArgs false
set_option linter.unusedVariables false
set_option linter.unusedSectionVars false
open Go.Proofs.Tryz renaming prog → pG
open Bool renaming and_eq_true->BW,false->Bj,true->BR
open List renaming all_eq_true->EL,cons_append->GQ,getElem?_eq_getElem->EN,length_cons->Ia,nil_append->GY,range->EO,take_succ_eq_append_getElem->Dl
open Option renaming none->Ag,some->Ai
open Go.Proofs.Tryz
namespace Go.Proofs.YtmdgooofdmpcjaaGreatDoor
open Go renaming Addr->EK,Calls->ET,TypeId->E3,Value->Bn,World->Al,bodyPost_ret->GJ,maxLen->EW,undef->BA
open RowKit renaming Below->BD
open RowKit.Below renaming heap_setCell->Hu,refl->BK
section
open Go.ChangeShapes Go.WideShapes Go.ChangeAt Go.RowKit
attribute [local go_sem] Oper.semAt_some
def qP(T:List mN):List Value:=T.flatMap λt=> [.int .u8 t.1,.string t.2.1,.int .i64 t.2.2]
def pY(s:ByteArray)(e:Ending)(W:Al):Prop:=
 if s.size>65536 then e= .returned (.tuple #[.slice Ag 0 0,.int .i64 0,.int .i64 3])else
 match ur s with
 | some T=>∃A c,e= .returned (.tuple #[.slice A T.length c,.int .i64 0,.int .i64 0])/\∀t,T= [t]->∃br,A=Ai ⟨br,0,Ag⟩/\W.cell? ⟨br,0,Ag⟩=Ai (.int .u8 t.1)/\W.cell? ⟨br,1,Ag⟩=Ai (.string t.2.1)
 | none=>∃a c,c≠0/\e= .returned (.tuple #[.slice Ag 0 0,.int .i64 a,.int .i64 c])
theorem L0{s:ByteArray}{e:Ending}{W:Al}{T:List mN}(hs:¬s.size>65536)(h:ur s=Ai T)(hp:∃A c,e= .returned (.tuple #[.slice A T.length c,.int .i64 0,.int .i64 0])/\∀t,T= [t]->∃br,A=Ai ⟨br,0,Ag⟩/\W.cell? ⟨br,0,Ag⟩=Ai (.int .u8 t.1)/\W.cell? ⟨br,1,Ag⟩=Ai (.string t.2.1)):pY s e W:=by
 unfold pY;rw[if_neg hs,h];exact hp
theorem L6{s:ByteArray}{e:Ending}{W:Al}(hs:¬s.size>65536)(h:ur s=Ag)(hp:∃a c,c≠0/\e= .returned (.tuple #[.slice Ag 0 0,.int .i64 a,.int .i64 c])):pY s e W:=by
 unfold pY;rw[if_neg hs,h];exact hp
theorem ZL(s:ByteArray)(w:Al)(hs:s.size>65536):ET pG 263 #[.string s] w λe w'=>pY s e w'/\BD w.heap.size w w':=by
 obtain⟨w0,hw0⟩:=ez (((w.alloc (.cells #[.slice Ag 0 0] 285)).alloc (.cells #[.int .i64 0] 3)).alloc (.cells #[.int .i64 3] 34));have bW:BD w.heap.size w w0:=by rw[hw0];exact((bN).alloc qz _).alloc qo _
 have r2:ah w0 w.heap.size 285 #[.slice Ag 0 0]:=by rw[hw0];exact((ah.new w _ _).alloc _).alloc _
 have r3:ah w0 (w.heap.size+1) 3 #[.int .i64 0]:=by rw[hw0];exact(eU (w.alloc (.cells #[.slice Ag 0 0] 285)) (w.heap.size+1) 3 _ qz).alloc _
 have r4:ah w0 (w.heap.size+2) 34 #[.int .i64 3]:=by rw[hw0];exact eU ((w.alloc (.cells #[.slice Ag 0 0] 285)).alloc (.cells #[.int .i64 0] 3)) (w.heap.size+2) 34 _ qz
 have hd:decide ((s.size:Int)>65536)=true:=dT oz;have Hs:=lz hs;have Mc:=lz hw0;have aV:=lz bW;have R2:=lz r2;have R3:=lz r3;have R4:=lz r4;clear hw0 bW r2 r3 r4 hs;refine(callsIn_wide (n:=9)).1 ?_;refine callsIn_of_wp_marks func263 rfl trivial ?_ rfl;simp only[ntmps263,List.size_toArray,Ia,List.length_nil,Nat.reduceAdd,Nat.reduceSub,Array.replicate_succ,Array.replicate_zero,List.push_toArray,List.append_toArray,GY,GQ];refine wpIn_wide.2 ?_;go_wp2_with fail;rw[<-Mc.out];have hz:=R2.out;have IC:=R3.out;have hz4:=R4.out;have Mj:=aV.out;clear Mc R2 R3 R4 aV;refine bP [] w0 w0.heap.size qz (λE hE=>by cases hE) λW' j5=> ?_
 have z2:=(ah.below hz j5.below (ah.lt hz)).cell 0;have z3:=(ah.below IC j5.below (ah.lt IC)).cell 0;have z4:=(ah.below hz4 j5.below (ah.lt hz4)).cell 0;refine⟨.tuple #[.slice Ag 0 0,.int .i64 0,.int .i64 3],by simp[results,f263,go_sem,z2,z3,z4],?_,Mj.trans (j5.below.mono (Nat.le_of_lt (ah.lt hz)))⟩;unfold pY;rw[if_pos Hs.out]
theorem aMC(s:ByteArray)(w:Al)(hL:ct w):ET pG 263 #[.string s] w λe w'=>pY s e w'/\BD w.heap.size w w':=by
 by_cases hs:s.size>65536
 .exact ZL s w hs
 obtain⟨w0,hw0⟩:=ez (((w.alloc (.cells #[.slice Ag 0 0] 285)).alloc (.cells #[.int .i64 0] 3)).alloc (.cells #[.int .i64 0] 34));have bW:BD w.heap.size w w0:=by rw[hw0];exact((bN).alloc qz _).alloc qo _
 have r2:ah w0 w.heap.size 285 #[.slice Ag 0 0]:=by rw[hw0];exact((ah.new w _ _).alloc _).alloc _
 have r3:ah w0 (w.heap.size+1) 3 #[.int .i64 0]:=by rw[hw0];exact(eU (w.alloc (.cells #[.slice Ag 0 0] 285)) (w.heap.size+1) 3 _ qz).alloc _
 have r4:ah w0 (w.heap.size+2) 34 #[.int .i64 0]:=by rw[hw0];exact eU ((w.alloc (.cells #[.slice Ag 0 0] 285)).alloc (.cells #[.int .i64 0] 3)) (w.heap.size+2) 34 _ qz
 have hz0:w0.heap.size=w.heap.size+3:=by rw[hw0];simp
 have hd:decide ((s.size:Int)>65536)=false:=dF oz;have Hst:=lz (Zv w0);have Mc:=lz hw0;have aV:=lz bW;have R2:=lz r2;have R3:=lz r3;have R4:=lz r4;have Hs:=lz hs;have Hz0:=lz hz0;have HL:=lz hL;clear hw0 bW r2 r3 r4 hs hz0 hL;refine(callsIn_wide (n:=9)).1 ?_;refine callsIn_of_wp_marks func263 rfl trivial ?_ rfl;simp only[ntmps263,List.size_toArray,Ia,List.length_nil,Nat.reduceAdd,Nat.reduceSub,Array.replicate_succ,Array.replicate_zero,List.push_toArray,List.append_toArray,GY,GQ];refine wpIn_wide.2 ?_;go_wp2_with fail;rw[<-Mc.out];refine Hst.out.mono ?_;rintro e w1 ⟨v1,v2,v3,rfl,⟨Be,Bd,Bd2,Bs,rfl,rfl,rfl,Ik⟩,aU⟩;obtain⟨l1,DL⟩:∃l1:Array Bn,l1= #[.pointer (Ai ⟨Be,0,Ag⟩)]:=⟨_,rfl⟩;obtain⟨l2,Cb⟩:∃l2:Array Bn,l2= #[.pointer (Ai ⟨Bd,0,Ag⟩),.pointer (Ai ⟨Bd2,0,Ag⟩)]:=⟨_,rfl⟩;obtain⟨l3,qD⟩:∃l3:Array Bn,l3= #[.pointer (Ai ⟨Bs,0,Ag⟩)]:=⟨_,rfl⟩;rw[<-DL,<-Cb,<-qD]at Ik ⊢;obtain⟨w2,hw2⟩:=ez (((w1.alloc (.cells #[.string s,.int .i64 0,.nilFunc,.func (.func 327) #[] l1,.func (.func 328) #[] l2,.func (.func 329) #[] l3] 323)).alloc (.cells #[.slice Ag 0 0] 285)).alloc (.cells #[.pointer (Ai ⟨w1.heap.size,0,Ag⟩)] 317));have pq:BD w1.heap.size w1 w2:=by rw[hw2];exact((bN).alloc qz _).alloc qo _
 have hsc:gK w2 w1.heap.size s 0 .nilFunc (.func (.func 327) #[] l1) (.func (.func 328) #[] l2) (.func (.func 329) #[] l3):=by rw[hw2];exact((ah.new w1 _ _).alloc _).alloc _
 have Cc:ah w2 (w1.heap.size+1) 285 #[.slice Ag 0 0]:=by rw[hw2];exact(eU (w1.alloc (.cells #[.string s,.int .i64 0,.nilFunc,.func (.func 327) #[] l1,.func (.func 328) #[] l2,.func (.func 329) #[] l3] 323)) (w1.heap.size+1) 285 _ qz).alloc _
 have mz:ah w2 (w1.heap.size+2) 317 #[.pointer (Ai ⟨w1.heap.size,0,Ag⟩)]:=by rw[hw2];exact eU ((w1.alloc (.cells #[.string s,.int .i64 0,.nilFunc,.func (.func 327) #[] l1,.func (.func 328) #[] l2,.func (.func 329) #[] l3] 323)).alloc (.cells #[.slice Ag 0 0] 285)) (w1.heap.size+2) 317 _ qz
 have hz2:w2.heap.size=w1.heap.size+3:=by rw[hw2];simp
 have hL1:ct w1:=(HL.out.below aV.out).below aU;have hbX:∀W,Gr (λk=>k=w1.heap.size\/k=w1.heap.size+1) w2 W->BD w1.heap.size w1 W:=λW hG=>
  ⟨hG.os.trans pq.os,hG.tape.trans pq.tape,hG.output.trans pq.output,by have:=hG.size;omega,λk hk=>(hG.block k oz oz).trans (pq.block k hk)⟩
 have hit:=fun(l:Nat) (W:Al) (J:List mN->Al->Prop) (JE:Al->Prop) (hB:BD w2.heap.size w2 W) hJ hJE h0 hY hE=>
  aGz w1.heap.size (w1.heap.size+1) (w1.heap.size+2) s l1 l2 l3 w2 oz oz oz (by have:=Hs.out;omega)
   (λW hG=>(Ik w1.heap.size W nL (hbX W hG)).1) (λW hG=>(Ik w1.heap.size W nL (hbX W hG)).2.1) (λW hG=>(Ik w1.heap.size W nL (hbX W hG)).2.2)
   (λW t hG ht=>Zw t W ht (hL1.below (hbX W hG))) mz oz l W (Gr.ak hB) (gK.below hsc hB) J JE hJ hJE h0 hY hE
 have Hit:=lz hit;have Sy:=lz Cc;have Hw2:=lz hw2;have Hz2:=lz hz2;have gh:=lz aU;have eF:=lz pq;have Hl:=lz (ai DL (ai Cb qD));clear Ik aU hw2 pq hsc Cc mz hz2 hit Hst hL1 hbX DL Cb qD;go_wp2_with (go_at_call 298;refine(aG6 _ _).mono ?_;rintro e w' ⟨rfl,hw'⟩);rw[<-Hw2.out];clear hw';refine(wpIn_wide (n:=9)).1 ?_;have hz2:w1.heap.size+3<=w2.heap.size:=by have:=Hz2.out;omega
 have aYU:w2.heap.size<=w1.heap.size+3:=by have:=Hz2.out;omega
 have hz0:w.heap.size+3<=w0.heap.size:=by have:=Hz0.out;omega
 have hs1:=gh.out.size;refine Rv (gf:=315) (gm:=w1.heap.size) (lb:= #[.pointer (Ai ⟨w1.heap.size+1+1,0,Ag⟩)]) (s:=s) (X:=λk=>k=w1.heap.size\/k=w1.heap.size+1) oz rfl (enters_of func315 kz rfl) rfl (λk hk=>by rcases hk with rfl | rfl<;>omega) Hit.out
  (λT W=>∃A c,ah W (w1.heap.size+1) 285 #[.slice A T.length c]/\W.ownsRow w2.heap.size 290 3 (.slice A T.length c) T.length (qP T)/\Gr (λk=>k=w1.heap.size\/k=w1.heap.size+1) w2 W)
  (λW=>∃a c,c≠0/\ah W w.heap.size 285 #[.slice Ag 0 0]/\ah W (w.heap.size+1) 3 #[.int .i64 a]/\ah W (w.heap.size+2) 34 #[.int .i64 c]/\BD w.heap.size w W)
  ?pgr ?egr ?aQo ?aQp ?p0
  (λT t c a' W=>∃Bx,w2.heap.size<=Bx/\T.length<=65536/\ah W Bx 290 #[.int .u8 t.1,.string t.2.1,.int .i64 t.2.2]/\(∃A cp,ah W (w1.heap.size+1) 285 #[.slice A T.length cp]/\W.ownsRow w2.heap.size 290 3 (.slice A T.length cp) T.length (qP T)/\(∀k,(Value.slice A T.length cp).ownBlock=Ai k->k≠Bx))/\Gr (λk=>k=w1.heap.size\/k=w1.heap.size+1) w2 W/\a'={tmps:= #[.string s,BA,.pointer (Ai ⟨w.heap.size,0,Ag⟩),.pointer (Ai ⟨w.heap.size+1,0,Ag⟩),.pointer (Ai ⟨w.heap.size+1+1,0,Ag⟩),.pointer (Ai ⟨w1.heap.size,0,Ag⟩),.pointer (Ai ⟨w1.heap.size+1,0,Ag⟩),.pointer (Ai ⟨Bx,0,Ag⟩),.int .i64 c,.string s,.int .i64 s.size,.bool Bj,.string s,.agg #[.string s,.int .i64 0],.agg #[.nilFunc,.func (.func 327) #[] l1,.func (.func 328) #[] l2,.func (.func 329) #[] l3],.agg #[.string s,.int .i64 0,.nilFunc,.func (.func 327) #[] l1,.func (.func 328) #[] l2,.func (.func 329) #[] l3],.pointer (Ai ⟨w1.heap.size,0,Ag⟩),.pointer (Ai ⟨w1.heap.size,0,Ag⟩),.func (.func 315) #[] #[.pointer (Ai ⟨w1.heap.size+1+1,0,Ag⟩)],.agg #[.int .u8 t.1,.string t.2.1,.int .i64 t.2.2],.int .i64 c,BA,BA,BA,BA,BA,BA,BA,BA,BA,BA],defers:= []})
  ?ax ?assign ?body ?done ?ret
 case pgr=>
  rintro T W W' ⟨A,c,h1,h2,h3⟩ hG;exact⟨A,c,hG.blk h1 oz,cO h2 hG (λk hk e=>by have:=(h2.lt k hk).1;omega),h3.trans' hG (λj _ e=> .inl e)⟩
 case egr=>
  rintro W W' ⟨a,c,h0,h1,h2,h3,h4⟩ hG;exact⟨a,c,h0,hG.blk h1 oz,hG.blk h2 oz,hG.blk h3 oz,⟨hG.os.trans h4.os,hG.tape.trans h4.tape,hG.output.trans h4.output,nT h4.size hG.size,λk hk=>(hG.block k (by have:=h4.size;omega) oz).trans (h4.block k hk)⟩⟩
 case aQo=>
  rintro T l W o o' hl ho hc ⟨A,c,h1,h2,h3⟩;exact⟨A,c,(j9 W l o').blk h1 oz,cO h2 (j9 W l o') (λk hk e=>by have:=Ip h2 k o hk (e▸ho);rw[hc]at this;cases this),h3.trans' (j9 W l o') (λj hj e=>by omega)⟩
 case aQp=>
  rintro l W o o' hl ho hc ⟨a,c,h0,h1,h2,h3,h4⟩;have hG:=j9 W l o';exact⟨a,c,h0,hG.blk h1 oz,hG.blk h2 oz,hG.blk h3 oz,⟨hG.os.trans h4.os,hG.tape.trans h4.tape,hG.output.trans h4.output,nT h4.size hG.size,λk hk=>(hG.block k (by have:=h4.size;omega) oz).trans (h4.block k hk)⟩⟩
 case p0=>
  intro W hB;exact⟨Ag,0,Sy.out.below hB Sy.out.lt,World.ownsRow_nil _ _ _ _,Gr.ak hB⟩
 case ax=>
  rintro T t c l a' W o o' hl ho hc ⟨Bx,h1,XO,h2,⟨A,cp,h3,h4,h5⟩,h6,h7⟩;have hne:Bx≠l:=λe=>by subst e;rw[show W.heap[Bx]?=_ from h2]at ho;cases ho;cases hc
  exact⟨Bx,h1,XO,(j9 W l o').blk h2 hne,⟨A,cp,(j9 W l o').blk h3 oz,cO h4 (j9 W l o') (λk hk e=>by have:=Ip h4 k o hk (e▸ho);rw[hc]at this;cases this),h5⟩,h6.trans' (j9 W l o') (λj hj e=>by omega),h7⟩
 case assign=>
  intro l T t c W K XO hsz hgr hP hK;obtain⟨A,cp,Cc,hown,-⟩:=hP;obtain⟨k1,s1,p1⟩:=t;have Hgr:=lz hgr;have aG7:=lz Cc;have kZ:=lz hown;clear hgr Cc hown;gi_wp2;exact hK _ _ ((KeepsOthers.alloc _ _).from _) (Gr.alloc _ _ _) (Below.heap_alloc W _ _ oz) ⟨W.heap.size,oz,XO,ah.new W _ _,⟨A,cp,aG7.out.alloc _,cO kZ.out (Gr.alloc (λ_=>False) W _) (λ_ _ h=>h),λk hk e=>by have:=(kZ.out.lt k hk).2;omega⟩,Hgr.out.trans (Gr.alloc _ _ _),rfl⟩
 case body=>
  rintro l T ⟨k1,s1,p1⟩ c a' W hXW ⟨Bx,hBx,XO,gP,⟨A,cp,Cc,hown,hne⟩,hgr,rfl⟩;dsimp only at gP ⊢;have c6:=Cc.cell 0;have c0:=gP.cell 0;have c1:=gP.cell 1;have c2:=gP.cell 2;by_cases hc:c=0
  .subst hc
   obtain⟨i0,lX,bR,K1,KT⟩:=info_parts aDB;have hsz:=hgr.size;have Hgr:=lz hgr;have aG7:=lz Cc;have kZ:=lz hown;clear hgr Cc gP hown hXW hne;gi_wp2_with (gi_at_builtin;refine wpListIn_append_own _ rfl _ _ 285 rfl w2.heap.size 290 i0 (.agg #[.int .u8 0,.string ⟨#[]⟩,.int .i64 0]) 3 32 underlying285 lX bR K1 KT rfl dz _ _ _ rfl (cO kZ.out (Gr.alloc (λ_=>False) W _) (λ_ _ h=>h)) ⟨W.heap.size,0,Ag⟩ 1 1 [.int .u8 k1,.string s1,.int .i64 p1] rfl rfl ?c1 ?c2 ?c3 ?c4 ?c5 ?_)
   case c1=>
    intro j u' hj;rw[bO,Nat.zero_add,(ah.new W 290 #[.int .u8 k1,.string s1,.int .i64 p1]).cell j];simpa using hj
   case c2=>intro u' kQ;simp at kQ;rcases kQ with rfl | rfl | rfl<;>rfl
   case c3=>simp[EW];omega
   case c4=>omega
   case c5=>simp;omega
   intro v5 wo dQ mE _;have hcs:qP (T++ [(k1,s1,p1)])=qP T++ [.int .u8 k1,.string s1,.int .i64 p1]:=by simp[qP]
   have hlen:(T++ [((k1,s1,p1):mN)]).length=T.length+1:=by simp
   have L7:wo.ownsRow w2.heap.size 290 3 v5 (T.length+1) (qP T++ [.int .u8 k1,.string s1,.int .i64 p1]):=dQ;obtain⟨A5,c5,rfl,_⟩:=bp L7;have hgo:Gr (· =w1.heap.size+1) W (W.alloc (.cells #[.int .u8 k1,.string s1,.int .i64 p1] 290)):=Gr.alloc _ _ _;have aEO:=cO kZ.out (Gr.alloc (λ_=>False) W (.cells #[.int .u8 k1,.string s1,.int .i64 p1] 290)) (λ_ _ h=>h);have hblk:∀k,k<W.heap.size->(Value.slice A T.length cp).ownBlock≠Ai k->wo.heap[k]?=W.heap[k]?:=λk hk hn=>(mE.block k qo (λe=>hn e.symm)).trans (Below.heap_alloc W _ k hk)
   have aDC:∀k,(Value.slice A T.length cp).ownBlock=Ai k->w2.heap.size<=k:=λk hk=>(kZ.out.lt k hk).1
   have ZM:ah wo (w1.heap.size+1) 285 #[.slice A T.length cp]:=(hblk _ oz (λe=>by have:=aDC _ e;omega)).trans aG7.out;have aG8:KeepsOthers W wo:=(KeepsOthers.alloc W (.cells #[.int .u8 k1,.string s1,.int .i64 p1] 290)).trans (Dz aEO mE);have d0:=ZM.cell 0;have df:=ZM.frozen 0;have hS:=Gr.setCell (X:=(· =w1.heap.size+1)) wo ⟨w1.heap.size+1,0,Ag⟩ (.slice A5 (T.length+1) c5) rfl;have OU:=cO L7 hS (λk hk e=>by have:=(L7.lt k hk).1;omega);have aME:ah (wo.setCell ⟨w1.heap.size+1,0,Ag⟩ (.slice A5 (T.length+1) c5)) (w1.heap.size+1) 285 #[.slice A5 (T.length+1) c5]:=by simpa using ZM.bX 0 (.slice A5 (T.length+1) c5)
   have aMF:Gr (λk=>k=w1.heap.size\/k=w1.heap.size+1) w2 wo:=⟨mE.os.trans Hgr.out.os,mE.tape.trans Hgr.out.tape,mE.output.trans Hgr.out.output,by have:=mE.size;simp at this;omega,λk hk hn=>(hblk k oz (λe=>by have:=aDC _ e;omega)).trans (Hgr.out.block k hk hn)⟩;have aMG:Gr (λk=>k=w1.heap.size\/k=w1.heap.size+1) w2 (wo.setCell ⟨w1.heap.size+1,0,Ag⟩ (.slice A5 (T.length+1) c5)):=aMF.trans' hS (λk hk e=> .inr e);have hko:KeepsOthers W (wo.setCell ⟨w1.heap.size+1,0,Ag⟩ (.slice A5 (T.length+1) c5)):=aG8.trans (nW ZM _);have hsm:(wo.setCell ⟨w1.heap.size+1,0,Ag⟩ (.slice A5 (T.length+1) c5)).heap[w1.heap.size]?=W.heap[w1.heap.size]?:=(hS.block _ (by have:=aG8.size;omega) oz).trans (hblk _ oz (λe=>by have:=aDC _ e;omega));have HR:=lz (ai (hko.from w2.heap.size) (ai hsm (ai aME (ai OU aMG))));have Hcs:=lz (ai hcs hlen);clear dQ L7 mE ZM hS OU aME aMG hko hsm hcs hlen hgo aEO hblk aDC aG8 aMF;gi_wp2;exact⟨HR.out.1,HR.out.2.2.2.2,HR.out.2.1,A5,c5,HR.out.2.2.1,by rw[Hcs.out.1];exact HR.out.2.2.2.1,HR.out.2.2.2.2⟩
  .have Fk:∀k,k<w1.heap.size->W.heap[k]?=w1.heap[k]?:=λk hk=>(hgr.block k oz oz).trans (eF.out.block k hk)
   have q2:ah W w.heap.size 285 #[.slice Ag 0 0]:=(Fk _ oz).trans (R2.out.below gh.out oz);have q3:ah W (w.heap.size+1) 3 #[.int .i64 0]:=(Fk _ oz).trans (R3.out.below gh.out oz);have q4:ah W (w.heap.size+2) 34 #[.int .i64 0]:=(Fk _ oz).trans (R4.out.below gh.out oz);have HBw:Hid (BD w.heap.size w W):=lz (⟨hgr.os.trans (eF.out.os.trans (gh.out.os.trans aV.out.os)),hgr.tape.trans (eF.out.tape.trans (gh.out.tape.trans aV.out.tape)),hgr.output.trans (eF.out.output.trans (gh.out.output.trans aV.out.output)),by have:=hgr.size;omega,λk hk=>(Fk k oz).trans ((gh.out.block k oz).trans (aV.out.block k hk))⟩);have e2:=q2.cell 0;have e3:=q3.cell 0;have e4:=q4.cell 0;have f2':=q2.frozen 0;have f3':=q3.frozen 0;have f4':=q4.frozen 0;have Hq2:=lz q2;have Hq3:=lz q3;have Hq4:=lz q4;have Hc:=lz hc;clear Fk q2 q3 q4 hXW Cc hown hne hgr gP;have y2:=(((Hq2.out.bX 0 (.slice Ag 0 0)).far (p:=⟨w.heap.size+1,0,Ag⟩) (by show w.heap.size≠w.heap.size+1;omega) (.int .i64 p1)).far (p:=⟨w.heap.size+1+1,0,Ag⟩) (by show w.heap.size≠w.heap.size+1+1;omega) (.int .i64 c)).drew;have y3:=(((Hq3.out.far (p:=⟨w.heap.size,0,Ag⟩) (by show w.heap.size+1≠w.heap.size;omega) (.slice Ag 0 0)).bX 0 (.int .i64 p1)).far (p:=⟨w.heap.size+1+1,0,Ag⟩) (by show w.heap.size+1≠w.heap.size+1+1;omega) (.int .i64 c)).drew;have aG9:ah W (w.heap.size+1+1) 34 #[.int .i64 0]:=Hq4.out;have y4:=(((aG9.far (p:=⟨w.heap.size,0,Ag⟩) (by show w.heap.size+1+1≠w.heap.size;omega) (.slice Ag 0 0)).far (p:=⟨w.heap.size+1,0,Ag⟩) (by show w.heap.size+1+1≠w.heap.size+1;omega) (.int .i64 p1)).bX 0 (.int .i64 c)).drew;have yB:BD w.heap.size w ((((W.setCell ⟨w.heap.size,0,Ag⟩ (.slice Ag 0 0)).setCell ⟨w.heap.size+1,0,Ag⟩ (.int .i64 p1)).setCell ⟨w.heap.size+1+1,0,Ag⟩ (.int .i64 c)).drew):=(((HBw.out.setCell (p:=⟨w.heap.size,0,Ag⟩) nL _).setCell (p:=⟨w.heap.size+1,0,Ag⟩) (by show w.heap.size<=w.heap.size+1;omega) _).setCell (p:=⟨w.heap.size+1+1,0,Ag⟩) (by show w.heap.size<=w.heap.size+1+1;omega) _).drew;have yK:KeepsFrom w2.heap.size W ((((W.setCell ⟨w.heap.size,0,Ag⟩ (.slice Ag 0 0)).setCell ⟨w.heap.size+1,0,Ag⟩ (.int .i64 p1)).setCell ⟨w.heap.size+1+1,0,Ag⟩ (.int .i64 c)).drew):=
    ((((nW Hq2.out (.slice Ag 0 0)).trans (nW (Hq3.out.far (p:=⟨w.heap.size,0,Ag⟩) (by show w.heap.size+1≠w.heap.size;omega) (.slice Ag 0 0)) (.int .i64 p1))).trans (nW ((aG9.far (p:=⟨w.heap.size,0,Ag⟩) (by show w.heap.size+1+1≠w.heap.size;omega) (.slice Ag 0 0)).far (p:=⟨w.heap.size+1,0,Ag⟩) (by show w.heap.size+1+1≠w.heap.size+1;omega) (.int .i64 p1)) (.int .i64 c))).trans (J2 (BK _ _).drew)).from _
   have HR:=lz (ai yK (ai (by simpa using y2) (ai (by simpa using y3) (ai (by simpa using y4) yB))):KeepsFrom w2.heap.size W ((((W.setCell ⟨w.heap.size,0,Ag⟩ (.slice Ag 0 0)).setCell ⟨w.heap.size+1,0,Ag⟩ (.int .i64 p1)).setCell ⟨w.heap.size+1+1,0,Ag⟩ (.int .i64 c)).drew)/\ah ((((W.setCell ⟨w.heap.size,0,Ag⟩ (.slice Ag 0 0)).setCell ⟨w.heap.size+1,0,Ag⟩ (.int .i64 p1)).setCell ⟨w.heap.size+1+1,0,Ag⟩ (.int .i64 c)).drew) w.heap.size 285 #[.slice Ag 0 0]/\ah ((((W.setCell ⟨w.heap.size,0,Ag⟩ (.slice Ag 0 0)).setCell ⟨w.heap.size+1,0,Ag⟩ (.int .i64 p1)).setCell ⟨w.heap.size+1+1,0,Ag⟩ (.int .i64 c)).drew) (w.heap.size+1) 3 #[.int .i64 p1]/\ah ((((W.setCell ⟨w.heap.size,0,Ag⟩ (.slice Ag 0 0)).setCell ⟨w.heap.size+1,0,Ag⟩ (.int .i64 p1)).setCell ⟨w.heap.size+1+1,0,Ag⟩ (.int .i64 c)).drew) (w.heap.size+2) 34 #[.int .i64 c]/\BD w.heap.size w ((((W.setCell ⟨w.heap.size,0,Ag⟩ (.slice Ag 0 0)).setCell ⟨w.heap.size+1,0,Ag⟩ (.int .i64 p1)).setCell ⟨w.heap.size+1+1,0,Ag⟩ (.int .i64 c)).drew));clear y2 y3 y4 yB yK aG9;gi_wp2;gi_region;all_goals gi_wp2
   all_goals first | exact⟨HR.out.1,.inr ⟨Hc.out,rfl,p1,c,Hc.out,HR.out.2⟩⟩ | exact⟨HR.out.1,Hc.out,p1,c,Hc.out,HR.out.2⟩ | exact⟨HR.out.1,p1,c,Hc.out,HR.out.2⟩
 case done=>
  rintro D W3 T hD hlx ⟨A,c,aMH,yP,aJ⟩ hk;have Fk:∀k,k<w1.heap.size->W3.heap[k]?=w1.heap[k]?:=λk hk=>(aJ.block k oz oz).trans (eF.out.block k hk)
  have q2:ah W3 w.heap.size 285 #[.slice Ag 0 0]:=(Fk _ oz).trans (R2.out.below gh.out oz);have q3:ah W3 (w.heap.size+1) 3 #[.int .i64 0]:=(Fk _ oz).trans (R3.out.below gh.out oz);have q4:ah W3 (w.heap.size+2) 34 #[.int .i64 0]:=(Fk _ oz).trans (R4.out.below gh.out oz);have Mr:BD w.heap.size w W3:=⟨aJ.os.trans (eF.out.os.trans (gh.out.os.trans aV.out.os)),aJ.tape.trans (eF.out.tape.trans (gh.out.tape.trans aV.out.tape)),aJ.output.trans (eF.out.output.trans (gh.out.output.trans aV.out.output)),by have:=aJ.size;omega,λk hk=>(Fk k oz).trans ((gh.out.block k oz).trans (aV.out.block k hk))⟩;have e6:=aMH.cell 0;have e2:=q2.cell 0;have e3:=q3.cell 0;have e4:=q4.cell 0;have f2':=q2.frozen 0;have f3':=q3.frozen 0;have f4':=q4.frozen 0;have Vj:∀t,T= [t]->∃br,A=Ai ⟨br,0,Ag⟩/\w2.heap.size<=br/\W3.cell? ⟨br,0,Ag⟩=Ai (.int .u8 t.1)/\W3.cell? ⟨br,1,Ag⟩=Ai (.string t.2.1):=by
   rintro t rfl;obtain⟨br,cap,hv,I8,hlt⟩:=yP.form qz;have hA:A=Ai ⟨br,0,Ag⟩:=by injection hv
   subst hA;have g0:=yP.cells (g:=br) rfl 0 (.int .u8 t.1) rfl;have g1:=yP.cells (g:=br) rfl 1 (.string t.2.1) rfl;rw[eY]at g0 g1;exact⟨br,rfl,(yP.lt br rfl).1,by simpa using g0,by simpa using g1⟩
  have KJ:D<W3.heap.size:=(gE hk).1;have Hk:=lz hk;have Hq2:=lz q2;have Hq3:=lz q3;have Hq4:=lz q4;have HBw:=lz Mr;have aQr:=lz Vj;have Hlx:=lz hlx;clear aMH yP aJ hk Fk q2 q3 q4 Mr Vj hlx;go_wp2_with fail;have hz:=((Hq2.out.bX 0 (.slice A T.length c)).far (p:=⟨w.heap.size+1,0,Ag⟩) (by show w.heap.size≠w.heap.size+1;omega) (.int .i64 0)).far (p:=⟨w.heap.size+2,0,Ag⟩) (by show w.heap.size≠w.heap.size+2;omega) (.int .i64 0);have IC:=((Hq3.out.far (p:=⟨w.heap.size,0,Ag⟩) (by show w.heap.size+1≠w.heap.size;omega) (.slice A T.length c)).bX 0 (.int .i64 0)).far (p:=⟨w.heap.size+2,0,Ag⟩) (by show w.heap.size+1≠w.heap.size+2;omega) (.int .i64 0);have hz4:=((Hq4.out.far (p:=⟨w.heap.size,0,Ag⟩) (by show w.heap.size+2≠w.heap.size;omega) (.slice A T.length c)).far (p:=⟨w.heap.size+1,0,Ag⟩) (by show w.heap.size+2≠w.heap.size+1;omega) (.int .i64 0)).bX 0 (.int .i64 0);have Mj:BD w.heap.size w (((W3.setCell ⟨w.heap.size,0,Ag⟩ (.slice A T.length c)).setCell ⟨w.heap.size+1,0,Ag⟩ (.int .i64 0)).setCell ⟨w.heap.size+2,0,Ag⟩ (.int .i64 0)):=((HBw.out.setCell (p:=⟨w.heap.size,0,Ag⟩) nL _).setCell (p:=⟨w.heap.size+1,0,Ag⟩) (by show w.heap.size<=w.heap.size+1;omega) _).setCell (p:=⟨w.heap.size+2,0,Ag⟩) (by show w.heap.size<=w.heap.size+2;omega) _;have Fl:∀k,w.heap.size+3<=k->(((W3.setCell ⟨w.heap.size,0,Ag⟩ (.slice A T.length c)).setCell ⟨w.heap.size+1,0,Ag⟩ (.int .i64 0)).setCell ⟨w.heap.size+2,0,Ag⟩ (.int .i64 0)).heap[k]?=W3.heap[k]?:=λk hk=>
   (Hu _ ⟨w.heap.size+2,0,Ag⟩ _ k (by show k≠w.heap.size+2;omega)).trans ((Hu _ ⟨w.heap.size+1,0,Ag⟩ _ k (by show k≠w.heap.size+1;omega)).trans (Hu _ ⟨w.heap.size,0,Ag⟩ _ k (by show k≠w.heap.size;omega)))
  have aOZ:(((W3.setCell ⟨w.heap.size,0,Ag⟩ (.slice A T.length c)).setCell ⟨w.heap.size+1,0,Ag⟩ (.int .i64 0)).setCell ⟨w.heap.size+2,0,Ag⟩ (.int .i64 0)).heap.size=W3.heap.size:=by simp[World.setCell]
  change bodyPostM Fence.wide 9 pG f263 _ _ _ (((W3.setCell ⟨w.heap.size,0,Ag⟩ (.slice A T.length c)).setCell ⟨w.heap.size+1,0,Ag⟩ (.int .i64 0)).setCell ⟨w.heap.size+2,0,Ag⟩ (.int .i64 0));generalize (((W3.setCell ⟨w.heap.size,0,Ag⟩ (.slice A T.length c)).setCell ⟨w.heap.size+1,0,Ag⟩ (.int .i64 0)).setCell ⟨w.heap.size+2,0,Ag⟩ (.int .i64 0))=W4 at *;refine bP [D] W4 D qz (λE hE=>by simp at hE;subst hE;exact⟨nL,(Fl E oz).trans Hk.out⟩) λW' j5=> ?_
  have z0:=(ah.below hz j5.below oz).cell 0;have z3:=(ah.below IC j5.below oz).cell 0;have z4:=(ah.below hz4 j5.below oz).cell 0;have hcell:∀br o (v:Bn),w2.heap.size<=br->W3.cell? ⟨br,o,Ag⟩=Ai v->W'.cell? ⟨br,o,Ag⟩=Ai v:=λbr o v I8 hv=>by
   have iO:W4.heap[br]?=W3.heap[br]?:=Fl br oz;have h4:W4.cell? ⟨br,o,Ag⟩=Ai v:=(World.cell?_of_block iO).trans hv;obtain⟨ob,ho,cC⟩:=cells_of_cell h4;exact(World.cell?_of_block ((j5.cells _ _ ho cC).trans ho.symm)).trans h4
  exact⟨.tuple #[.slice A T.length c,.int .i64 0,.int .i64 0],by simp[results,f263,go_sem,z0,z3,z4],L0 Hs.out Hlx.out ⟨A,c,rfl,λt ht=>by
   obtain⟨br,hA,I8,g0,g1⟩:=aQr.out t ht;exact⟨br,hA,hcell _ _ _ I8 g0,hcell _ _ _ I8 g1⟩⟩,Mj.trans (j5.below.mono oz)⟩
 case ret=>
  rintro D W3 hD hlx ⟨a,c,hc,q2,q3,q4,Mr⟩ hk;have KJ:D<W3.heap.size:=(gE hk).1;refine bP [D] W3 D qz (λE hE=>by simp at hE;subst hE;exact⟨nL,hk⟩) λW' j5=> ?_
  have z0:=(ah.below q2 j5.below oz).cell 0;have z3:=(ah.below q3 j5.below oz).cell 0;have z4:=(ah.below q4 j5.below oz).cell 0;exact⟨.tuple #[.slice Ag 0 0,.int .i64 a,.int .i64 c],by simp[results,f263,go_sem,z0,z3,z4],L6 Hs.out hlx ⟨a,c,hc,rfl⟩,Mr.trans (j5.below.mono oz)⟩
def dh(s:ByteArray):Bool:=
 if s.size>65536 then Bj else
 match ur s with
 | some [t]=>decide (t.1=1)&&(t.2.1.toList==s.toList)
 | _=>Bj
theorem om(s:ByteArray)(w:Al)(hL:ct w):CU 208 #[.string s] w (.bool (dh s)):=by
 have Hx:=lz (aMC s w hL);clear hL;go_enter func208,ntmps208;go_wp2_with fail;refine Hx.out.mono ?_;rintro e w1 ⟨hp,hb⟩;unfold pY at hp;have Hb:=lz hb;clear Hx hb;by_cases hs:s.size>65536
 .rw[if_pos hs]at hp
  subst hp;have Hw:=lz (show dh s=Bj by unfold dh;rw[if_pos hs]);clear hs;go_wp2;go_ret;exact⟨by rw[Hw.out];rfl,Hb.out⟩
 .rw[if_neg hs]at hp
  cases hlx:ur s with
  | none=>
   rw[hlx]at hp;obtain⟨a,c,hc,rfl⟩:=hp;have Hw:=lz (show dh s=Bj by unfold dh;rw[if_neg hs,hlx]);clear hs hlx;go_wp2;go_ret;exact⟨by rw[Hw.out];rfl,Hb.out⟩
  | some T=>
   rw[hlx]at hp;obtain⟨A,c,rfl,Vj⟩:=hp;by_cases hT:T.length=1
   .obtain⟨t,rfl⟩:∃t,T= [t]:=List.length_eq_one_iff.1 hT
    obtain⟨br,rfl,c0,c1⟩:=Vj t rfl;obtain⟨kd,tx,at_⟩:=t;dsimp only at c0 c1;have Hw:=lz (show dh s=(decide (kd=1)&&(tx.toList==s.toList))by unfold dh;rw[if_neg hs,hlx]);clear hs hlx Vj hT;by_cases hk:kd=1
    .subst hk
     go_wp2;go_ret;exact⟨by rw[Hw.out];rfl,Hb.out⟩
    .have hkb:(kd==1)=false:=by simpa using hk
     have hd:decide (kd=1)=false:=dF hk;rw[hd]at Hw;clear hd;go_wp2;go_ret;exact⟨by rw[Hw.out];rfl,Hb.out⟩
   .have Hw:=lz (show dh s=Bj by
     unfold dh;rw[if_neg hs,hlx]
     match T,hT with
     | [],_=>rfl
     | _ :: _ :: _,_=>rfl
     | [_],h=>exact absurd rfl h)
    have DL:((T.length:Int)==1)=false:=by simpa using(by omega:¬(T.length:Int)=1)
    clear hs hlx Vj;go_wp2;go_ret;exact⟨by rw[Hw.out];rfl,Hb.out⟩
def eqL{α:Type}[DecidableEq α](a b:List α):Bool:=decide (a=b)
theorem tI{α:Type}[DecidableEq α]{a b:List α}(h:a=b):eqL a b=true:=dT h
theorem JK{α:Type}[DecidableEq α]{a b:List α}(h:a≠b):eqL a b=false:=dF h
theorem SQ{α:Type}[DecidableEq α]{a b:List α}(h:((a.length:Int) !=b.length)=BR):eqL a b=false:=JK λe=>by rw[e]at h;simp at h
theorem SS{α:Type}[DecidableEq α]{a b:List α}(hl:a.length=b.length)(h:∀j (h1:j<a.length) (h2:j<b.length),a[j]=b[j]):eqL a b=true:=tI (List.ext_getElem hl h)
theorem YG{α:Type}[DecidableEq α]{a b:List α}{k:Nat}(h1:k<a.length)(h2:k<b.length)(h:a[k]≠b[k]):eqL a b=false:=JK λe=>h (by subst e;rfl)
def bs(l:List UInt8):ByteArray:=⟨l.toArray⟩

def CkB(w:Al)(g:Nat)(A:Option EK)(n c:Nat):Prop:=ah w g 94 #[.slice Ag 0 0,.slice Ag 0 0,.slice Ag 0 0,.slice Ag 0 0,.slice Ag 0 0,.slice Ag 0 0,.slice A n c,.slice Ag 0 0]
theorem CkB.cell{w:Al}{g:Nat}{A:Option EK}{n c:Nat}(h:CkB w g A n c)(i:Nat):w.cell? ⟨g,i,Ag⟩=(#[.slice Ag 0 0,.slice Ag 0 0,.slice Ag 0 0,.slice Ag 0 0,.slice Ag 0 0,.slice Ag 0 0,.slice A n c,.slice Ag 0 0]:Array Bn)[i]?:=ah.cell h i

theorem CX(g:Nat)(w:Al):ET pG 70 #[.pointer (Ai ⟨g,0,Ag⟩)] w λe w'=>e= .returned (.func (.func 151) #[] #[.pointer (Ai ⟨w.heap.size,0,Ag⟩)])/\w'=w.alloc (.cells #[.pointer (Ai ⟨g,0,Ag⟩)] 92):=by
 go_enter func70,ntmps70;go_wp2;go_ret;exact⟨rfl,rfl⟩
theorem Sr(g:Nat)(w:Al):ET pG 65 #[.pointer (Ai ⟨g,0,Ag⟩)] w λe w'=>e= .returned (.func (.func 143) #[] #[.pointer (Ai ⟨w.heap.size,0,Ag⟩)])/\w'=w.alloc (.cells #[.pointer (Ai ⟨g,0,Ag⟩)] 92):=by
 go_enter func65,ntmps65;go_wp2;go_ret;exact⟨rfl,rfl⟩



def seqB(a b:ByteArray):Bool:=a.toList==b.toList
def yt(R:List fC)(u:ByteArray):Bool:=R.any λx=>seqB x.c.unit u
theorem aJ6(Bu:Nat)(u:ByteArray)(x:fC)(w:Al)(hb:ah w Bu 9 #[.string u]):CU 96 #[x.val,.pointer (Ai ⟨Bu,0,Ag⟩)] w (.bool (seqB x.c.unit u)):=by
 have c0:=hb.cell 0;have hlt:=hb.lt;unfold seqB;clear hb;dsimp only[fC.val];go_enter func96,ntmps96;go_wp2;go_ret;exact⟨rfl,bN⟩
theorem aJ7(Bu:Nat)(u:ByteArray)(x:fC)(w:Al)(hb:ah w Bu 9 #[.string u]):CU 98 #[x.val,.pointer (Ai ⟨Bu,0,Ag⟩)] w (.bool (seqB x.c.unit u)):=by
 have c0:=hb.cell 0;have hlt:=hb.lt;unfold seqB;clear hb;dsimp only[fC.val];go_enter func98,ntmps98;go_wp2;go_ret;exact⟨rfl,bN⟩
structure ZN(w:Al)(g Br Bk B5 B6:Nat)(A:Option EK)(L:List fC)(c:Nat)(AR:Option EK)(R:List fC)(cR:Nat):Prop where
 k:ah w Bk 92 #[.pointer (Ai ⟨g,0,Ag⟩)]
 ck:CkB w g A L.length c
 rl:kr w w.heap.size A L
 br:ah w Br 28 #[.slice AR R.length cR]
 rr:kr w w.heap.size AR R
 b5:ah w B5 185 #[.func (.func 94) #[] #[.pointer (Ai ⟨Br,0,Ag⟩)]]
 b6:ah w B6 185 #[.func (.func 97) #[] #[.pointer (Ai ⟨Bk,0,Ag⟩)]]
 ll:L.length<=1000
 lr:R.length<=1000
section
variable {w w':Al} {g Br Bk B5 B6:Nat} {A:Option EK} {L:List fC} {c:Nat} {AR:Option EK} {R:List fC} {cR:Nat}
theorem ZN.below(h:ZN w g Br Bk B5 B6 A L c AR R cR)(hb:BD w.heap.size w w'):ZN w' g Br Bk B5 B6 A L c AR R cR:=
 ⟨h.k.below hb h.k.lt,ah.below h.ck hb (ah.lt h.ck),h.rl.below hb,h.br.below hb h.br.lt,h.rr.below hb,h.b5.below hb h.b5.lt,h.b6.below hb h.b6.lt,h.ll,h.lr⟩
def Yd(L R:List fC)(y:fC):Bool:=y.c.excl.all λu=>yt L u&& !yt R u
def SE(L R:List fC)(x y:fC):Bool:=seqB y.c.unit x.c.unit&& !Yd L R y
def iW(L R:List fC)(x:fC):Bool:=R.any λy=>SE L R x y
end
def Cy(L:List fC):Nat->Int->List fC->Option Bool
 | 0,_,_=>Ag
 | f+1,n,R=>if n=R.length then Ai (decide (R.length=0))else Cy L f R.length (R.filter (iW L R))
theorem Yf{L R:List fC}{f:Nat}{n:Int}{b:Bool}(h:Cy L f n R=Ai b)(hn:n=R.length):decide (R.length=0)=b:=by
 cases f with
 | zero=>cases h
 | succ f=>rw[Cy,if_pos hn]at h;exact Option.some.inj h
theorem UJ{L R:List fC}{f:Nat}{n:Int}{b:Bool}(h:Cy L f n R=Ai b)(hn:¬n=R.length):∃f',f=f'+1/\Cy L f' R.length (R.filter (iW L R))=Ai b:=by
 cases f with
 | zero=>cases h
 | succ f=>
  rw[Cy,if_neg hn]at h;exact⟨f,rfl,h⟩
theorem Yj{W:Al}{base c:Nat}{A:Option EK}{L:List fC}(h:W.ownsRow base 83 3 (.slice A L.length c) L.length (L.flatMap fC.cells))(hx:∀x∈L,x.rd W W.heap.size):kr W W.heap.size A L:=λhn=>by
 obtain⟨g,cap,hv,_,hlt⟩:=h.form hn;have hA:A=Ai ⟨g,0,Ag⟩:=by injection hv
 subst hA;refine⟨g,0,rfl,hlt,λi hi=> ?_⟩;obtain⟨q0,q1,q2⟩:=vV L i hi;have c0:=h.cells (g:=g) rfl _ _ q0;have c1:=h.cells (g:=g) rfl _ _ q1;have c2:=h.cells (g:=g) rfl _ _ q2;rw[eY]at c0 c1 c2;exact⟨by simpa using c0,by simpa using c1,by simpa using c2,hx _ (List.getElem_mem hi)⟩
theorem Yg{p:fC->Bool}{R:List fC}{k:Nat}(hk:k<R.length)(h:p R[k]=BR):(R.take (k+1)).filter p=(R.take k).filter p++ [R[k]]:=by
 rw[Dl hk,List.filter_append];simp[h]
theorem aB9{p:fC->Bool}{R:List fC}{k:Nat}(hk:k<R.length)(h:p R[k]=Bj):(R.take (k+1)).filter p=(R.take k).filter p:=by
 rw[Dl hk,List.filter_append];simp[h]
theorem Yh{p:fC->Bool}{R:List fC}{k:Nat}:((R.take k).filter p).length<=R.length:=nT (List.length_filter_le _ _) qo
def aJ8(a:Bn)(b:Option Bn):Nat:=match b with
 | some (.slice _ n _)=>2*n+(match a with | .int _ i=>if i=n then 0 else 1 | _=>0)
 | _=>0
theorem SG(k:IntKind)(i:Int)(A:Option EK)(n c:Nat):aJ8 (.int k i) (Ai (.slice A n c))=2*n+if i=n then 0 else 1:=rfl

structure Sl(α:Type) where
 a:Option EK
 c:Nat
 l:List α
abbrev Sl.val{α:Type}(s:Sl α):Value:= .slice s.a s.l.length s.c
theorem fV.dn{w w':Al}{B B':Nat}{A:Option EK}{l:List Int}(h:fV w B A l)(hB:B<=B')(hk:∀b o,b<B->w'.cell? ⟨b,o,Ag⟩=w.cell? ⟨b,o,Ag⟩):fV w' B' A l:=λhn=>by
 obtain⟨b,o,rfl,gD,hc⟩:=h hn;exact⟨b,o,rfl,oz,λi hi=>(hk b _ gD).trans (hc i hi)⟩
theorem fV.below{w w':Al}{A:Option EK}{l:List Int}(h:fV w w.heap.size A l)(hb:BD w.heap.size w w'):fV w' w'.heap.size A l:=h.dn hb.size (cZ hb)
theorem fV.more{w:Al}{B B':Nat}{A:Option EK}{l:List Int}(h:fV w B A l)(hB:B<=B'):fV w B' A l:=h.dn hB λ_ _ _=>rfl
structure gu where
 op:Int
 a:Int
 b:Int
 d:Int
abbrev gu.val(x:gu):Value:= .agg #[.int .u8 x.op,.int .i64 x.a,.int .i64 x.b,.int .i64 x.d]
structure gu.rd(w:Al)(B:Nat)(x:gu):Prop where
 op0:0<=x.op/\x.op<=255
theorem gu.rd.dn{w w':Al}{B B':Nat}{x:gu}(h:x.rd w B)(hB:B<=B')(hk:∀b o,b<B->w'.cell? ⟨b,o,Ag⟩=w.cell? ⟨b,o,Ag⟩):x.rd w' B':=
 ⟨h.op0⟩
theorem gu.rd.below{w w':Al}{x:gu}(h:x.rd w w.heap.size)(hb:BD w.heap.size w w'):x.rd w' w'.heap.size:=h.dn hb.size (cZ hb)
theorem gu.rd.more{w:Al}{B B':Nat}{x:gu}(h:x.rd w B)(hB:B<=B'):x.rd w B':=h.dn hB λ_ _ _=>rfl
def ku(w:Al)(B:Nat)(A:Option EK)(l:List gu):Prop:=
 0<l.length->∃b o,A=Ai ⟨b,o,Ag⟩/\b<B/\∀i (h:i<l.length),w.cell? ⟨b,o+i*4,Ag⟩=Ai (.int .u8 l[i].op)/\w.cell? ⟨b,o+i*4+1,Ag⟩=Ai (.int .i64 l[i].a)/\w.cell? ⟨b,o+i*4+2,Ag⟩=Ai (.int .i64 l[i].b)/\w.cell? ⟨b,o+i*4+3,Ag⟩=Ai (.int .i64 l[i].d)/\l[i].rd w B
theorem ku.dn{w w':Al}{B B':Nat}{A:Option EK}{l:List gu}(h:ku w B A l)(hB:B<=B')(hk:∀b o,b<B->w'.cell? ⟨b,o,Ag⟩=w.cell? ⟨b,o,Ag⟩):ku w' B' A l:=λhn=>by
 obtain⟨b,o,rfl,gD,hc⟩:=h hn;refine⟨b,o,rfl,oz,λi hi=> ?_⟩;obtain⟨c0,c1,c2,c3,hr⟩:=hc i hi;exact⟨(hk b _ gD).trans c0,(hk b _ gD).trans c1,(hk b _ gD).trans c2,(hk b _ gD).trans c3,hr.dn hB hk⟩
theorem ku.below{w w':Al}{A:Option EK}{l:List gu}(h:ku w w.heap.size A l)(hb:BD w.heap.size w w'):ku w' w'.heap.size A l:=h.dn hb.size (cZ hb)
theorem ku.keep{w w':Al}{B:Nat}{A:Option EK}{l:List gu}(h:ku w B A l)(hb:BD B w w'):ku w' B A l:=h.dn nL (cZ hb)
theorem ku.more{w:Al}{B B':Nat}{A:Option EK}{l:List gu}(h:ku w B A l)(hB:B<=B'):ku w B' A l:=h.dn hB λ_ _ _=>rfl
def CK(g:Nat)(lb:Array Bn)(p:gu->Bool)(l:List gu)(w:Al):Prop:=
 ∀(W:Al) (r:gu),r∈l->BD w.heap.size w W->r.rd W W.heap.size->CU g (#[r.val]++lb) W (.bool (p r))
structure bw where
 m:ByteArray
 p:ByteArray
 o:ByteArray
abbrev bw.val(x:bw):Value:= .agg #[.string x.m,.string x.p,.string x.o]
def jo(w:Al)(B:Nat)(A:Option EK)(l:List bw):Prop:=
 0<l.length->∃b o,A=Ai ⟨b,o,Ag⟩/\b<B/\∀i (h:i<l.length),w.cell? ⟨b,o+i*3,Ag⟩=Ai (.string l[i].m)/\w.cell? ⟨b,o+i*3+1,Ag⟩=Ai (.string l[i].p)/\w.cell? ⟨b,o+i*3+2,Ag⟩=Ai (.string l[i].o)
theorem jo.dn{w w':Al}{B B':Nat}{A:Option EK}{l:List bw}(h:jo w B A l)(hB:B<=B')(hk:∀b o,b<B->w'.cell? ⟨b,o,Ag⟩=w.cell? ⟨b,o,Ag⟩):jo w' B' A l:=λhn=>by
 obtain⟨b,o,rfl,gD,hc⟩:=h hn;refine⟨b,o,rfl,oz,λi hi=> ?_⟩;obtain⟨c0,c1,c2⟩:=hc i hi;exact⟨(hk b _ gD).trans c0,(hk b _ gD).trans c1,(hk b _ gD).trans c2⟩
theorem jo.below{w w':Al}{A:Option EK}{l:List bw}(h:jo w w.heap.size A l)(hb:BD w.heap.size w w'):jo w' w'.heap.size A l:=h.dn hb.size (cZ hb)
theorem jo.keep{w w':Al}{B:Nat}{A:Option EK}{l:List bw}(h:jo w B A l)(hb:BD B w w'):jo w' B A l:=h.dn nL (cZ hb)
theorem jo.more{w:Al}{B B':Nat}{A:Option EK}{l:List bw}(h:jo w B A l)(hB:B<=B'):jo w B' A l:=h.dn hB λ_ _ _=>rfl
def J7(g:Nat)(lb:Array Bn)(p:bw->Bool)(l:List bw)(w:Al):Prop:=
 ∀(W:Al) (r:bw),r∈l->BD w.heap.size w W->CU g (#[r.val]++lb) W (.bool (p r))
structure aM where
 nm:ByteArray
 kd:Int
 out:Bool
 sz:Int
 dp:Int
 rf:Int
abbrev aM.val(x:aM):Value:= .agg #[.string x.nm,.int .u8 x.kd,.bool x.out,.int .i64 x.sz,.int .i64 x.dp,.int .i64 x.rf]
structure aM.rd(w:Al)(B:Nat)(x:aM):Prop where
 kd0:0<=x.kd/\x.kd<=255
theorem aM.rd.dn{w w':Al}{B B':Nat}{x:aM}(h:x.rd w B)(hB:B<=B')(hk:∀b o,b<B->w'.cell? ⟨b,o,Ag⟩=w.cell? ⟨b,o,Ag⟩):x.rd w' B':=
 ⟨h.kd0⟩
theorem aM.rd.below{w w':Al}{x:aM}(h:x.rd w w.heap.size)(hb:BD w.heap.size w w'):x.rd w' w'.heap.size:=h.dn hb.size (cZ hb)
theorem aM.rd.more{w:Al}{B B':Nat}{x:aM}(h:x.rd w B)(hB:B<=B'):x.rd w B':=h.dn hB λ_ _ _=>rfl
def fu(w:Al)(B:Nat)(A:Option EK)(l:List aM):Prop:=
 0<l.length->∃b o,A=Ai ⟨b,o,Ag⟩/\b<B/\∀i (h:i<l.length),w.cell? ⟨b,o+i*6,Ag⟩=Ai (.string l[i].nm)/\w.cell? ⟨b,o+i*6+1,Ag⟩=Ai (.int .u8 l[i].kd)/\w.cell? ⟨b,o+i*6+2,Ag⟩=Ai (.bool l[i].out)/\w.cell? ⟨b,o+i*6+3,Ag⟩=Ai (.int .i64 l[i].sz)/\w.cell? ⟨b,o+i*6+4,Ag⟩=Ai (.int .i64 l[i].dp)/\w.cell? ⟨b,o+i*6+5,Ag⟩=Ai (.int .i64 l[i].rf)/\l[i].rd w B
theorem fu.dn{w w':Al}{B B':Nat}{A:Option EK}{l:List aM}(h:fu w B A l)(hB:B<=B')(hk:∀b o,b<B->w'.cell? ⟨b,o,Ag⟩=w.cell? ⟨b,o,Ag⟩):fu w' B' A l:=λhn=>by
 obtain⟨b,o,rfl,gD,hc⟩:=h hn;refine⟨b,o,rfl,oz,λi hi=> ?_⟩;obtain⟨c0,c1,c2,c3,c4,c5,hr⟩:=hc i hi;exact⟨(hk b _ gD).trans c0,(hk b _ gD).trans c1,(hk b _ gD).trans c2,(hk b _ gD).trans c3,(hk b _ gD).trans c4,(hk b _ gD).trans c5,hr.dn hB hk⟩
theorem fu.below{w w':Al}{A:Option EK}{l:List aM}(h:fu w w.heap.size A l)(hb:BD w.heap.size w w'):fu w' w'.heap.size A l:=h.dn hb.size (cZ hb)
theorem fu.keep{w w':Al}{B:Nat}{A:Option EK}{l:List aM}(h:fu w B A l)(hb:BD B w w'):fu w' B A l:=h.dn nL (cZ hb)
theorem fu.more{w:Al}{B B':Nat}{A:Option EK}{l:List aM}(h:fu w B A l)(hB:B<=B'):fu w B' A l:=h.dn hB λ_ _ _=>rfl
def wY(g:Nat)(lb:Array Bn)(p:aM->Bool)(l:List aM)(w:Al):Prop:=
 ∀(W:Al) (r:aM),r∈l->BD w.heap.size w W->r.rd W W.heap.size->CU g (#[r.val]++lb) W (.bool (p r))
structure cT where
 nm:ByteArray
 pr:Int
 pe:Int
 li:Int
 code:Sl gu
abbrev cT.val(x:cT):Value:= .agg #[.string x.nm,.int .i64 x.pr,.int .i64 x.pe,.int .i64 x.li,x.code.val]
structure cT.rd(w:Al)(B:Nat)(x:cT):Prop where
 WB:x.code.l.length<=x.code.c
 WC:x.code.c<=EW
 code:ku w B x.code.a x.code.l
theorem cT.rd.dn{w w':Al}{B B':Nat}{x:cT}(h:x.rd w B)(hB:B<=B')(hk:∀b o,b<B->w'.cell? ⟨b,o,Ag⟩=w.cell? ⟨b,o,Ag⟩):x.rd w' B':=
 ⟨h.WB,h.WC,h.code.dn hB hk⟩
theorem cT.rd.below{w w':Al}{x:cT}(h:x.rd w w.heap.size)(hb:BD w.heap.size w w'):x.rd w' w'.heap.size:=h.dn hb.size (cZ hb)
theorem cT.rd.more{w:Al}{B B':Nat}{x:cT}(h:x.rd w B)(hB:B<=B'):x.rd w B':=h.dn hB λ_ _ _=>rfl
def gI(w:Al)(B:Nat)(A:Option EK)(l:List cT):Prop:=
 0<l.length->∃b o,A=Ai ⟨b,o,Ag⟩/\b<B/\∀i (h:i<l.length),w.cell? ⟨b,o+i*5,Ag⟩=Ai (.string l[i].nm)/\w.cell? ⟨b,o+i*5+1,Ag⟩=Ai (.int .i64 l[i].pr)/\w.cell? ⟨b,o+i*5+2,Ag⟩=Ai (.int .i64 l[i].pe)/\w.cell? ⟨b,o+i*5+3,Ag⟩=Ai (.int .i64 l[i].li)/\w.cell? ⟨b,o+i*5+4,Ag⟩=Ai (l[i].code.val)/\l[i].rd w B
theorem gI.dn{w w':Al}{B B':Nat}{A:Option EK}{l:List cT}(h:gI w B A l)(hB:B<=B')(hk:∀b o,b<B->w'.cell? ⟨b,o,Ag⟩=w.cell? ⟨b,o,Ag⟩):gI w' B' A l:=λhn=>by
 obtain⟨b,o,rfl,gD,hc⟩:=h hn;refine⟨b,o,rfl,oz,λi hi=> ?_⟩;obtain⟨c0,c1,c2,c3,c4,hr⟩:=hc i hi;exact⟨(hk b _ gD).trans c0,(hk b _ gD).trans c1,(hk b _ gD).trans c2,(hk b _ gD).trans c3,(hk b _ gD).trans c4,hr.dn hB hk⟩
theorem gI.below{w w':Al}{A:Option EK}{l:List cT}(h:gI w w.heap.size A l)(hb:BD w.heap.size w w'):gI w' w'.heap.size A l:=h.dn hb.size (cZ hb)
theorem gI.keep{w w':Al}{B:Nat}{A:Option EK}{l:List cT}(h:gI w B A l)(hb:BD B w w'):gI w' B A l:=h.dn nL (cZ hb)
theorem gI.more{w:Al}{B B':Nat}{A:Option EK}{l:List cT}(h:gI w B A l)(hB:B<=B'):gI w B' A l:=h.dn hB λ_ _ _=>rfl
def wZ(g:Nat)(lb:Array Bn)(p:cT->Bool)(l:List cT)(w:Al):Prop:=
 ∀(W:Al) (r:cT),r∈l->BD w.heap.size w W->r.rd W W.heap.size->CU g (#[r.val]++lb) W (.bool (p r))
structure aC where
 nm:ByteArray
 pe:Int
 le:Int
 mem:Int
 aG:Sl Int
 ev:Int
 bo:Int
 aX:Sl Int
 aq:Sl aM
 procs:Sl cT
abbrev aC.val(x:aC):Value:= .agg #[.string x.nm,.int .i64 x.pe,.int .i64 x.le,.int .i64 x.mem,x.aG.val,.int .i64 x.ev,.int .i64 x.bo,x.aX.val,x.aq.val,x.procs.val]
structure aC.rd(w:Al)(B:Nat)(x:aC):Prop where
 Ks:x.aG.l.length<=x.aG.c
 Kt:x.aG.c<=EW
 aG:fV w B x.aG.a x.aG.l
 R7:x.aX.l.length<=x.aX.c
 R8:x.aX.c<=EW
 aX:fV w B x.aX.a x.aX.l
 DX:x.aq.l.length<=x.aq.c
 DY:x.aq.c<=EW
 aq:fu w B x.aq.a x.aq.l
 zG:x.procs.l.length<=x.procs.c
 zH:x.procs.c<=EW
 procs:gI w B x.procs.a x.procs.l
theorem aC.rd.dn{w w':Al}{B B':Nat}{x:aC}(h:x.rd w B)(hB:B<=B')(hk:∀b o,b<B->w'.cell? ⟨b,o,Ag⟩=w.cell? ⟨b,o,Ag⟩):x.rd w' B':=
 ⟨h.Ks,h.Kt,h.aG.dn hB hk,h.R7,h.R8,h.aX.dn hB hk,h.DX,h.DY,h.aq.dn hB hk,h.zG,h.zH,h.procs.dn hB hk⟩
theorem aC.rd.below{w w':Al}{x:aC}(h:x.rd w w.heap.size)(hb:BD w.heap.size w w'):x.rd w' w'.heap.size:=h.dn hb.size (cZ hb)
theorem aC.rd.more{w:Al}{B B':Nat}{x:aC}(h:x.rd w B)(hB:B<=B'):x.rd w B':=h.dn hB λ_ _ _=>rfl
def fW(w:Al)(B:Nat)(A:Option EK)(l:List aC):Prop:=
 0<l.length->∃b o,A=Ai ⟨b,o,Ag⟩/\b<B/\∀i (h:i<l.length),w.cell? ⟨b,o+i*10,Ag⟩=Ai (.string l[i].nm)/\w.cell? ⟨b,o+i*10+1,Ag⟩=Ai (.int .i64 l[i].pe)/\w.cell? ⟨b,o+i*10+2,Ag⟩=Ai (.int .i64 l[i].le)/\w.cell? ⟨b,o+i*10+3,Ag⟩=Ai (.int .i64 l[i].mem)/\w.cell? ⟨b,o+i*10+4,Ag⟩=Ai (l[i].aG.val)/\w.cell? ⟨b,o+i*10+5,Ag⟩=Ai (.int .i64 l[i].ev)/\w.cell? ⟨b,o+i*10+6,Ag⟩=Ai (.int .i64 l[i].bo)/\w.cell? ⟨b,o+i*10+7,Ag⟩=Ai (l[i].aX.val)/\w.cell? ⟨b,o+i*10+8,Ag⟩=Ai (l[i].aq.val)/\w.cell? ⟨b,o+i*10+9,Ag⟩=Ai (l[i].procs.val)/\l[i].rd w B
theorem fW.dn{w w':Al}{B B':Nat}{A:Option EK}{l:List aC}(h:fW w B A l)(hB:B<=B')(hk:∀b o,b<B->w'.cell? ⟨b,o,Ag⟩=w.cell? ⟨b,o,Ag⟩):fW w' B' A l:=λhn=>by
 obtain⟨b,o,rfl,gD,hc⟩:=h hn;refine⟨b,o,rfl,oz,λi hi=> ?_⟩;obtain⟨c0,c1,c2,c3,c4,c5,c6,c7,c8,c9,hr⟩:=hc i hi;exact⟨(hk b _ gD).trans c0,(hk b _ gD).trans c1,(hk b _ gD).trans c2,(hk b _ gD).trans c3,(hk b _ gD).trans c4,(hk b _ gD).trans c5,(hk b _ gD).trans c6,(hk b _ gD).trans c7,(hk b _ gD).trans c8,(hk b _ gD).trans c9,hr.dn hB hk⟩
theorem fW.below{w w':Al}{A:Option EK}{l:List aC}(h:fW w w.heap.size A l)(hb:BD w.heap.size w w'):fW w' w'.heap.size A l:=h.dn hb.size (cZ hb)
theorem fW.keep{w w':Al}{B:Nat}{A:Option EK}{l:List aC}(h:fW w B A l)(hb:BD B w w'):fW w' B A l:=h.dn nL (cZ hb)
theorem fW.more{w:Al}{B B':Nat}{A:Option EK}{l:List aC}(h:fW w B A l)(hB:B<=B'):fW w B' A l:=h.dn hB λ_ _ _=>rfl
def xg(g:Nat)(lb:Array Bn)(p:aC->Bool)(l:List aC)(w:Al):Prop:=
 ∀(W:Al) (r:aC),r∈l->BD w.heap.size w W->r.rd W W.heap.size->CU g (#[r.val]++lb) W (.bool (p r))
structure bT where
 nm:ByteArray
 mem:Int
 fr:Int
 parts:Sl aC
abbrev bT.val(x:bT):Value:= .agg #[.string x.nm,.int .i64 x.mem,.int .i64 x.fr,x.parts.val]
structure bT.rd(w:Al)(B:Nat)(x:bT):Prop where
 zI:x.parts.l.length<=x.parts.c
 zJ:x.parts.c<=EW
 parts:fW w B x.parts.a x.parts.l
theorem bT.rd.dn{w w':Al}{B B':Nat}{x:bT}(h:x.rd w B)(hB:B<=B')(hk:∀b o,b<B->w'.cell? ⟨b,o,Ag⟩=w.cell? ⟨b,o,Ag⟩):x.rd w' B':=
 ⟨h.zI,h.zJ,h.parts.dn hB hk⟩
theorem bT.rd.below{w w':Al}{x:bT}(h:x.rd w w.heap.size)(hb:BD w.heap.size w w'):x.rd w' w'.heap.size:=h.dn hb.size (cZ hb)
theorem bT.rd.more{w:Al}{B B':Nat}{x:bT}(h:x.rd w B)(hB:B<=B'):x.rd w B':=h.dn hB λ_ _ _=>rfl
def dK(w:Al)(B:Nat)(A:Option EK)(l:List bT):Prop:=
 0<l.length->∃b o,A=Ai ⟨b,o,Ag⟩/\b<B/\∀i (h:i<l.length),w.cell? ⟨b,o+i*4,Ag⟩=Ai (.string l[i].nm)/\w.cell? ⟨b,o+i*4+1,Ag⟩=Ai (.int .i64 l[i].mem)/\w.cell? ⟨b,o+i*4+2,Ag⟩=Ai (.int .i64 l[i].fr)/\w.cell? ⟨b,o+i*4+3,Ag⟩=Ai (l[i].parts.val)/\l[i].rd w B
theorem dK.dn{w w':Al}{B B':Nat}{A:Option EK}{l:List bT}(h:dK w B A l)(hB:B<=B')(hk:∀b o,b<B->w'.cell? ⟨b,o,Ag⟩=w.cell? ⟨b,o,Ag⟩):dK w' B' A l:=λhn=>by
 obtain⟨b,o,rfl,gD,hc⟩:=h hn;refine⟨b,o,rfl,oz,λi hi=> ?_⟩;obtain⟨c0,c1,c2,c3,hr⟩:=hc i hi;exact⟨(hk b _ gD).trans c0,(hk b _ gD).trans c1,(hk b _ gD).trans c2,(hk b _ gD).trans c3,hr.dn hB hk⟩
theorem dK.below{w w':Al}{A:Option EK}{l:List bT}(h:dK w w.heap.size A l)(hb:BD w.heap.size w w'):dK w' w'.heap.size A l:=h.dn hb.size (cZ hb)
theorem dK.keep{w w':Al}{B:Nat}{A:Option EK}{l:List bT}(h:dK w B A l)(hb:BD B w w'):dK w' B A l:=h.dn nL (cZ hb)
theorem dK.more{w:Al}{B B':Nat}{A:Option EK}{l:List bT}(h:dK w B A l)(hB:B<=B'):dK w B' A l:=h.dn hB λ_ _ _=>rfl
def qX(g:Nat)(lb:Array Bn)(p:bT->Bool)(l:List bT)(w:Al):Prop:=
 ∀(W:Al) (r:bT),r∈l->BD w.heap.size w W->r.rd W W.heap.size->CU g (#[r.val]++lb) W (.bool (p r))
structure gq where
 src:bw
 dst:Sl bw
abbrev gq.val(x:gq):Value:= .agg #[.string x.src.m,.string x.src.p,.string x.src.o,x.dst.val]
structure gq.rd(w:Al)(B:Nat)(x:gq):Prop where
 P5:x.dst.l.length<=x.dst.c
 P6:x.dst.c<=EW
 dst:jo w B x.dst.a x.dst.l
theorem gq.rd.dn{w w':Al}{B B':Nat}{x:gq}(h:x.rd w B)(hB:B<=B')(hk:∀b o,b<B->w'.cell? ⟨b,o,Ag⟩=w.cell? ⟨b,o,Ag⟩):x.rd w' B':=
 ⟨h.P5,h.P6,h.dst.dn hB hk⟩
theorem gq.rd.below{w w':Al}{x:gq}(h:x.rd w w.heap.size)(hb:BD w.heap.size w w'):x.rd w' w'.heap.size:=h.dn hb.size (cZ hb)
theorem gq.rd.more{w:Al}{B B':Nat}{x:gq}(h:x.rd w B)(hB:B<=B'):x.rd w B':=h.dn hB λ_ _ _=>rfl
def dY(w:Al)(B:Nat)(A:Option EK)(l:List gq):Prop:=
 0<l.length->∃b o,A=Ai ⟨b,o,Ag⟩/\b<B/\∀i (h:i<l.length),w.cell? ⟨b,o+i*4,Ag⟩=Ai (.string l[i].src.m)/\w.cell? ⟨b,o+i*4+1,Ag⟩=Ai (.string l[i].src.p)/\w.cell? ⟨b,o+i*4+2,Ag⟩=Ai (.string l[i].src.o)/\w.cell? ⟨b,o+i*4+3,Ag⟩=Ai (l[i].dst.val)/\l[i].rd w B
theorem dY.dn{w w':Al}{B B':Nat}{A:Option EK}{l:List gq}(h:dY w B A l)(hB:B<=B')(hk:∀b o,b<B->w'.cell? ⟨b,o,Ag⟩=w.cell? ⟨b,o,Ag⟩):dY w' B' A l:=λhn=>by
 obtain⟨b,o,rfl,gD,hc⟩:=h hn;refine⟨b,o,rfl,oz,λi hi=> ?_⟩;obtain⟨c0,c1,c2,c3,hr⟩:=hc i hi;exact⟨(hk b _ gD).trans c0,(hk b _ gD).trans c1,(hk b _ gD).trans c2,(hk b _ gD).trans c3,hr.dn hB hk⟩
theorem dY.below{w w':Al}{A:Option EK}{l:List gq}(h:dY w w.heap.size A l)(hb:BD w.heap.size w w'):dY w' w'.heap.size A l:=h.dn hb.size (cZ hb)
theorem dY.keep{w w':Al}{B:Nat}{A:Option EK}{l:List gq}(h:dY w B A l)(hb:BD B w w'):dY w' B A l:=h.dn nL (cZ hb)
theorem dY.more{w:Al}{B B':Nat}{A:Option EK}{l:List gq}(h:dY w B A l)(hB:B<=B'):dY w B' A l:=h.dn hB λ_ _ _=>rfl
def sR(g:Nat)(lb:Array Bn)(p:gq->Bool)(l:List gq)(w:Al):Prop:=
 ∀(W:Al) (r:gq),r∈l->BD w.heap.size w W->r.rd W W.heap.size->CU g (#[r.val]++lb) W (.bool (p r))
structure iI where
 nm:ByteArray
 net:Int
 dl:Int
 st:Int
abbrev iI.val(x:iI):Value:= .agg #[.string x.nm,.int .i64 x.net,.int .i64 x.dl,.int .i64 x.st]
def dL(w:Al)(B:Nat)(A:Option EK)(l:List iI):Prop:=
 0<l.length->∃b o,A=Ai ⟨b,o,Ag⟩/\b<B/\∀i (h:i<l.length),w.cell? ⟨b,o+i*4,Ag⟩=Ai (.string l[i].nm)/\w.cell? ⟨b,o+i*4+1,Ag⟩=Ai (.int .i64 l[i].net)/\w.cell? ⟨b,o+i*4+2,Ag⟩=Ai (.int .i64 l[i].dl)/\w.cell? ⟨b,o+i*4+3,Ag⟩=Ai (.int .i64 l[i].st)
theorem dL.dn{w w':Al}{B B':Nat}{A:Option EK}{l:List iI}(h:dL w B A l)(hB:B<=B')(hk:∀b o,b<B->w'.cell? ⟨b,o,Ag⟩=w.cell? ⟨b,o,Ag⟩):dL w' B' A l:=λhn=>by
 obtain⟨b,o,rfl,gD,hc⟩:=h hn;refine⟨b,o,rfl,oz,λi hi=> ?_⟩;obtain⟨c0,c1,c2,c3⟩:=hc i hi;exact⟨(hk b _ gD).trans c0,(hk b _ gD).trans c1,(hk b _ gD).trans c2,(hk b _ gD).trans c3⟩
theorem dL.below{w w':Al}{A:Option EK}{l:List iI}(h:dL w w.heap.size A l)(hb:BD w.heap.size w w'):dL w' w'.heap.size A l:=h.dn hb.size (cZ hb)
theorem dL.keep{w w':Al}{B:Nat}{A:Option EK}{l:List iI}(h:dL w B A l)(hb:BD B w w'):dL w' B A l:=h.dn nL (cZ hb)
theorem dL.more{w:Al}{B B':Nat}{A:Option EK}{l:List iI}(h:dL w B A l)(hB:B<=B'):dL w B' A l:=h.dn hB λ_ _ _=>rfl
def qY(g:Nat)(lb:Array Bn)(p:iI->Bool)(l:List iI)(w:Al):Prop:=
 ∀(W:Al) (r:iI),r∈l->BD w.heap.size w W->CU g (#[r.val]++lb) W (.bool (p r))
structure aO where
 a:ByteArray
 b:ByteArray
 net:Int
 slow:Int
abbrev aO.val(x:aO):Value:= .agg #[.string x.a,.string x.b,.int .i64 x.net,.int .i64 x.slow]
def fZ(w:Al)(B:Nat)(A:Option EK)(l:List aO):Prop:=
 0<l.length->∃b o,A=Ai ⟨b,o,Ag⟩/\b<B/\∀i (h:i<l.length),w.cell? ⟨b,o+i*4,Ag⟩=Ai (.string l[i].a)/\w.cell? ⟨b,o+i*4+1,Ag⟩=Ai (.string l[i].b)/\w.cell? ⟨b,o+i*4+2,Ag⟩=Ai (.int .i64 l[i].net)/\w.cell? ⟨b,o+i*4+3,Ag⟩=Ai (.int .i64 l[i].slow)
theorem fZ.dn{w w':Al}{B B':Nat}{A:Option EK}{l:List aO}(h:fZ w B A l)(hB:B<=B')(hk:∀b o,b<B->w'.cell? ⟨b,o,Ag⟩=w.cell? ⟨b,o,Ag⟩):fZ w' B' A l:=λhn=>by
 obtain⟨b,o,rfl,gD,hc⟩:=h hn;refine⟨b,o,rfl,oz,λi hi=> ?_⟩;obtain⟨c0,c1,c2,c3⟩:=hc i hi;exact⟨(hk b _ gD).trans c0,(hk b _ gD).trans c1,(hk b _ gD).trans c2,(hk b _ gD).trans c3⟩
theorem fZ.below{w w':Al}{A:Option EK}{l:List aO}(h:fZ w w.heap.size A l)(hb:BD w.heap.size w w'):fZ w' w'.heap.size A l:=h.dn hb.size (cZ hb)
theorem fZ.keep{w w':Al}{B:Nat}{A:Option EK}{l:List aO}(h:fZ w B A l)(hb:BD B w w'):fZ w' B A l:=h.dn nL (cZ hb)
theorem fZ.more{w:Al}{B B':Nat}{A:Option EK}{l:List aO}(h:fZ w B A l)(hB:B<=B'):fZ w B' A l:=h.dn hB λ_ _ _=>rfl
def xu(g:Nat)(lb:Array Bn)(p:aO->Bool)(l:List aO)(w:Al):Prop:=
 ∀(W:Al) (r:aO),r∈l->BD w.heap.size w W->CU g (#[r.val]++lb) W (.bool (p r))
structure fU where
 nm:ByteArray
 src:bw
 lQ:Int
 mx:Int
 dst:Sl bw
abbrev fU.val(x:fU):Value:= .agg #[.string x.nm,.string x.src.m,.string x.src.p,.string x.src.o,.int .i64 x.lQ,.int .i64 x.mx,x.dst.val]
structure fU.rd(w:Al)(B:Nat)(x:fU):Prop where
 P5:x.dst.l.length<=x.dst.c
 P6:x.dst.c<=EW
 dst:jo w B x.dst.a x.dst.l
theorem fU.rd.dn{w w':Al}{B B':Nat}{x:fU}(h:x.rd w B)(hB:B<=B')(hk:∀b o,b<B->w'.cell? ⟨b,o,Ag⟩=w.cell? ⟨b,o,Ag⟩):x.rd w' B':=
 ⟨h.P5,h.P6,h.dst.dn hB hk⟩
theorem fU.rd.below{w w':Al}{x:fU}(h:x.rd w w.heap.size)(hb:BD w.heap.size w w'):x.rd w' w'.heap.size:=h.dn hb.size (cZ hb)
theorem fU.rd.more{w:Al}{B B':Nat}{x:fU}(h:x.rd w B)(hB:B<=B'):x.rd w B':=h.dn hB λ_ _ _=>rfl
def mV(w:Al)(B:Nat)(A:Option EK)(l:List fU):Prop:=
 0<l.length->∃b o,A=Ai ⟨b,o,Ag⟩/\b<B/\∀i (h:i<l.length),w.cell? ⟨b,o+i*7,Ag⟩=Ai (.string l[i].nm)/\w.cell? ⟨b,o+i*7+1,Ag⟩=Ai (.string l[i].src.m)/\w.cell? ⟨b,o+i*7+2,Ag⟩=Ai (.string l[i].src.p)/\w.cell? ⟨b,o+i*7+3,Ag⟩=Ai (.string l[i].src.o)/\w.cell? ⟨b,o+i*7+4,Ag⟩=Ai (.int .i64 l[i].lQ)/\w.cell? ⟨b,o+i*7+5,Ag⟩=Ai (.int .i64 l[i].mx)/\w.cell? ⟨b,o+i*7+6,Ag⟩=Ai (l[i].dst.val)/\l[i].rd w B
theorem mV.dn{w w':Al}{B B':Nat}{A:Option EK}{l:List fU}(h:mV w B A l)(hB:B<=B')(hk:∀b o,b<B->w'.cell? ⟨b,o,Ag⟩=w.cell? ⟨b,o,Ag⟩):mV w' B' A l:=λhn=>by
 obtain⟨b,o,rfl,gD,hc⟩:=h hn;refine⟨b,o,rfl,oz,λi hi=> ?_⟩;obtain⟨c0,c1,c2,c3,c4,c5,c6,hr⟩:=hc i hi;exact⟨(hk b _ gD).trans c0,(hk b _ gD).trans c1,(hk b _ gD).trans c2,(hk b _ gD).trans c3,(hk b _ gD).trans c4,(hk b _ gD).trans c5,(hk b _ gD).trans c6,hr.dn hB hk⟩
theorem mV.below{w w':Al}{A:Option EK}{l:List fU}(h:mV w w.heap.size A l)(hb:BD w.heap.size w w'):mV w' w'.heap.size A l:=h.dn hb.size (cZ hb)
theorem mV.keep{w w':Al}{B:Nat}{A:Option EK}{l:List fU}(h:mV w B A l)(hb:BD B w w'):mV w' B A l:=h.dn nL (cZ hb)
theorem mV.more{w:Al}{B B':Nat}{A:Option EK}{l:List fU}(h:mV w B A l)(hB:B<=B'):mV w B' A l:=h.dn hB λ_ _ _=>rfl
def J9(g:Nat)(lb:Array Bn)(p:fU->Bool)(l:List fU)(w:Al):Prop:=
 ∀(W:Al) (r:fU),r∈l->BD w.heap.size w W->r.rd W W.heap.size->CU g (#[r.val]++lb) W (.bool (p r))
structure iK where
 m:ByteArray
 p:ByteArray
 yV:Int
 lv:Int
 dd:Int
abbrev iK.val(x:iK):Value:= .agg #[.string x.m,.string x.p,.int .u8 x.yV,.int .u8 x.lv,.int .u8 x.dd]
structure iK.rd(w:Al)(B:Nat)(x:iK):Prop where
 aEl:0<=x.yV/\x.yV<=255
 lv0:0<=x.lv/\x.lv<=255
 dd0:0<=x.dd/\x.dd<=255
theorem iK.rd.dn{w w':Al}{B B':Nat}{x:iK}(h:x.rd w B)(hB:B<=B')(hk:∀b o,b<B->w'.cell? ⟨b,o,Ag⟩=w.cell? ⟨b,o,Ag⟩):x.rd w' B':=
 ⟨h.aEl,h.lv0,h.dd0⟩
theorem iK.rd.below{w w':Al}{x:iK}(h:x.rd w w.heap.size)(hb:BD w.heap.size w w'):x.rd w' w'.heap.size:=h.dn hb.size (cZ hb)
theorem iK.rd.more{w:Al}{B B':Nat}{x:iK}(h:x.rd w B)(hB:B<=B'):x.rd w B':=h.dn hB λ_ _ _=>rfl
def fA(w:Al)(B:Nat)(A:Option EK)(l:List iK):Prop:=
 0<l.length->∃b o,A=Ai ⟨b,o,Ag⟩/\b<B/\∀i (h:i<l.length),w.cell? ⟨b,o+i*5,Ag⟩=Ai (.string l[i].m)/\w.cell? ⟨b,o+i*5+1,Ag⟩=Ai (.string l[i].p)/\w.cell? ⟨b,o+i*5+2,Ag⟩=Ai (.int .u8 l[i].yV)/\w.cell? ⟨b,o+i*5+3,Ag⟩=Ai (.int .u8 l[i].lv)/\w.cell? ⟨b,o+i*5+4,Ag⟩=Ai (.int .u8 l[i].dd)/\l[i].rd w B
theorem fA.dn{w w':Al}{B B':Nat}{A:Option EK}{l:List iK}(h:fA w B A l)(hB:B<=B')(hk:∀b o,b<B->w'.cell? ⟨b,o,Ag⟩=w.cell? ⟨b,o,Ag⟩):fA w' B' A l:=λhn=>by
 obtain⟨b,o,rfl,gD,hc⟩:=h hn;refine⟨b,o,rfl,oz,λi hi=> ?_⟩;obtain⟨c0,c1,c2,c3,c4,hr⟩:=hc i hi;exact⟨(hk b _ gD).trans c0,(hk b _ gD).trans c1,(hk b _ gD).trans c2,(hk b _ gD).trans c3,(hk b _ gD).trans c4,hr.dn hB hk⟩
theorem fA.below{w w':Al}{A:Option EK}{l:List iK}(h:fA w w.heap.size A l)(hb:BD w.heap.size w w'):fA w' w'.heap.size A l:=h.dn hb.size (cZ hb)
theorem fA.keep{w w':Al}{B:Nat}{A:Option EK}{l:List iK}(h:fA w B A l)(hb:BD B w w'):fA w' B A l:=h.dn nL (cZ hb)
theorem fA.more{w:Al}{B B':Nat}{A:Option EK}{l:List iK}(h:fA w B A l)(hB:B<=B'):fA w B' A l:=h.dn hB λ_ _ _=>rfl
def qZ(g:Nat)(lb:Array Bn)(p:iK->Bool)(l:List iK)(w:Al):Prop:=
 ∀(W:Al) (r:iK),r∈l->BD w.heap.size w W->r.rd W W.heap.size->CU g (#[r.val]++lb) W (.bool (p r))
structure lF where
 a:ByteArray
 va:Int
 b:ByteArray
 vb:Int
abbrev lF.val(x:lF):Value:= .agg #[.string x.a,.int .i64 x.va,.string x.b,.int .i64 x.vb]
def dS(w:Al)(B:Nat)(A:Option EK)(l:List lF):Prop:=
 0<l.length->∃b o,A=Ai ⟨b,o,Ag⟩/\b<B/\∀i (h:i<l.length),w.cell? ⟨b,o+i*4,Ag⟩=Ai (.string l[i].a)/\w.cell? ⟨b,o+i*4+1,Ag⟩=Ai (.int .i64 l[i].va)/\w.cell? ⟨b,o+i*4+2,Ag⟩=Ai (.string l[i].b)/\w.cell? ⟨b,o+i*4+3,Ag⟩=Ai (.int .i64 l[i].vb)
theorem dS.dn{w w':Al}{B B':Nat}{A:Option EK}{l:List lF}(h:dS w B A l)(hB:B<=B')(hk:∀b o,b<B->w'.cell? ⟨b,o,Ag⟩=w.cell? ⟨b,o,Ag⟩):dS w' B' A l:=λhn=>by
 obtain⟨b,o,rfl,gD,hc⟩:=h hn;refine⟨b,o,rfl,oz,λi hi=> ?_⟩;obtain⟨c0,c1,c2,c3⟩:=hc i hi;exact⟨(hk b _ gD).trans c0,(hk b _ gD).trans c1,(hk b _ gD).trans c2,(hk b _ gD).trans c3⟩
theorem dS.below{w w':Al}{A:Option EK}{l:List lF}(h:dS w w.heap.size A l)(hb:BD w.heap.size w w'):dS w' w'.heap.size A l:=h.dn hb.size (cZ hb)
theorem dS.keep{w w':Al}{B:Nat}{A:Option EK}{l:List lF}(h:dS w B A l)(hb:BD B w w'):dS w' B A l:=h.dn nL (cZ hb)
theorem dS.more{w:Al}{B B':Nat}{A:Option EK}{l:List lF}(h:dS w B A l)(hB:B<=B'):dS w B' A l:=h.dn hB λ_ _ _=>rfl
def pS(g:Nat)(lb:Array Bn)(p:lF->Bool)(l:List lF)(w:Al):Prop:=
 ∀(W:Al) (r:lF),r∈l->BD w.heap.size w W->CU g (#[r.val]++lb) W (.bool (p r))
structure ay where
 mods:Sl bT
 aj:Sl gq
 aP:Sl iI
 links:Sl aO
 aF:Sl fU
 bQ:Sl iK
 causes:Sl fC
 aA:Sl lF
abbrev ay.val(x:ay):Value:= .agg #[x.mods.val,x.aj.val,x.aP.val,x.links.val,x.aF.val,x.bQ.val,x.causes.val,x.aA.val]
structure ay.rd(w:Al)(B:Nat)(x:ay):Prop where
 AU:x.mods.l.length<=x.mods.c
 AV:x.mods.c<=EW
 mods:dK w B x.mods.a x.mods.l
 DZ:x.aj.l.length<=x.aj.c
 D1:x.aj.c<=EW
 aj:dY w B x.aj.a x.aj.l
 aBH:x.aP.l.length<=x.aP.c
 aBI:x.aP.c<=EW
 aP:dL w B x.aP.a x.aP.l
 D2:x.links.l.length<=x.links.c
 D3:x.links.c<=EW
 links:fZ w B x.links.a x.links.l
 T9:x.aF.l.length<=x.aF.c
 Ua:x.aF.c<=EW
 aF:mV w B x.aF.a x.aF.l
 aBJ:x.bQ.l.length<=x.bQ.c
 aBK:x.bQ.c<=EW
 bQ:fA w B x.bQ.a x.bQ.l
 CN:x.causes.l.length<=x.causes.c
 CO:x.causes.c<=EW
 causes:kr w B x.causes.a x.causes.l
 R9:x.aA.l.length<=x.aA.c
 Sb:x.aA.c<=EW
 aA:dS w B x.aA.a x.aA.l
theorem ay.rd.dn{w w':Al}{B B':Nat}{x:ay}(h:x.rd w B)(hB:B<=B')(hk:∀b o,b<B->w'.cell? ⟨b,o,Ag⟩=w.cell? ⟨b,o,Ag⟩):x.rd w' B':=
 ⟨h.AU,h.AV,h.mods.dn hB hk,h.DZ,h.D1,h.aj.dn hB hk,h.aBH,h.aBI,h.aP.dn hB hk,h.D2,h.D3,h.links.dn hB hk,h.T9,h.Ua,h.aF.dn hB hk,h.aBJ,h.aBK,h.bQ.dn hB hk,h.CN,h.CO,h.causes.dn hB hk,h.R9,h.Sb,h.aA.dn hB hk⟩
theorem ay.rd.below{w w':Al}{x:ay}(h:x.rd w w.heap.size)(hb:BD w.heap.size w w'):x.rd w' w'.heap.size:=h.dn hb.size (cZ hb)
theorem ay.rd.more{w:Al}{B B':Nat}{x:ay}(h:x.rd w B)(hB:B<=B'):x.rd w B':=h.dn hB λ_ _ _=>rfl
abbrev CV(f:FuncId)(a:Array Bn)(w:Al)(v:Bn):Prop:=ET pG f a w λe w'=>e= .returned v/\BD w.heap.size w w'
abbrev CB(f:FuncId)(a:Array Bn)(w:Al)(b:Bool):Prop:=CV f a w (.bool b)
abbrev Ent(g:Nat):Prop:=∀args w,(callFunc g args).run pG w= .ok (.enter g args) w
abbrev rU{α:Type}(f:FuncId)(Pr:Nat->Array Bn->(α->Bool)->List α->Al->Prop)(Rd:Al->Nat->Option EK->List α->Prop):Prop:=
 ∀(g:Nat) (lb:Array Bn) (p:α->Bool),Ent g->∀(l:List α) (A:Option EK) (c:Nat) (w:Al),Pr g lb p l w->Rd w w.heap.size A l->l.length<=9223372036854775807->CV f #[.slice A l.length c,.func (.func g) #[] lb] w (.int .i64 (cV p l))
abbrev rV{α:Type}(f:FuncId)(Pr:Nat->Array Bn->(α->Bool)->List α->Al->Prop)(Rd:Al->Nat->Option EK->List α->Prop):Prop:=
 ∀(g:Nat) (lb:Array Bn) (p:α->Bool),Ent g->∀(l:List α) (A:Option EK) (c:Nat) (w:Al),Pr g lb p l w->Rd w w.heap.size A l->l.length<=9223372036854775807->CV f #[.slice A l.length c,.func (.func g) #[] lb] w (.bool (l.any p))
abbrev jF{α:Type}(f:FuncId)(Pr:Nat->Array Bn->(α->Bool)->List α->Al->Prop)(Rd:Al->Nat->Option EK->List α->Prop):Prop:=
 ∀(g:Nat) (lb:Array Bn) (p:α->Bool),Ent g->∀(l:List α) (A:Option EK) (c:Nat) (w:Al),Pr g lb p l w->Rd w w.heap.size A l->l.length<=9223372036854775807->CV f #[.slice A l.length c,.func (.func g) #[] lb] w (.bool (l.all p))
abbrev pK{α:Type}(v:α->Bn)(f:FuncId)(t:E3):Prop:=
 ∀(g:Nat) (lb:Array Bn),Ent g->∀(Bx:Nat) (b:Bool) (x:α) (W:Al),ah W Bx t #[.func (.func g) #[] lb]->(∀W',BD W.heap.size W W'->CB g (#[v x]++lb) W' b)->CB f #[v x,.pointer (Ai ⟨Bx,0,Ag⟩)] W (!b)
section
variable {a b c:Al}
theorem bt(h:Hid (BD a.heap.size a b))(k:Hid (BD b.heap.size b c)):BD a.heap.size a c:=h.out.trans (k.out.mono h.out.size)
end
theorem gJ(w:Al)(t:E3)(cs:Array Bn):∃y0,Hid (y0=w.alloc (.cells cs t))/\Hid (BD w.heap.size w y0)/\Hid (∀W,BD y0.heap.size y0 W->ah W w.heap.size t cs)/\Hid (BD y0.heap.size y0 y0)/\Hid (y0.heap.size=w.heap.size+1)/\ah (w.alloc (.cells cs t)) w.heap.size t cs:=
 ⟨_,lz rfl,lz (bN),lz λW hW=>(ah.new w t cs).below hW (ah.new w t cs).lt,lz (BK _ _),lz qz,ah.new w t cs⟩
theorem fF(w:Al)(t:E3)(cs:Array Bn):ah (w.alloc (.cells cs t)) w.heap.size t cs/\BD w.heap.size w (w.alloc (.cells cs t)):=⟨ah.new w t cs,bN⟩
theorem Fx{a b c d:Al}(h:BD a.heap.size a b)(k:BD b.heap.size b c)(l:BD c.heap.size c d):BD a.heap.size a d:=h.trans ((k.mono h.size).trans (l.mono (nT h.size k.size)))
theorem xX{w y0:Al}{t0 t:E3}{c0 cs:Array Bn}{g:Nat}(hy:Hid (y0=w.alloc (.cells c0 t0)))(hB:Hid (BD w.heap.size w y0))(h:ah w g t cs):Hid (∀W,BD y0.heap.size y0 W->ah W g t cs):=
 lz λW hW=>(h.below hB.out h.lt).below hW (Nat.lt_of_lt_of_le h.lt hB.out.size)
theorem bZ{f:FuncId}{args:Array Bn}{y0 y z:Al}{v:Bn}{R:Ending->Al->Prop}(hc:Hid (ET pG f args z λe w'=>e= .returned v/\BD y.heap.size y w'))(hy:Hid (BD y0.heap.size y0 y))(k:∀w',Hid (BD y0.heap.size y0 w')->R (.returned v) w'):ET pG f args z R:=
 hc.out.mono λe w' h=>by
  obtain⟨rfl,hb⟩:=h;exact k w' (lz (bt hy (lz hb)))
abbrev gu.obj(x:gu):Obj:= .cells #[.int .u8 x.op,.int .i64 x.a,.int .i64 x.b,.int .i64 x.d] 169
abbrev bw.obj(x:bw):Obj:= .cells #[.string x.m,.string x.p,.string x.o] 41
abbrev aM.obj(x:aM):Obj:= .cells #[.string x.nm,.int .u8 x.kd,.bool x.out,.int .i64 x.sz,.int .i64 x.dp,.int .i64 x.rf] 73
abbrev cT.obj(x:cT):Obj:= .cells #[.string x.nm,.int .i64 x.pr,.int .i64 x.pe,.int .i64 x.li,.slice x.code.a x.code.l.length x.code.c] 76
abbrev aC.obj(x:aC):Obj:= .cells #[.string x.nm,.int .i64 x.pe,.int .i64 x.le,.int .i64 x.mem,.slice x.aG.a x.aG.l.length x.aG.c,.int .i64 x.ev,.int .i64 x.bo,.slice x.aX.a x.aX.l.length x.aX.c,.slice x.aq.a x.aq.l.length x.aq.c,.slice x.procs.a x.procs.l.length x.procs.c] 71
abbrev bT.obj(x:bT):Obj:= .cells #[.string x.nm,.int .i64 x.mem,.int .i64 x.fr,.slice x.parts.a x.parts.l.length x.parts.c] 67
abbrev gq.obj(x:gq):Obj:= .cells #[.string x.src.m,.string x.src.p,.string x.src.o,.slice x.dst.a x.dst.l.length x.dst.c] 78
abbrev iI.obj(x:iI):Obj:= .cells #[.string x.nm,.int .i64 x.net,.int .i64 x.dl,.int .i64 x.st] 87
abbrev aO.obj(x:aO):Obj:= .cells #[.string x.a,.string x.b,.int .i64 x.net,.int .i64 x.slow] 46
abbrev fU.obj(x:fU):Obj:= .cells #[.string x.nm,.string x.src.m,.string x.src.p,.string x.src.o,.int .i64 x.lQ,.int .i64 x.mx,.slice x.dst.a x.dst.l.length x.dst.c] 44
abbrev iK.obj(x:iK):Obj:= .cells #[.string x.m,.string x.p,.int .u8 x.yV,.int .u8 x.lv,.int .u8 x.dd] 89
abbrev lF.obj(x:lF):Obj:= .cells #[.string x.a,.int .i64 x.va,.string x.b,.int .i64 x.vb] 91
theorem gu.kl{x:gu}{W:Al}{g:Nat}(h:ah W g 169 #[.int .u8 x.op,.int .i64 x.a,.int .i64 x.b,.int .i64 x.d]):W.cell? ⟨g,0,Ag⟩=Ai (.int .u8 x.op)/\W.cell? ⟨g,1,Ag⟩=Ai (.int .i64 x.a)/\W.cell? ⟨g,2,Ag⟩=Ai (.int .i64 x.b)/\W.cell? ⟨g,3,Ag⟩=Ai (.int .i64 x.d):=⟨h.cell 0,h.cell 1,h.cell 2,h.cell 3⟩
theorem bw.kl{x:bw}{W:Al}{g:Nat}(h:ah W g 41 #[.string x.m,.string x.p,.string x.o]):W.cell? ⟨g,0,Ag⟩=Ai (.string x.m)/\W.cell? ⟨g,1,Ag⟩=Ai (.string x.p)/\W.cell? ⟨g,2,Ag⟩=Ai (.string x.o):=⟨h.cell 0,h.cell 1,h.cell 2⟩
theorem aM.kl{x:aM}{W:Al}{g:Nat}(h:ah W g 73 #[.string x.nm,.int .u8 x.kd,.bool x.out,.int .i64 x.sz,.int .i64 x.dp,.int .i64 x.rf]):W.cell? ⟨g,0,Ag⟩=Ai (.string x.nm)/\W.cell? ⟨g,1,Ag⟩=Ai (.int .u8 x.kd)/\W.cell? ⟨g,2,Ag⟩=Ai (.bool x.out)/\W.cell? ⟨g,3,Ag⟩=Ai (.int .i64 x.sz)/\W.cell? ⟨g,4,Ag⟩=Ai (.int .i64 x.dp)/\W.cell? ⟨g,5,Ag⟩=Ai (.int .i64 x.rf):=⟨h.cell 0,h.cell 1,h.cell 2,h.cell 3,h.cell 4,h.cell 5⟩
theorem cT.kl{x:cT}{W:Al}{g:Nat}(h:ah W g 76 #[.string x.nm,.int .i64 x.pr,.int .i64 x.pe,.int .i64 x.li,.slice x.code.a x.code.l.length x.code.c]):W.cell? ⟨g,0,Ag⟩=Ai (.string x.nm)/\W.cell? ⟨g,1,Ag⟩=Ai (.int .i64 x.pr)/\W.cell? ⟨g,2,Ag⟩=Ai (.int .i64 x.pe)/\W.cell? ⟨g,3,Ag⟩=Ai (.int .i64 x.li)/\W.cell? ⟨g,4,Ag⟩=Ai (.slice x.code.a x.code.l.length x.code.c):=⟨h.cell 0,h.cell 1,h.cell 2,h.cell 3,h.cell 4⟩
theorem aC.kl{x:aC}{W:Al}{g:Nat}(h:ah W g 71 #[.string x.nm,.int .i64 x.pe,.int .i64 x.le,.int .i64 x.mem,.slice x.aG.a x.aG.l.length x.aG.c,.int .i64 x.ev,.int .i64 x.bo,.slice x.aX.a x.aX.l.length x.aX.c,.slice x.aq.a x.aq.l.length x.aq.c,.slice x.procs.a x.procs.l.length x.procs.c]):W.cell? ⟨g,0,Ag⟩=Ai (.string x.nm)/\W.cell? ⟨g,1,Ag⟩=Ai (.int .i64 x.pe)/\W.cell? ⟨g,2,Ag⟩=Ai (.int .i64 x.le)/\W.cell? ⟨g,3,Ag⟩=Ai (.int .i64 x.mem)/\W.cell? ⟨g,4,Ag⟩=Ai (.slice x.aG.a x.aG.l.length x.aG.c)/\W.cell? ⟨g,5,Ag⟩=Ai (.int .i64 x.ev)/\W.cell? ⟨g,6,Ag⟩=Ai (.int .i64 x.bo)/\W.cell? ⟨g,7,Ag⟩=Ai (.slice x.aX.a x.aX.l.length x.aX.c)/\W.cell? ⟨g,8,Ag⟩=Ai (.slice x.aq.a x.aq.l.length x.aq.c)/\W.cell? ⟨g,9,Ag⟩=Ai (.slice x.procs.a x.procs.l.length x.procs.c):=⟨h.cell 0,h.cell 1,h.cell 2,h.cell 3,h.cell 4,h.cell 5,h.cell 6,h.cell 7,h.cell 8,h.cell 9⟩
theorem bT.kl{x:bT}{W:Al}{g:Nat}(h:ah W g 67 #[.string x.nm,.int .i64 x.mem,.int .i64 x.fr,.slice x.parts.a x.parts.l.length x.parts.c]):W.cell? ⟨g,0,Ag⟩=Ai (.string x.nm)/\W.cell? ⟨g,1,Ag⟩=Ai (.int .i64 x.mem)/\W.cell? ⟨g,2,Ag⟩=Ai (.int .i64 x.fr)/\W.cell? ⟨g,3,Ag⟩=Ai (.slice x.parts.a x.parts.l.length x.parts.c):=⟨h.cell 0,h.cell 1,h.cell 2,h.cell 3⟩
theorem gq.kl{x:gq}{W:Al}{g:Nat}(h:ah W g 78 #[.string x.src.m,.string x.src.p,.string x.src.o,.slice x.dst.a x.dst.l.length x.dst.c]):W.cell? ⟨g,0,Ag⟩=Ai (.string x.src.m)/\W.cell? ⟨g,1,Ag⟩=Ai (.string x.src.p)/\W.cell? ⟨g,2,Ag⟩=Ai (.string x.src.o)/\W.cell? ⟨g,3,Ag⟩=Ai (.slice x.dst.a x.dst.l.length x.dst.c):=⟨h.cell 0,h.cell 1,h.cell 2,h.cell 3⟩
theorem iI.kl{x:iI}{W:Al}{g:Nat}(h:ah W g 87 #[.string x.nm,.int .i64 x.net,.int .i64 x.dl,.int .i64 x.st]):W.cell? ⟨g,0,Ag⟩=Ai (.string x.nm)/\W.cell? ⟨g,1,Ag⟩=Ai (.int .i64 x.net)/\W.cell? ⟨g,2,Ag⟩=Ai (.int .i64 x.dl)/\W.cell? ⟨g,3,Ag⟩=Ai (.int .i64 x.st):=⟨h.cell 0,h.cell 1,h.cell 2,h.cell 3⟩
theorem aO.kl{x:aO}{W:Al}{g:Nat}(h:ah W g 46 #[.string x.a,.string x.b,.int .i64 x.net,.int .i64 x.slow]):W.cell? ⟨g,0,Ag⟩=Ai (.string x.a)/\W.cell? ⟨g,1,Ag⟩=Ai (.string x.b)/\W.cell? ⟨g,2,Ag⟩=Ai (.int .i64 x.net)/\W.cell? ⟨g,3,Ag⟩=Ai (.int .i64 x.slow):=⟨h.cell 0,h.cell 1,h.cell 2,h.cell 3⟩
theorem fU.kl{x:fU}{W:Al}{g:Nat}(h:ah W g 44 #[.string x.nm,.string x.src.m,.string x.src.p,.string x.src.o,.int .i64 x.lQ,.int .i64 x.mx,.slice x.dst.a x.dst.l.length x.dst.c]):W.cell? ⟨g,0,Ag⟩=Ai (.string x.nm)/\W.cell? ⟨g,1,Ag⟩=Ai (.string x.src.m)/\W.cell? ⟨g,2,Ag⟩=Ai (.string x.src.p)/\W.cell? ⟨g,3,Ag⟩=Ai (.string x.src.o)/\W.cell? ⟨g,4,Ag⟩=Ai (.int .i64 x.lQ)/\W.cell? ⟨g,5,Ag⟩=Ai (.int .i64 x.mx)/\W.cell? ⟨g,6,Ag⟩=Ai (.slice x.dst.a x.dst.l.length x.dst.c):=⟨h.cell 0,h.cell 1,h.cell 2,h.cell 3,h.cell 4,h.cell 5,h.cell 6⟩
theorem iK.kl{x:iK}{W:Al}{g:Nat}(h:ah W g 89 #[.string x.m,.string x.p,.int .u8 x.yV,.int .u8 x.lv,.int .u8 x.dd]):W.cell? ⟨g,0,Ag⟩=Ai (.string x.m)/\W.cell? ⟨g,1,Ag⟩=Ai (.string x.p)/\W.cell? ⟨g,2,Ag⟩=Ai (.int .u8 x.yV)/\W.cell? ⟨g,3,Ag⟩=Ai (.int .u8 x.lv)/\W.cell? ⟨g,4,Ag⟩=Ai (.int .u8 x.dd):=⟨h.cell 0,h.cell 1,h.cell 2,h.cell 3,h.cell 4⟩
theorem lF.kl{x:lF}{W:Al}{g:Nat}(h:ah W g 91 #[.string x.a,.int .i64 x.va,.string x.b,.int .i64 x.vb]):W.cell? ⟨g,0,Ag⟩=Ai (.string x.a)/\W.cell? ⟨g,1,Ag⟩=Ai (.int .i64 x.va)/\W.cell? ⟨g,2,Ag⟩=Ai (.string x.b)/\W.cell? ⟨g,3,Ag⟩=Ai (.int .i64 x.vb):=⟨h.cell 0,h.cell 1,h.cell 2,h.cell 3⟩
theorem jI.kl{x:jI}{W:Al}{g:Nat}(h:ah W g 85 #[.string x.unit,.int .i64 x.code]):W.cell? ⟨g,0,Ag⟩=Ai (.string x.unit)/\W.cell? ⟨g,1,Ag⟩=Ai (.int .i64 x.code):=⟨h.cell 0,h.cell 1⟩
theorem fC.kl{x:fC}{W:Al}{g:Nat}(h:ah W g 83 #[.string x.c.unit,.slice x.n.a x.n.n x.n.c,.slice x.x.a x.x.n x.x.c]):W.cell? ⟨g,0,Ag⟩=Ai (.string x.c.unit)/\W.cell? ⟨g,1,Ag⟩=Ai (.slice x.n.a x.n.n x.n.c)/\W.cell? ⟨g,2,Ag⟩=Ai (.slice x.x.a x.x.n x.x.c):=⟨h.cell 0,h.cell 1,h.cell 2⟩
theorem ay.kl{x:ay}{W:Al}{g:Nat}(h:ah W g 31 #[.slice x.mods.a x.mods.l.length x.mods.c,.slice x.aj.a x.aj.l.length x.aj.c,.slice x.aP.a x.aP.l.length x.aP.c,.slice x.links.a x.links.l.length x.links.c,.slice x.aF.a x.aF.l.length x.aF.c,.slice x.bQ.a x.bQ.l.length x.bQ.c,.slice x.causes.a x.causes.l.length x.causes.c,.slice x.aA.a x.aA.l.length x.aA.c]):W.cell? ⟨g,0,Ag⟩=Ai (.slice x.mods.a x.mods.l.length x.mods.c)/\W.cell? ⟨g,1,Ag⟩=Ai (.slice x.aj.a x.aj.l.length x.aj.c)/\W.cell? ⟨g,2,Ag⟩=Ai (.slice x.aP.a x.aP.l.length x.aP.c)/\W.cell? ⟨g,3,Ag⟩=Ai (.slice x.links.a x.links.l.length x.links.c)/\W.cell? ⟨g,4,Ag⟩=Ai (.slice x.aF.a x.aF.l.length x.aF.c)/\W.cell? ⟨g,5,Ag⟩=Ai (.slice x.bQ.a x.bQ.l.length x.bQ.c)/\W.cell? ⟨g,6,Ag⟩=Ai (.slice x.causes.a x.causes.l.length x.causes.c)/\W.cell? ⟨g,7,Ag⟩=Ai (.slice x.aA.a x.aA.l.length x.aA.c):=⟨h.cell 0,h.cell 1,h.cell 2,h.cell 3,h.cell 4,h.cell 5,h.cell 6,h.cell 7⟩
theorem tkS{ops:Array Oper}{Q:Exit->Act->Al->Prop}{S:Al->Prop}{md:Region.Mode}{s:Nat}(i:Nat){oi:Oper}{v:Bn}{fuel:Nat}{listed:Array Bool}{a:Act}{w:Al}(hi:ops[i]?=Ai oi)(hS:S w)(hy:Region.wanted oi (yielded ops a.tmps)=BR/\∀w,S w->(execOp a.eval oi).run pG w= .ok (.value v) w)
 (h:wpAnyS pG md ops Q S s fuel (listed.setIfInBounds i BR) (a.put oi.dst v) w) (hs:Region.noSelect ops=true:=by kernel_rfl) (hf:Region.free md ops listed i=true:=by kernel_rfl) (hr:(Region.ready md ops listed).contains i=true:=by kernel_rfl) (hw:waits md ops (Dq md ops i) s i listed=true:=by kernel_rfl)
 (hQ:∀c a w,Q (.panic c) (a.put oi.dst v) w->Q (.panic c) a w:=by exact λc a w h=>h):wpAnyS pG md ops Q S s (fuel+1) listed a w:=sO hi hs hf hr hw hQ (Or.inl hy) hS h
theorem tkY{q:Prop}(z:q:=by
 intro w hSw;first
 | obtain⟨zh,hS1,jY,CD,vw,CF,MF,Dr,FN,Vp,aNa,mA,aNb⟩:=hSw
 | obtain⟨zh,hS1,jY,CD,vw,CF,MF,Dr,FN,Vp⟩:=hSw
 | obtain⟨zh,hS1,jY,CD,vw,CF,MF,Dr,FN⟩:=hSw
 | obtain⟨zh,hS1,jY,CD,vw,CF,MF,Dr⟩:=hSw
 | obtain⟨zh,hS1,jY,CD,vw,CF,MF⟩:=hSw
 | obtain⟨zh,hS1,jY,CD,vw⟩:=hSw
 | obtain⟨zh,hS1,jY⟩:=hSw
 | obtain⟨zh,hS1⟩:=hSw
 exact gz):q:=z
theorem e0{p:Prop}(h:p:=by go_wp2_with fail;rw[<-dV.out];go_ret;exact⟨by rw[HF.out];rfl,bt aV jH⟩):p:=h
theorem e1{p:Prop}(h:p:=by go_wp2;go_ret;exact⟨by rw[HF.out];rfl,bt aV fI⟩):p:=h
theorem e2{p:Prop}(h:p:=by go_wp2;go_ret;exact⟨by rw[HF.out];rfl,bt aV iF⟩):p:=h
theorem e3{p:Prop}(h:p:=by go_wp2;go_ret;exact⟨by rw[HF.out];rfl,bt aV pz⟩):p:=h
theorem e4{p:Prop}(h:p:=by go_wp2;go_ret;exact⟨by rw[HF.out];rfl,bt aV Fy⟩):p:=h
theorem e5{p:Prop}(h:p:=by go_wp2;go_ret;exact⟨by rw[HF.out];rfl,bt aV Md⟩):p:=h
theorem e6{p:Prop}(h:p:=by go_wp2;go_ret;exact⟨by rw[HF.out];rfl,bt aV WD⟩):p:=h
theorem e7{p:Prop}(h:p:=by go_wp2;go_ret;exact⟨by rw[HF.out];rfl,bt aV HY7⟩):p:=h
theorem e8{p:Prop}(h:p:=by go_wp2;go_ret;exact⟨by rw[HF.out];rfl,bt aV HY8⟩):p:=h
theorem e9{p:Prop}(h:p:=by go_wp2;go_ret;exact⟨by rw[HF.out];rfl,bt aV HY9⟩):p:=h
def wj(s:ByteArray)(t:Tok):Bool:=(t.kind==1)&&decide (t.text=s)
def Te(n:Int)(t:Tok):Bool:=(t.kind==2)&&VU t.text n
section
variable {g:Nat} {A:Option EK} {c:Nat} {ts:List Tok} {now:Nat} {sz:Int}
theorem kV(s:ByteArray)(w:Al)(h:gM w g A c ts now sz)(hl:ts.length<=100000)(ha:gZ ts now (wj s)=BR):
 PC 200 #[.pointer (Ai ⟨g,0,Ag⟩)] w g A c ts sz (now+1) (.string s):=by
 obtain⟨hn,hP⟩:=gG ha;unfold wj at hP;simp only[BW,beq_iff_eq,decide_eq_true_eq]at hP;have:=aGX w h hn hl hP.1;rw[hP.2]at this;exact this
theorem iX(s:ByteArray)(w:Al)(h:gM w g A c ts now sz)(hl:ts.length<=100000)(ha:gZ ts now (λt=>dB t s)=BR):
 ET pG 198 #[.pointer (Ai ⟨g,0,Ag⟩),.string s] w λe w'=>(∃v,e= .returned v)/\gM w' g A c ts (now+1) sz/\Gr (· =g) w w':=by
 obtain⟨hn,hP⟩:=gG ha;exact YX s w h hn hl hP
theorem Fm(s:ByteArray)(w:Al)(h:gM w g A c ts now sz)(hl:ts.length<=100000)(ha:gZ ts now (λt=>dB t s)=BR):
 PC 195 #[.pointer (Ai ⟨g,0,Ag⟩),.string s] w g A c ts sz (now+1) (.bool BR):=by
 obtain⟨hn,hP⟩:=gG ha;exact Rf s w h hn hl hP
theorem vg(s:ByteArray)(w:Al)(h:gM w g A c ts now sz)(hl:ts.length<=100000)(ha:gZ ts now (λt=> !dB t s)=BR):
 CV 195 #[.pointer (Ai ⟨g,0,Ag⟩),.string s] w (.bool Bj):=by
 obtain⟨hn,hP⟩:=gG ha;exact EF s w h hn hl (by simpa using hP)
theorem aDD(s:ByteArray)(q:Bool)(w:Al)(h:gM w g A c ts now sz)(hl:ts.length<=100000)(ha:gZ ts now (λt=>dB t s==q)=BR):
 CV 259 #[.pointer (Ai ⟨g,0,Ag⟩),.string s] w (.bool q):=by
 obtain⟨hn,hP⟩:=gG ha;have:=tJ s w h hn hl;rw[eq_of_beq hP]at this;exact this
theorem gY(s:ByteArray)(n:Int)(w:Al)(h:gM w g A c ts now sz)(hl:ts.length<=100000)(ha:gZ ts now (λt=>dB t s)=BR)(hb:gZ ts (now+1) (Te n)=BR):
 PC 202 #[.pointer (Ai ⟨g,0,Ag⟩),.string s] w g A c ts sz (now+2) (.int .i64 n):=by
 obtain⟨hn,hP⟩:=gG ha;obtain⟨hm,hQ⟩:=gG hb;unfold Te at hQ;simp only[BW,beq_iff_eq]at hQ;exact aCr s n w h hm hl hP hQ.1 hQ.2
def ZO(s x:ByteArray)(k:Nat):Bool:=decide (s.size<=1000)&&(match mK s 200 0 0 []with | none=>Bj | some l=>decide (k<100)&&decide (l[k]?=Ai x)&&(EO k).all λj=> !decide (l[j]?=Ai x))
theorem Ay(s x:ByteArray)(k:Nat)(w:Al)(h:gM w g A c ts now sz)(hl:ts.length<=100000)(ha:gZ ts now (wj x)=BR)(hp:ZO s x k=BR):
 PC 262 #[.pointer (Ai ⟨g,0,Ag⟩),.string s] w g A c ts sz (now+1) (.int .u8 ((k+1:Nat):Int)):=by
 obtain⟨hn,hP⟩:=gG ha;unfold wj at hP;simp only[BW,beq_iff_eq,decide_eq_true_eq]at hP;unfold ZO at hp
 cases hs:mK s 200 0 0 []with
 | none=>rw[hs]at hp;simp at hp
 | some l=>
  rw[hs]at hp;simp only[BW,decide_eq_true_eq,EL,List.mem_range,Bool.not_eq_true',decide_eq_false_iff_not]at hp;obtain⟨h1,⟨h2,h3⟩,h4⟩:=hp;obtain⟨hk,hx⟩:=List.getElem?_eq_some_iff.1 h3;refine Y9 s l 200 k w h hn hl hP.1 h1 hs hk (λj hj e=>h4 j hj ?_) h2 (hP.2.trans hx.symm);rw[EN oz,e,hx]
theorem rP{f:FuncId}{args:Array Bn}{w0 w:Al}{p:Nat}{v:Bn}{R:Ending->Al->Prop}(hc:Hid (PC f args w g A c ts sz p v))(hG:Hid (Gr (· =g) w0 w))
 (k:∀w',Hid (gM w' g A c ts p sz)->Hid (Gr (· =g) w0 w')->R (.returned v) w'):ET pG f args w R:=
 hc.out.mono λe w' h=>by obtain⟨rfl,h1,h2⟩:=h;exact k w' (lz h1) (lz (hG.out.trans h2))
theorem Az{f:FuncId}{args:Array Bn}{w0 w:Al}{p:Nat}{R:Ending->Al->Prop}(hc:Hid (ET pG f args w λe w'=>(∃v,e= .returned v)/\gM w' g A c ts p sz/\Gr (· =g) w w'))(hG:Hid (Gr (· =g) w0 w))
 (k:∀v w',Hid (gM w' g A c ts p sz)->Hid (Gr (· =g) w0 w')->R (.returned v) w'):ET pG f args w R:=
 hc.out.mono λe w' h=>by obtain⟨⟨v,rfl⟩,h1,h2⟩:=h;exact k v w' (lz h1) (lz (hG.out.trans h2))
theorem JL(x:ByteArray)(k:Nat)(w:Al)(h:gM w g A c ts now sz)(hl:ts.length<=100000)(ha:gZ ts now (λt=>dB t ⟨#[110,101,116]⟩)=BR)(hb:gZ ts (now+1) (wj x)=BR)(hp:ZO ⟨#[97,32,98]⟩ x k=BR)(hk:k<2):
 PC 201 #[.pointer (Ai ⟨g,0,Ag⟩)] w g A c ts sz (now+2) (.int .i64 k):=by
 have hm:=lz (iX _ w h hl ha);have hc:=λW (hW:gM W g A c ts (now+1) sz)=>Ay _ x k W hW hl hb hp
 have Hc:=lz hc;have hG:=lz (Gr.ak (X:=(· =g)) (BK w.heap.size w));have hkk:k=0\/k=1:=by omega
 clear h ha hb hp hc hk;go_enter func201,ntmps201;go_wp2_with fail;refine Az hm hG λv w1 HI1 Qe=> ?_
 go_wp2_with fail;refine rP (lz (Hc.out _ HI1.out)) Qe λw2 HI2 C6=> ?_
 rcases hkk with rfl | rfl
 all_goals
  go_wp2;go_ret;exact⟨rfl,HI2.out,C6.out⟩
end
def Vk(ts:List Tok)(p:Nat)(x:bw):Bool:=gZ ts p (wj x.m)&&gZ ts (p+1) (λt=>dB t ⟨#[46]⟩)&&gZ ts (p+2) (wj x.p)&&gZ ts (p+3) (λt=>dB t ⟨#[46]⟩)&&gZ ts (p+4) (wj x.o)
section
variable {g:Nat} {A:Option EK} {c:Nat} {ts:List Tok} {now:Nat} {sz:Int}
theorem ZP(x:bw)(w:Al)(h:gM w g A c ts now sz)(hl:ts.length<=100000)(ha:Vk ts now x=BR):
 PC 197 #[.pointer (Ai ⟨g,0,Ag⟩)] w g A c ts sz (now+5) x.val:=by
 unfold Vk at ha;simp only[BW]at ha;obtain⟨⟨⟨⟨a1,a2⟩,a3⟩,a4⟩,a5⟩:=ha;obtain⟨w0,hw0⟩:=ez (w.alloc (.cells #[.string ⟨#[]⟩,.string ⟨#[]⟩,.string ⟨#[]⟩] 41));have bW:BD w.heap.size w w0:=by rw[hw0];exact bN
 have jy:ah w0 w.heap.size 41 #[.string ⟨#[]⟩,.string ⟨#[]⟩,.string ⟨#[]⟩]:=by rw[hw0];exact ah.new w _ _
 have h1:=lz (kV x.m w0 (h.below bW) hl a1);have h2:=lz λW (hW:gM W g A c ts (now+1) sz)=>iX ⟨#[46]⟩ W hW hl a2
 have h3:=lz λW (hW:gM W g A c ts (now+2) sz)=>kV x.p W hW hl a3
 have h4:=lz λW (hW:gM W g A c ts (now+3) sz)=>iX ⟨#[46]⟩ W hW hl a4
 have h5:=lz λW (hW:gM W g A c ts (now+4) sz)=>kV x.o W hW hl a5
 have hG:=lz (Gr.ak (X:=(· =g)) (BK w0.heap.size w0));have rT:=lz jy;have aV:=lz bW;have Mc:=lz hw0;have hlt:=h.lt;have sH:w.heap.size<w0.heap.size:=jy.lt;clear h a1 a2 a3 a4 a5 hw0 bW jy;go_enter func197,ntmps197;go_wp2_with fail;rw[<-Mc.out];refine rP h1 hG λw1 HI1 Qe=> ?_
 go_wp2_with fail;refine Az (lz (h2.out _ HI1.out)) Qe λv2 w2 HI2 C6=> ?_
 go_wp2_with fail;refine rP (lz (h3.out _ HI2.out)) C6 λw3 HI3 Qd=> ?_
 go_wp2_with fail;refine Az (lz (h4.out _ HI3.out)) Qd λv4 w4 HI4 HG4=> ?_
 go_wp2_with fail;refine rP (lz (h5.out _ HI4.out)) HG4 λw5 HI5 HG5=> ?_
 have hr5:ah w5 w.heap.size 41 #[.string ⟨#[]⟩,.string ⟨#[]⟩,.string ⟨#[]⟩]:=HG5.out.blk rT.out oz;clear h1 h2 h3 h4 h5 hG HI1 Qe HI2 C6 HI3 Qd HI4 HG4 Mc;have k0:=hr5.cell 0;have k1:=hr5.cell 1;have k2:=hr5.cell 2;have f0:=hr5.frozen 0;have f1:=hr5.frozen 1;have f2:=hr5.frozen 2;have FB:=lz ((Gr.ak (X:=(· =g)) aV.out).trans HG5.out);have Hr5:=lz hr5;clear hr5 rT HG5;go_wp2_with fail;have hz:ah (((w5.setCell ⟨w.heap.size,0,Ag⟩ (.string x.m)).setCell ⟨w.heap.size,1,Ag⟩ (.string x.p)).setCell ⟨w.heap.size,2,Ag⟩ (.string x.o)) w.heap.size 41 #[.string x.m,.string x.p,.string x.o]:=by
  simpa using((Hr5.out.bX 0 (.string x.m)).bX 1 (.string x.p)).bX 2 (.string x.o)
 have z0:=hz.cell 0;have z1:=hz.cell 1;have z2:=hz.cell 2;refine GJ (v:=x.val) (by simp[results,results197,go_sem,z0,z1,z2]) rfl ?_;exact⟨rfl,((HI5.out.far hlt _).far hlt _).far hlt _,((FB.out.far nL _).far nL _).far nL _⟩
def Tf(ts:List Tok)(p:Nat)(L:List bw):Bool:=(EO L.length).all λk=>(match L[k]? with | some x=>Vk ts (p+6*k) x | none=>Bj)&&gZ ts (p+6*k+5) (λt=>dB t ⟨#[44]⟩==decide (k+1<L.length))
theorem ZQ{ts:List Tok}{p:Nat}{L:List bw}(h:Tf ts p L=BR)(k:Nat)(hk:k<L.length):Vk ts (p+6*k) L[k]=BR/\gZ ts (p+6*k+5) (λt=>dB t ⟨#[44]⟩==decide (k+1<L.length))=true:=by
 unfold Tf at h;have:=EL.1 h k (List.mem_range.2 hk);rw[EN hk]at this;simpa using this
def bw.cells(x:bw):List Value:= [.string x.m,.string x.p,.string x.o]
structure rQ(w:Al)(g:Nat)(A:Option EK)(c:Nat)(ts:List Tok)(sz:Int)(l:List bw)(v:Bn)(p:Nat)(W:Al):Prop where
 eX:gM W g A c ts p sz
 gr:Gr (· =g) w W
 own:W.ownsRow w.heap.size 41 3 v l.length (l.flatMap bw.cells)
theorem rQ.step{w W W':Al}{l:List bw}{v:Bn}{p p':Nat}(h:rQ w g A c ts sz l v p W)(hg:g<w.heap.size)(hI:gM W' g A c ts p' sz)(hG:Gr (· =g) W W'):rQ w g A c ts sz l v p' W':=
 ⟨hI,h.gr.trans hG,cO h.own hG (λk hk e=>by have:=(h.own.lt k hk).1;omega)⟩
theorem rQ.add{w W W':Al}{l:List bw}{v v':Bn}{p:Nat}{o:Obj}(h:rQ w g A c ts sz l v p W)(x:bw)(hg:g<w.heap.size)(hown:W'.ownsRow w.heap.size 41 3 v' (l.length+1) (l.flatMap bw.cells++x.cells))(hG:(W.alloc o).grownBy W' v.ownBlock):
 rQ w g A c ts sz (l++ [x]) v' p W':=by
 have hb:BD W.heap.size W (W.alloc o):=bN;have h1:=h.step hg (h.eX.below hb) (Gr.ak hb);have hgr:Gr (λk=>v.ownBlock=Ai k) (W.alloc o) W':=Gr.eO hG (λk e=>e);have JQ:∀k,v.ownBlock=Ai k->w.heap.size<=k:=λk hk=>(h1.own.lt k hk).1
 exact⟨h1.eX.kept hgr (λk hk e=>by have:=JQ k e;omega),h1.gr.trans' hgr (λk hk e=>by have:=JQ k e;omega),by simpa using hown⟩
theorem aHB:(pG.info? 41).map (λi=>(i.zero,i.size,i.bytes))=Ai (Ai (.agg #[.string ⟨#[]⟩,.string ⟨#[]⟩,.string ⟨#[]⟩]),3,48):=by kernel_rfl
theorem aS{α:Type}(f:α->List Bn)(n:Nat)(hf:∀x,(f x).length=n):∀(l:List α) (i j:Nat) (hi:i<l.length),j<n->(l.flatMap f)[i*n+j]?=(f l[i])[j]?
 | [],i,j,hi,_=>by simp at hi
 | x :: r,0,j,hi,hj=>by
  rw[List.flatMap_cons,List.getElem?_append_left (by rw[hf];omega)];simp
 | x :: r,i+1,j,hi,hj=>by
  rw[List.flatMap_cons,List.getElem?_append_right (by rw[hf,Nat.add_mul];omega),hf,show(i+1)*n+j-n=i*n+j by rw[Nat.add_mul];omega];exact aS f n hf r i j (by simpa using hi) hj
theorem L8{W:Al}{base cp:Nat}{A:Option EK}{l:List bw}(h:W.ownsRow base 41 3 (.slice A l.length cp) l.length (l.flatMap bw.cells)):jo W W.heap.size A l:=λhn=>by
 obtain⟨b,cap,hv,_,hlt⟩:=h.form hn;have hA:A=Ai ⟨b,0,Ag⟩:=by injection hv
 subst hA;refine⟨b,0,rfl,hlt,λi hi=> ?_⟩;have c0:=h.cells (g:=b) rfl _ _ (aS bw.cells 3 (λ_=>rfl) l i 0 hi oz);have c1:=h.cells (g:=b) rfl _ _ (aS bw.cells 3 (λ_=>rfl) l i 1 hi oz);have c2:=h.cells (g:=b) rfl _ _ (aS bw.cells 3 (λ_=>rfl) l i 2 hi oz);rw[eY]at c0 c1 c2;simpa using ai c0 (ai c1 c2)
theorem aHC(L:List bw)(w:Al)(h:gM w g A c ts now sz)(hl:ts.length<=100000)(ha:Tf ts now L=BR)(hL:0<L.length)(hL2:L.length<=1000):
 ET pG 199 #[.pointer (Ai ⟨g,0,Ag⟩)] w λe w'=>∃A' c',e= .returned (.slice A' L.length c')/\rQ w g A c ts sz L (.slice A' L.length c') (now+6*L.length-1) w':=by
 have hat:=ZQ ha;have h1:=lz (ZP L[0] w h hl (by simpa using(hat 0 hL).1));have Vw:=lz hat;have hg:=h.lt;have hG:=lz (Gr.ak (X:=(· =g)) (BK w.heap.size w));obtain⟨i0,lX,hz0,hz1,hz2⟩:=info_parts aHB;clear hat h ha;go_enter func199,ntmps199;go_wp2_with fail;refine rP h1 hG λw1 HI1 Qe=> ?_
 have hS1:rQ w g A c ts sz (L.take 1) (.slice (Ai ⟨w1.heap.size,0,Ag⟩) 1 1) (now+5) (w1.alloc (.cells #[.string L[0].m,.string L[0].p,.string L[0].o] 41)):=by
  have hb:BD w1.heap.size w1 (w1.alloc (.cells #[.string L[0].m,.string L[0].p,.string L[0].o] 41)):=bN;have ht:L.take 1= [L[0]]:=by
   rw[Dl hL];rfl
  refine⟨HI1.out.below hb,Qe.out.trans (Gr.ak hb),?_⟩;rw[ht];exact⟨rfl,.inr ⟨w1.heap.size,1,_,rfl,Qe.out.size,ah.new w1 _ _,nL,dz,rfl,rfl⟩⟩
 have sE:=lz hS1;clear hS1 HI1 Qe h1 hG;go_wp2;go_loopw [3] (λv wr=>∃k:Nat,0<k/\k<=L.length/\rQ w g A c ts sz (L.take k) v (now+6*k-1) wr) (λv wr=>2*(ts.length+1)-jZ g wr)
 case atStart=>exact⟨1,oz,oz,sE.out⟩
 case round=>
  clear sE;obtain⟨k,Vt,hkl,hS⟩:=hrel;obtain⟨l,hlk⟩:=ez (L.take k);rw[<-hlk]at hS;have XK:l.length=k:=by rw[hlk];simp;omega
  have Hlk:=lz hlk;have Hll:=lz XK;obtain⟨Av,cv,rfl,_⟩:=bp hS.own;have HS:=lz hS;have hab:=(Vw.out (k-1) oz).2;rw[show now+6*(k-1)+5=now+6*k-1 from by omega,show k-1+1=k from by omega]at hab;have wW:=hS.eX.jZ;clear hS hlk XK;by_cases iJ:k=L.length
  .rw[show decide (k<L.length)=Bj from by simp[iJ]]at hab
   have jT:=lz (vg ⟨#[44]⟩ wr HS.out.eX hl (by
    obtain⟨hn,hP⟩:=gG hab;unfold gZ;rw[EN hn];simpa using hP))
   clear hab;go_wp2_with fail;refine jT.out.mono ?_;rintro e w2 ⟨rfl,hb⟩;have hR:=lz (HS.out.step hg (HS.out.eX.below hb) (Gr.ak hb));clear hb jT HS;go_wp2;go_ret;refine⟨Av,cv,by rw[<-iJ,<-Hll.out];rfl,?_⟩;have:=hR.out;rw[Hlk.out,iJ,List.take_length]at this;exact this
  .have hlt:k<L.length:=by omega
   rw[show decide (k<L.length)=BR from by simp[hlt]]at hab;have iw:=lz (Fm ⟨#[44]⟩ wr HS.out.eX hl (by
    obtain⟨hn,hP⟩:=gG hab;unfold gZ;rw[EN hn];simpa using hP))
   have hrf:=lz λW (hW:gM W g A c ts (now+6*k-1+1) sz)=>ZP L[k] W hW hl (by rw[show now+6*k-1+1=now+6*k from by omega];exact(Vw.out k hlt).1)
   have hG:=lz (Gr.ak (X:=(· =g)) (BK wr.heap.size wr));clear hab;go_wp2_with fail;refine rP iw hG λw2 HI2 C6=> ?_
   go_wp2_with fail;refine rP (lz (hrf.out _ HI2.out)) C6 λw3 HI3 Qd=> ?_
   have pP:=lz (HS.out.step hg HI3.out Qd.out);clear iw hrf hG HI2 C6 HI3 Qd HS;go_wp2_with (at_builtin;refine wpList_append_own _ rfl (.tmp 9) (.tmp 12) 42 rfl w.heap.size 41 i0 (.agg #[.string ⟨#[]⟩,.string ⟨#[]⟩,.string ⟨#[]⟩]) 3 48 underlying42 lX hz0 hz1 hz2 rfl dz _ _ _ rfl (pP.out.own.alloc _) ⟨w3.heap.size,0,Ag⟩ 1 1 [.string L[k].m,.string L[k].p,.string L[k].o] rfl rfl ?c1 ?c2 ?c3 ?c4 ?c5 ?_)
   case c1=>
    intro j u' hj;rw[bO,Nat.zero_add,(ah.new w3 41 #[.string L[k].m,.string L[k].p,.string L[k].o]).cell j];simpa using hj
   case c2=>intro u' kQ;simp at kQ;rcases kQ with rfl | rfl | rfl<;>rfl
   case c3=>have:=Hll.out;unfold EW;omega
   case c4=>have:=Hll.out;omega
   case c5=>have:=pP.out.gr.size;simp;omega
   intro v5 w5 dQ mE _;have HR:=lz (pP.out.add L[k] hg dQ mE);clear dQ mE pP;go_wp2;go_roundw
   case rel=>
    refine⟨k+1,oz,oz,?_⟩;have:=HR.out;rw[Hlk.out,<-Dl hlt,show now+6*k-1+1+5=now+6*(k+1)-1 from by omega]at this;exact this
   case measure=>
    have h1:=HR.out.eX.jZ;rw[wW,h1];have h2:=(Vw.out k hlt).1;unfold Vk at h2;simp only[BW]at h2;obtain⟨hn,_⟩:=gG h2.2;omega
end
def L9(ts:List Tok)(p:Nat)(x:aM):Bool:=gZ ts p (λt=>dB t ⟨#[111,117,116]⟩==x.out)&&gZ ts p (λt=>dB t ⟨#[105,110]⟩== !x.out)&&gZ ts (p+1) (wj x.nm)&&gZ ts (p+2) (wj ⟨#[115,97,109,112,108,105,110,103]⟩)&&
 gZ ts (p+3) (λt=>dB t ⟨#[115,105,122,101]⟩)&&gZ ts (p+4) (Te x.sz)&&gZ ts (p+5) (λt=>dB t ⟨#[114,101,102,114,101,115,104]⟩)&&gZ ts (p+6) (Te x.rf)&&gZ ts (p+7) (λt=>dB t ⟨#[59]⟩)&&decide (x.kd=1)&&decide (x.dp=0)
section
variable {g:Nat} {A:Option EK} {c:Nat} {ts:List Tok} {now:Nat} {sz:Int}
theorem ZR(s:ByteArray)(q:Bool)(w:Al)(h:gM w g A c ts now sz)(hl:ts.length<=100000)(ha:gZ ts now (λt=>dB t s==q)=BR):
 PC 195 #[.pointer (Ai ⟨g,0,Ag⟩),.string s] w g A c ts sz (if q then now+1 else now) (.bool q):=by
 obtain⟨hn,hP⟩:=gG ha
 cases q with
 | true=>exact Rf s w h hn hl (by simpa using hP)
 | false=>exact(EF s w h hn hl (by simpa using hP)).mono λe w' ⟨e1,hb⟩=>⟨e1,h.below hb,Gr.ak hb⟩
structure eW(w:Al)(g Bc:Nat)(A:Option EK)(c:Nat)(ts:List Tok)(sz:Int)(t:E3)(rs cs:Array Bn)(p:Nat)(W:Al):Prop where
 eX:gM W g A c ts p sz
 gr:Gr (· =g) w W
 hg:g<w.heap.size
 res:ah W w.heap.size t rs
 blk:ah W Bc t cs
 Pp:w.heap.size<Bc
theorem eW.next{w W W':Al}{Bc p p':Nat}{t:E3}{rs cs:Array Bn}(h:eW w g Bc A c ts sz t rs cs p W)(hI:gM W' g A c ts p' sz)(hG:Gr (· =g) W W'):eW w g Bc A c ts sz t rs cs p' W':=
 ⟨hI,h.gr.trans hG,h.hg,hG.blk h.res (by have:=h.hg;omega),hG.blk h.blk (by have:=h.hg;have:=h.Pp;omega),h.Pp⟩
theorem eW.put{w W:Al}{Bc p:Nat}{t:E3}{rs cs:Array Bn}(h:eW w g Bc A c ts sz t rs cs p W)(i:Nat)(v:Bn):eW w g Bc A c ts sz t rs (cs.setIfInBounds i v) p (W.setCell ⟨Bc,i,Ag⟩ v):=
 ⟨h.eX.far (show g<Bc by have:=h.hg;have:=h.Pp;omega) _,h.gr.far (show w.heap.size<=Bc by have:=h.Pp;omega) _,h.hg,h.res.far (show w.heap.size≠Bc by have:=h.Pp;omega) _,h.blk.bX i v,h.Pp⟩
theorem jD{f:FuncId}{args:Array Bn}{w W:Al}{Bc p p':Nat}{t:E3}{rs cs:Array Bn}{v:Bn}{R:Ending->Al->Prop}(h:Hid (eW w g Bc A c ts sz t rs cs p W))(hc:PC f args W g A c ts sz p' v)
 (k:∀W',Hid (eW w g Bc A c ts sz t rs cs p' W')->R (.returned v) W'):ET pG f args W R:=
 hc.mono λe W' hh=>by obtain⟨rfl,h1,h2⟩:=hh;exact k W' (lz (h.out.next h1 h2))
theorem qQ{f:FuncId}{args:Array Bn}{w W:Al}{Bc p p':Nat}{t:E3}{rs cs:Array Bn}{R:Ending->Al->Prop}(h:Hid (eW w g Bc A c ts sz t rs cs p W))(hc:ET pG f args W λe w'=>(∃v,e= .returned v)/\gM w' g A c ts p' sz/\Gr (· =g) W w')
 (k:∀v W',Hid (eW w g Bc A c ts sz t rs cs p' W')->R (.returned v) W'):ET pG f args W R:=
 hc.mono λe W' hh=>by obtain⟨⟨v,rfl⟩,h1,h2⟩:=hh;exact k v W' (lz (h.out.next h1 h2))
theorem eW.kb{w W:Al}{Bc p:Nat}{t:E3}{rs cs:Array Bn}(h:Hid (eW w g Bc A c ts sz t rs cs p W)):(∀i,W.cell? ⟨Bc,i,Ag⟩=cs[i]?)/\(∀i,W.frozen? ⟨Bc,i,Ag⟩=Bj):=⟨h.out.blk.cell,h.out.blk.frozen⟩
theorem ZS(x:aM)(w:Al)(h:gM w g A c ts now sz)(hl:ts.length<=100000)(ha:L9 ts now x=BR):
 PC 295 #[.pointer (Ai ⟨g,0,Ag⟩)] w g A c ts sz (now+8) x.val:=by
 unfold L9 at ha;simp only[BW,decide_eq_true_eq]at ha;obtain⟨⟨⟨⟨⟨⟨⟨⟨⟨⟨a1,b1⟩,a2⟩,a3⟩,a4⟩,a5⟩,a6⟩,a7⟩,a8⟩,QG⟩,hdp⟩:=ha;obtain⟨nm,kd,out,Tg,dp,rf⟩:=x;dsimp only at a1 b1 a2 a3 a4 a5 a6 a7 a8 QG hdp ⊢;subst QG hdp;have hw0:BD w.heap.size w (w.alloc (.cells #[.string ⟨#[]⟩,.int .u8 0,.bool Bj,.int .i64 0,.int .i64 0,.int .i64 0] 73)):=bN;obtain⟨w0,hw⟩:=ez (w.alloc (.cells #[.string ⟨#[]⟩,.int .u8 0,.bool Bj,.int .i64 0,.int .i64 0,.int .i64 0] 73));have jy:ah w0 w.heap.size 73 #[.string ⟨#[]⟩,.int .u8 0,.bool Bj,.int .i64 0,.int .i64 0,.int .i64 0]:=by rw[hw];exact ah.new w _ _
 rw[<-hw]at hw0;have h1:=lz (ZR ⟨#[111,117,116]⟩ out w0 (h.below hw0) hl a1);have rT:=lz jy;have aV:=lz hw0;have Mc:=lz hw;have hlt:=h.lt;have HA:=lz (ai b1 (ai a2 (ai a3 (ai a4 (ai a5 (ai a6 (ai a7 a8)))))));clear h a1 b1 a2 a3 a4 a5 a6 a7 a8 hw hw0 jy;go_enter func295,ntmps295;go_wp2_with fail;rw[<-Mc.out];refine h1.out.mono ?_;rintro e w1 ⟨rfl,PK,sK⟩;obtain⟨y,hy⟩:=ez (w1.alloc (.cells #[.string ⟨#[]⟩,.int .u8 0,.bool out,.int .i64 0,.int .i64 0,.int .i64 0] 73));have hS:eW w g w1.heap.size A c ts sz 73 #[.string ⟨#[]⟩,.int .u8 0,.bool Bj,.int .i64 0,.int .i64 0,.int .i64 0] #[.string ⟨#[]⟩,.int .u8 0,.bool out,.int .i64 0,.int .i64 0,.int .i64 0] (if out then now+1 else now) y:=by
  have hB:BD w1.heap.size w1 y:=by rw[hy];exact bN
  have hs:w.heap.size<w1.heap.size:=Nat.lt_of_lt_of_le rT.out.lt sK.size;exact⟨PK.below hB,((Gr.ak aV.out).trans sK).trans (Gr.ak hB),hlt,(sK.blk rT.out oz).below hB hs,by rw[hy];exact ah.new w1 _ _,hs⟩
 have HS:=lz hS;have Hy:=lz hy;clear hS PK sK h1 hy rT aV Mc
 cases out with
 | true=>
  have k2:y.cell? ⟨w1.heap.size,2,Ag⟩=Ai (.bool BR):=(eW.kb HS).1 2;go_wp2_with fail;rw[<-Hy.out];have sE:=HS;clear HS Hy;refine jD sE (kV nm _ sE.out.eX hl HA.out.2.1) λW2 sC=> ?_
  have k2:W2.cell? ⟨w1.heap.size,0,Ag⟩=Ai (.string ⟨#[]⟩):=(eW.kb sC).1 0;have f2:W2.frozen? ⟨w1.heap.size,0,Ag⟩=false:=(eW.kb sC).2 0;clear sE;go_wp2_with fail;have wg:=lz (sC.out.put 0 (.string nm));refine jD wg (Ay _ _ 0 _ wg.out.eX hl HA.out.2.2.1 kz) λW3 pP=> ?_
  clear k2 f2 sC wg;have k3:W3.cell? ⟨w1.heap.size,1,Ag⟩=Ai (.int .u8 0):=(eW.kb pP).1 1;have f3:W3.frozen? ⟨w1.heap.size,1,Ag⟩=false:=(eW.kb pP).2 1;go_wp2_with fail;have wh:=lz (pP.out.put 1 (.int .u8 ((0+1:Nat):Int)));refine jD wh (gY _ Tg _ wh.out.eX hl HA.out.2.2.2.1 HA.out.2.2.2.2.1) λW4 sD=> ?_
  clear k3 f3 pP wh;have k4:W4.cell? ⟨w1.heap.size,3,Ag⟩=Ai (.int .i64 0):=(eW.kb sD).1 3;have f4:W4.frozen? ⟨w1.heap.size,3,Ag⟩=false:=(eW.kb sD).2 3;have kk:W4.cell? ⟨w1.heap.size,1,Ag⟩=Ai (.int .u8 1):=(eW.kb sD).1 1;go_wp2_with fail;have Fo:=lz (sD.out.put 3 (.int .i64 Tg));refine jD Fo (gY _ rf _ Fo.out.eX hl HA.out.2.2.2.2.2.1 HA.out.2.2.2.2.2.2.1) λW5 qu=> ?_
  clear k4 f4 kk sD Fo;have k5:W5.cell? ⟨w1.heap.size,5,Ag⟩=Ai (.int .i64 0):=(eW.kb qu).1 5;have f5:W5.frozen? ⟨w1.heap.size,5,Ag⟩=false:=(eW.kb qu).2 5;go_wp2_with fail;have Rw:=lz (qu.out.put 5 (.int .i64 rf));refine qQ Rw (iX _ _ Rw.out.eX hl HA.out.2.2.2.2.2.2.2) λv6 W6 nN=> ?_
  clear k5 f5 qu Rw;have k0:W6.cell? ⟨w1.heap.size,0,Ag⟩=Ai (.string nm):=(eW.kb nN).1 0;have k1:W6.cell? ⟨w1.heap.size,1,Ag⟩=Ai (.int .u8 1):=(eW.kb nN).1 1;have k2:W6.cell? ⟨w1.heap.size,2,Ag⟩=Ai (.bool BR):=(eW.kb nN).1 2;have k3:W6.cell? ⟨w1.heap.size,3,Ag⟩=Ai (.int .i64 Tg):=(eW.kb nN).1 3;have k4:W6.cell? ⟨w1.heap.size,4,Ag⟩=Ai (.int .i64 0):=(eW.kb nN).1 4;have k5:W6.cell? ⟨w1.heap.size,5,Ag⟩=Ai (.int .i64 rf):=(eW.kb nN).1 5;have r0:=nN.out.res.cell 0;have r1:=nN.out.res.cell 1;have r2:=nN.out.res.cell 2;have r3:=nN.out.res.cell 3;have r4:=nN.out.res.cell 4;have r5:=nN.out.res.cell 5;have f0:=nN.out.res.frozen 0;have f1:=nN.out.res.frozen 1;have f2:=nN.out.res.frozen 2;have f3:=nN.out.res.frozen 3;have f4:=nN.out.res.frozen 4;have f5:=nN.out.res.frozen 5;go_wp2_with fail;have hz:ah ((((((W6.setCell ⟨w.heap.size,0,Ag⟩ (.string nm)).setCell ⟨w.heap.size,1,Ag⟩ (.int .u8 1)).setCell ⟨w.heap.size,2,Ag⟩ (.bool BR)).setCell ⟨w.heap.size,3,Ag⟩ (.int .i64 Tg)).setCell ⟨w.heap.size,4,Ag⟩ (.int .i64 0)).setCell ⟨w.heap.size,5,Ag⟩ (.int .i64 rf)) w.heap.size 73 #[.string nm,.int .u8 1,.bool BR,.int .i64 Tg,.int .i64 0,.int .i64 rf]:=by simpa using((((((nN.out.res.bX 0 (.string nm)).bX 1 (.int .u8 1)).bX 2 (.bool BR)).bX 3 (.int .i64 Tg)).bX 4 (.int .i64 0)).bX 5 (.int .i64 rf))
  have z0:=hz.cell 0;have z1:=hz.cell 1;have z2:=hz.cell 2;have z3:=hz.cell 3;have z4:=hz.cell 4;have z5:=hz.cell 5;refine GJ (v:= .agg #[.string nm,.int .u8 1,.bool BR,.int .i64 Tg,.int .i64 0,.int .i64 rf]) (by simp[results,results295,go_sem,z0,z1,z2,z3,z4,z5]) rfl ?_;exact⟨rfl,((((((nN.out.eX.far (show g<w.heap.size from hlt) _).far (show g<w.heap.size from hlt) _).far (show g<w.heap.size from hlt) _).far (show g<w.heap.size from hlt) _).far (show g<w.heap.size from hlt) _).far (show g<w.heap.size from hlt) _),((((((nN.out.gr.far nL _).far nL _).far nL _).far nL _).far nL _).far nL _)⟩
 | false=>
  have k2:y.cell? ⟨w1.heap.size,2,Ag⟩=Ai (.bool Bj):=(eW.kb HS).1 2;go_wp2_with fail;rw[<-Hy.out];refine qQ HS (iX _ _ HS.out.eX hl (by simpa using HA.out.1)) λv1 W1 sE=> ?_
  clear HS Hy k2;go_wp2_with fail;refine jD sE (kV nm _ sE.out.eX hl HA.out.2.1) λW2 sC=> ?_
  have k2:W2.cell? ⟨w1.heap.size,0,Ag⟩=Ai (.string ⟨#[]⟩):=(eW.kb sC).1 0;have f2:W2.frozen? ⟨w1.heap.size,0,Ag⟩=false:=(eW.kb sC).2 0;clear sE;go_wp2_with fail;have wg:=lz (sC.out.put 0 (.string nm));refine jD wg (Ay _ _ 0 _ wg.out.eX hl HA.out.2.2.1 kz) λW3 pP=> ?_
  clear k2 f2 sC wg;have k3:W3.cell? ⟨w1.heap.size,1,Ag⟩=Ai (.int .u8 0):=(eW.kb pP).1 1;have f3:W3.frozen? ⟨w1.heap.size,1,Ag⟩=false:=(eW.kb pP).2 1;go_wp2_with fail;have wh:=lz (pP.out.put 1 (.int .u8 ((0+1:Nat):Int)));refine jD wh (gY _ Tg _ wh.out.eX hl HA.out.2.2.2.1 HA.out.2.2.2.2.1) λW4 sD=> ?_
  clear k3 f3 pP wh;have k4:W4.cell? ⟨w1.heap.size,3,Ag⟩=Ai (.int .i64 0):=(eW.kb sD).1 3;have f4:W4.frozen? ⟨w1.heap.size,3,Ag⟩=false:=(eW.kb sD).2 3;have kk:W4.cell? ⟨w1.heap.size,1,Ag⟩=Ai (.int .u8 1):=(eW.kb sD).1 1;go_wp2_with fail;have Fo:=lz (sD.out.put 3 (.int .i64 Tg));refine jD Fo (gY _ rf _ Fo.out.eX hl HA.out.2.2.2.2.2.1 HA.out.2.2.2.2.2.2.1) λW5 qu=> ?_
  clear k4 f4 kk sD Fo;have k5:W5.cell? ⟨w1.heap.size,5,Ag⟩=Ai (.int .i64 0):=(eW.kb qu).1 5;have f5:W5.frozen? ⟨w1.heap.size,5,Ag⟩=false:=(eW.kb qu).2 5;go_wp2_with fail;have Rw:=lz (qu.out.put 5 (.int .i64 rf));refine qQ Rw (iX _ _ Rw.out.eX hl HA.out.2.2.2.2.2.2.2) λv6 W6 nN=> ?_
  clear k5 f5 qu Rw;have k0:W6.cell? ⟨w1.heap.size,0,Ag⟩=Ai (.string nm):=(eW.kb nN).1 0;have k1:W6.cell? ⟨w1.heap.size,1,Ag⟩=Ai (.int .u8 1):=(eW.kb nN).1 1;have k2:W6.cell? ⟨w1.heap.size,2,Ag⟩=Ai (.bool Bj):=(eW.kb nN).1 2;have k3:W6.cell? ⟨w1.heap.size,3,Ag⟩=Ai (.int .i64 Tg):=(eW.kb nN).1 3;have k4:W6.cell? ⟨w1.heap.size,4,Ag⟩=Ai (.int .i64 0):=(eW.kb nN).1 4;have k5:W6.cell? ⟨w1.heap.size,5,Ag⟩=Ai (.int .i64 rf):=(eW.kb nN).1 5;have r0:=nN.out.res.cell 0;have r1:=nN.out.res.cell 1;have r2:=nN.out.res.cell 2;have r3:=nN.out.res.cell 3;have r4:=nN.out.res.cell 4;have r5:=nN.out.res.cell 5;have f0:=nN.out.res.frozen 0;have f1:=nN.out.res.frozen 1;have f2:=nN.out.res.frozen 2;have f3:=nN.out.res.frozen 3;have f4:=nN.out.res.frozen 4;have f5:=nN.out.res.frozen 5;go_wp2_with fail;have hz:ah ((((((W6.setCell ⟨w.heap.size,0,Ag⟩ (.string nm)).setCell ⟨w.heap.size,1,Ag⟩ (.int .u8 1)).setCell ⟨w.heap.size,2,Ag⟩ (.bool Bj)).setCell ⟨w.heap.size,3,Ag⟩ (.int .i64 Tg)).setCell ⟨w.heap.size,4,Ag⟩ (.int .i64 0)).setCell ⟨w.heap.size,5,Ag⟩ (.int .i64 rf)) w.heap.size 73 #[.string nm,.int .u8 1,.bool Bj,.int .i64 Tg,.int .i64 0,.int .i64 rf]:=by simpa using((((((nN.out.res.bX 0 (.string nm)).bX 1 (.int .u8 1)).bX 2 (.bool Bj)).bX 3 (.int .i64 Tg)).bX 4 (.int .i64 0)).bX 5 (.int .i64 rf))
  have z0:=hz.cell 0;have z1:=hz.cell 1;have z2:=hz.cell 2;have z3:=hz.cell 3;have z4:=hz.cell 4;have z5:=hz.cell 5;refine GJ (v:= .agg #[.string nm,.int .u8 1,.bool Bj,.int .i64 Tg,.int .i64 0,.int .i64 rf]) (by simp[results,results295,go_sem,z0,z1,z2,z3,z4,z5]) rfl ?_;exact⟨rfl,((((((nN.out.eX.far (show g<w.heap.size from hlt) _).far (show g<w.heap.size from hlt) _).far (show g<w.heap.size from hlt) _).far (show g<w.heap.size from hlt) _).far (show g<w.heap.size from hlt) _).far (show g<w.heap.size from hlt) _),((((((nN.out.gr.far nL _).far nL _).far nL _).far nL _).far nL _).far nL _)⟩
end
def aM.cells(x:aM):List Value:= [.string x.nm,.int .u8 x.kd,.bool x.out,.int .i64 x.sz,.int .i64 x.dp,.int .i64 x.rf]
def ZT(t:Tok):Bool:=(!dB t ⟨#[125]⟩)&&(!dB t ⟨#[115,101,109,97,115]⟩)&&(!dB t ⟨#[98,117,102,115]⟩)&&(!dB t ⟨#[101,118,101,110,116,115]⟩)&&(!dB t ⟨#[98,111,97,114,100,115]⟩)&&(!dB t ⟨#[112,114,111,99]⟩)
def Ma(ts:List Tok)(p:Nat)(L:List aM):Bool:=(EO L.length).all λk=>(match L[k]? with | some x=>L9 ts (p+8*k) x | none=>Bj)&&gZ ts (p+8*k) ZT
theorem Rx{ts:List Tok}{p:Nat}{L:List aM}(h:Ma ts p L=BR)(k:Nat)(hk:k<L.length):L9 ts (p+8*k) L[k]=BR/\gZ ts (p+8*k) ZT=true:=by
 unfold Ma at h;have:=EL.1 h k (List.mem_range.2 hk);rw[EN hk]at this;simpa using this
def Ry(ts:List Tok)(p:Nat)(x:aC):Bool:=gZ ts p (wj x.nm)&&gZ ts (p+1) (λt=>dB t ⟨#[112,101,114,105,111,100]⟩)&&gZ ts (p+2) (Te x.pe)&&gZ ts (p+3) (λt=>dB t ⟨#[108,101,110,103,116,104]⟩)&&gZ ts (p+4) (Te x.le)&&
 gZ ts (p+5) (λt=>dB t ⟨#[109,101,109]⟩)&&gZ ts (p+6) (Te x.mem)&&gZ ts (p+7) (λt=>dB t ⟨#[123]⟩)&&Ma ts (p+8) x.aq.l&&gZ ts (p+8+8*x.aq.l.length) (λt=>dB t ⟨#[125]⟩)
abbrev ZU(nm:ByteArray)(pe le mem:Int)(v:Bn):Array Value:= #[.string nm,.int .i64 pe,.int .i64 le,.int .i64 mem,.slice Ag 0 0,.int .i64 0,.int .i64 0,.slice Ag 0 0,v,.slice Ag 0 0]
theorem aHD:(pG.info? 73).map (λi=>(i.zero,i.size,i.bytes))=Ai (Ai (.agg #[.string ⟨#[]⟩,.int .u8 0,.bool Bj,.int .i64 0,.int .i64 0,.int .i64 0]),6,48):=by kernel_rfl
section
variable {g:Nat} {A:Option EK} {c:Nat} {ts:List Tok} {now:Nat} {sz:Int}
structure iA(w:Al)(g Bc:Nat)(A:Option EK)(c:Nat)(ts:List Tok)(sz:Int)(t:E3)(rs cs:Array Bn)(e n:Nat)(v:Bn)(m:Nat)(xs:List Bn)(p:Nat)(W:Al):Prop where
 po:eW w g Bc A c ts sz t rs cs p W
 own:W.ownsRow w.heap.size e n v m xs
theorem iA.next{w W W':Al}{Bc e n m p p':Nat}{t:E3}{rs cs:Array Bn}{v:Bn}{xs:List Bn}(h:iA w g Bc A c ts sz t rs cs e n v m xs p W)(hI:gM W' g A c ts p' sz)(hG:Gr (· =g) W W'):iA w g Bc A c ts sz t rs cs e n v m xs p' W':=
 ⟨h.po.next hI hG,cO h.own hG (λk hk e=>by have:=(h.own.lt k hk).1;have:=h.po.hg;omega)⟩
theorem iA.below{w W W':Al}{Bc e n m p:Nat}{t:E3}{rs cs:Array Bn}{v:Bn}{xs:List Bn}(h:iA w g Bc A c ts sz t rs cs e n v m xs p W)(hb:BD W.heap.size W W'):iA w g Bc A c ts sz t rs cs e n v m xs p W':=h.next (h.po.eX.below hb) (Gr.ak hb)
theorem jR{f:FuncId}{args:Array Bn}{w W:Al}{Bc e n m p:Nat}{t:E3}{rs cs:Array Bn}{u v:Bn}{xs:List Bn}{R:Ending->Al->Prop}(h:Hid (iA w g Bc A c ts sz t rs cs e n v m xs p W))(hc:CV f args W u)
 (k:∀W',Hid (iA w g Bc A c ts sz t rs cs e n v m xs p W')->R (.returned u) W'):ET pG f args W R:=
 hc.mono λe W' hh=>by obtain⟨rfl,h1⟩:=hh;exact k W' (lz (h.out.below h1))
theorem iA.grow{w W W':Al}{Bc e n m p:Nat}{t:E3}{rs cs:Array Bn}{v v':Bn}{xs ys:List Bn}{o:Obj}(h:iA w g Bc A c ts sz t rs cs e n v m xs p W)(hown:W'.ownsRow w.heap.size e n v' (m+1) ys)(hG:(W.alloc o).grownBy W' v.ownBlock)(hne:e≠t):
 iA w g Bc A c ts sz t rs cs e n v' (m+1) ys p W':=by
 have h1:=h.below (W':=W.alloc o) (bN);have hgr:Gr (λk=>v.ownBlock=Ai k) (W.alloc o) W':=Gr.eO hG (λk e=>e);have JQ:∀k,v.ownBlock=Ai k->w.heap.size<=k:=λk hk=>(h1.own.lt k hk).1
 have wu:=h.po.hg;exact⟨⟨h1.po.eX.kept hgr (λk hk e=>by have:=JQ k e;omega),h1.po.gr.trans' hgr (λk hk e=>by have:=JQ k e;omega),wu,hgr.blk h1.po.res (aW h1.own h1.po.res hne),hgr.blk h1.po.blk (aW h1.own h1.po.blk hne),h1.po.Pp⟩,hown⟩
theorem iA.put{w W:Al}{Bc e n m p:Nat}{t:E3}{rs cs:Array Bn}{v:Bn}{xs:List Bn}(h:iA w g Bc A c ts sz t rs cs e n v m xs p W)(i:Nat)(u:Bn)(hne:e≠t):iA w g Bc A c ts sz t rs (cs.setIfInBounds i u) e n v m xs p (W.setCell ⟨Bc,i,Ag⟩ u):=
 ⟨h.po.put i u,cO h.own (Gr.setCell (X:=(· =Bc)) _ _ _ rfl) (λk hk e=>aW h.own h.po.blk hne (e▸hk))⟩
theorem eW.sJ{w W:Al}{Bc p:Nat}{t:E3}{rs cs:Array Bn}(h:eW w g Bc A c ts sz t rs cs p W)(i:Nat)(u:Bn):eW w g Bc A c ts sz t (rs.setIfInBounds i u) cs p (W.setCell ⟨w.heap.size,i,Ag⟩ u):=
 ⟨h.eX.far (show g<w.heap.size from h.hg) _,h.gr.far nL _,h.hg,h.res.bX i u,h.blk.far (show Bc≠w.heap.size by have:=h.Pp;omega) _,h.Pp⟩
theorem iA.sJ{w W:Al}{Bc e n m p:Nat}{t:E3}{rs cs:Array Bn}{v:Bn}{xs:List Bn}(h:iA w g Bc A c ts sz t rs cs e n v m xs p W)(hne:e≠t)(i:Nat)(u:Bn):iA w g Bc A c ts sz t (rs.setIfInBounds i u) cs e n v m xs p (W.setCell ⟨w.heap.size,i,Ag⟩ u):=
 ⟨h.po.sJ i u,cO h.own (Gr.setCell (X:=(· =w.heap.size)) _ _ _ rfl) (λk hk e=>aW h.own h.po.res hne (e▸hk))⟩
theorem aDE{f:FuncId}{args:Array Bn}{w W:Al}{Bc e n m p p':Nat}{t:E3}{rs cs:Array Bn}{v:Bn}{xs:List Bn}{R:Ending->Al->Prop}(h:Hid (iA w g Bc A c ts sz t rs cs e n v m xs p W))(hc:ET pG f args W λe w'=>(∃v,e= .returned v)/\gM w' g A c ts p' sz/\Gr (· =g) W w')
 (k:∀u W',Hid (iA w g Bc A c ts sz t rs cs e n v m xs p' W')->R (.returned u) W'):ET pG f args W R:=
 hc.mono λe W' hh=>by obtain⟨⟨u,rfl⟩,h1,h2⟩:=hh;exact k u W' (lz (h.out.next h1 h2))
theorem iA.kb{w W:Al}{Bc e n m p:Nat}{t:E3}{rs cs:Array Bn}{v:Bn}{xs:List Bn}(h:Hid (iA w g Bc A c ts sz t rs cs e n v m xs p W)):(∀i,W.cell? ⟨Bc,i,Ag⟩=cs[i]?)/\(∀i,W.frozen? ⟨Bc,i,Ag⟩=Bj):=⟨h.out.po.blk.cell,h.out.po.blk.frozen⟩
theorem iA.err{w W:Al}{Bc e n m p:Nat}{t:E3}{rs cs:Array Bn}{v:Bn}{xs:List Bn}(h:Hid (iA w g Bc A c ts sz t rs cs e n v m xs p W)):W.cell? ⟨g,4,Ag⟩=Ai (.int .i64 0):=h.out.po.eX.blk.cell 4
