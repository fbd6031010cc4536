import Derived.Lib.AppendIntMem
import Derived.Test.YtmdgooofdmpcjaaGreatDoorY3
import Derived.Test.YtmdgooofdmpcjaaGreatDoorY4
set_option maxRecDepth 100000
set_option maxHeartbeats 8000000
set_option linter.unusedSimpArgs false
set_option linter.unusedVariables false
set_option linter.unusedSectionVars false
open Go.Proofs.Tryz renaming prog → pG
open Bool renaming false->Bj,true->BR
open Option renaming none->Ag,some->Ai
open Go.Proofs.Tryz
namespace Go.Proofs.YtmdgooofdmpcjaaGreatDoor
open Fence renaming wide->FE
open Go renaming Addr->EK,Calls->ET,Value->Bn,World->Al,bodyPost_ret->GJ,callFunc->EZ
open Go.Proofs renaming enters_of->Df
open RowKit renaming Below->BD
open RowKit.Below renaming refl->BK
open World renaming putObj_heap_other->EM,putObj_heap_same->G7
section
open Go.ChangeShapes Go.WideShapes Go.ChangeAt Go.RowKit
attribute [local go_sem] Oper.semAt_some
theorem aC6{P:Program}{w:Al}{n:String}{cs:Array Bn}(h:w.var? P n=Ai cs):∃g,P.globalNamed n=Ai g/\g<w.heap.size:=by
 unfold World.var? at h
 cases hg:P.globalNamed n with
 | none=>rw[hg]at h;cases h
 | some g=>
  rw[hg]at h;simp only[Option.bind_some]at h
  cases ho:w.heap[g]? with
  | none=>rw[ho]at h;cases h
  | some o=>exact⟨g,rfl,(gE ho).1⟩
theorem qN{P:Program}{w w':Al}{n:String}{cs:Array Bn}(h:w.var? P n=Ai cs)(hb:BD w.heap.size w w'):w'.var? P n=Ai cs:=by
 obtain⟨g,hg,hl⟩:=aC6 h;exact var?_below hb hg hl h
structure ct(w:Al):Prop where
 syn:∃tp p,w.var? pG "strconv.ErrSyntax" =Ai #[.iface tp p]
 ran:∃tp p,w.var? pG "strconv.ErrRange" =Ai #[.iface tp p]
 tab:Lib.TabIs pG w "internal/strconv.uint64pow10" .u64 Lib.pow10Tab
 asc:Lib.TabIs pG w "strings.asciiSpace" .u8 Lib.asciiSpaceTab
 mx:∃m,w.cell? ⟨BL.g 1,0,Ag⟩=Ai (.int .i64 m)
theorem ct.below{w w':Al}(h:ct w)(hb:BD w.heap.size w w'):ct w':=by
 obtain⟨⟨t1,p1,h1⟩,⟨t2,p2,h2⟩,h3,h4,m,h5⟩:=h;exact⟨⟨t1,p1,qN h1 hb⟩,⟨t2,p2,qN h2 hb⟩,qN (by exact h3) hb,qN (by exact h4) hb,m,(hb.cell (p:=⟨_,0,Ag⟩) (World.block_lt_of_cell? w _ h5)).trans h5⟩
def Cz(s:ByteArray):Bool:=
 match Lib.atoiAll s.data.toList with
 | .ok v=>decide (v<=1073741824)&&(Lib.itoa v==s.toList)
 | _=>Bj
theorem Zw(s:ByteArray)(w:Al)(hs:s.size<=65536)(hL:ct w):CU 334 #[.string s] w (.bool (Cz s)):=by
 obtain⟨⟨ts,ps,aC7⟩,⟨tr,pr,aC8⟩,Ik,-,-⟩:=hL;rcases he:Lib.atoiAll s.data.toList with v | _ | _
 rotate_left
 .have hc:=Any.strconv_Atoi_syntax_var Ao s oz he ts ps w aC7
  have Hc:=lz hc;have Hr:=lz (show Cz s=Bj by unfold Cz;rw[he]);clear hc aC7 aC8 Ik he;go_enter func334,ntmps334;go_wp2_with (go_at_call 345;refine Hc.out.mono ?_;rintro e w' ⟨N,rfl,-,-,hb⟩);go_ret;exact⟨by rw[Hr.out];rfl,hb⟩
 .have hc:=Any.strconv_Atoi_range_var Ao s oz he tr pr w aC8
  have Hc:=lz hc;have Hr:=lz (show Cz s=Bj by unfold Cz;rw[he]);clear hc aC7 aC8 Ik he;go_enter func334,ntmps334;go_wp2_with (go_at_call 345;refine Hc.out.mono ?_;rintro e w' ⟨N,rfl,-,-,hb⟩);go_ret;exact⟨by rw[Hr.out];rfl,hb⟩
 .have hv:=Lib.atoiAll_bounds he
  have hc:=Any.strconv_Atoi_ok Ao s oz v he w;have hi:=fun(W:Al) (hb:BD w.heap.size w W)=>Any.strconv_Itoa NQ v hv.1 hv.2 W (qN Ik hb)
  have Hc:=lz hc;have Hi:=lz hi;have Hr:=lz (show Cz s=(decide (v<=1073741824)&&(Lib.itoa v==s.toList))by unfold Cz;rw[he]);clear hc aC7 aC8 Ik he hi hv
  cases hd:decide (v<=1073741824)with
  | false=>
   rw[hd]at Hr;go_enter func334,ntmps334;go_wp2_with (go_at_call 345;refine Hc.out.mono ?_;rintro e w' ⟨rfl,hw⟩);go_ret;refine⟨by rw[Hr.out];rfl,?_⟩;rcases hw with rfl | ⟨t,rfl⟩
   .exact BK _ _
   .exact Joins.below_bytesWorld _ _ _ _ nL
  | true=>
   rw[hd]at Hr;go_enter func334,ntmps334;go_wp2_with (go_at_call 345;refine Hc.out.mono ?_;rintro e w' ⟨rfl,hw⟩);have hb:BD w.heap.size w w':=by
    rcases hw with rfl | ⟨t,rfl⟩
    .exact BK _ _
    .exact Joins.below_bytesWorld _ _ _ _ nL
   clear hw;have Hx:=lz (Hi.out w' hb);have Hb:=lz hb;clear hb Hi;go_wp2_with (go_at_call 281;refine Hx.out.mono ?_;rintro e w2 ⟨rfl,k,os,rfl⟩);go_ret;exact⟨by rw[Hr.out];rfl,Hb.out.trans (Go.Lib.below_grow _ _ Hb.out.size _ _)⟩
open Go.Act renaming put → zP
open List renaming setIfInBounds_toArray → zA, set_cons_zero → zB, set_cons_succ → zC
def nameP(b:Int):Bool:=uq b||(vX b||(pR ⟨#[95]⟩ b||false))
def nC(s:ByteArray)(k:Nat):Nat:=fB nameP s s.size (k+1)
def aC9(t:ByteArray):Int:=if decide ((t.size:Int)>24)=BR then 71 else 0
def aDA(t:ByteArray):Int:=if Cz t=BR then 0 else 72
def Zx(w:Al)(B:Nat):Nat:=match w.cell? ⟨B,0,Ag⟩with | some (.int _ z)=>z.toNat | _=>0
theorem nH{w:Al}{B:Nat}{t:TypeId}{j:Int}{v1 v2:Bn}(h:ah w B t #[.int .u8 j,v1,v2]):Zx w B=j.toNat:=by
 have:w.cell? ⟨B,0,Ag⟩=Ai (.int .u8 j):=h.cell 0;unfold Zx;rw[this]
theorem eE:∀args w,(EZ 327 args).run pG w= .ok (.enter 327 args) w:=Df func327 kz rfl
theorem eB:∀args w,(EZ 328 args).run pG w= .ok (.enter 328 args) w:=Df func328 kz rfl
theorem eA:∀args w,(EZ 329 args).run pG w= .ok (.enter 329 args) w:=Df func329 kz rfl
theorem aGq(g k:Nat)(s:ByteArray)(l1 l2 l3:Array Bn)(w:Al)(hk:k<s.size)(hsz:s.size<=65536)
 (h:gK w g s k .nilFunc (.func (.func 327) #[] l1) (.func (.func 328) #[] l2) (.func (.func 329) #[] l3))
 (T1:fO g w 327 l1 uq) (T2:fO g w 328 l2 vX) (T3:fO g w 329 l3 Fg) (Cr:uq (fM s k)=BR):
 ET pG 317 #[.pointer (Ai ⟨g,0,Ag⟩)] w λe w'=>e= .returned (.tuple #[.agg #[.int .u8 1,.string (s.extract k (nC s k)),.int .i64 k],.int .i64 (aC9 (s.extract k (nC s k)))])/\
  gK w' g s (nC s k) .nilFunc (.func (.func 327) #[] l1) (.func (.func 328) #[] l2) (.func (.func 329) #[] l3)/\Gr (· =g) w w':=by
 obtain⟨w1,cN⟩:=ez ((w.alloc (.cells #[.int .u8 0,.string ⟨#[]⟩,.int .i64 0] 290)).alloc (.cells #[.int .u8 1,.string ⟨#[]⟩,.int .i64 k] 290));have bY:BD w.heap.size w w1:=by rw[cN];exact(bN).alloc qz _
 have hr:ah w1 w.heap.size 290 #[.int .u8 0,.string ⟨#[]⟩,.int .i64 0]:=by rw[cN];exact(ah.new w _ _).alloc _
 have pH:ah w1 (w.heap.size+1) 290 #[.int .u8 1,.string ⟨#[]⟩,.int .i64 k]:=by
  rw[cN];exact eU (w.alloc (.cells #[.int .u8 0,.string ⟨#[]⟩,.int .i64 0] 290)) (w.heap.size+1) 290 _ qz
 have VI:(w.alloc (.cells #[.int .u8 0,.string ⟨#[]⟩,.int .i64 0] 290)).cell? ⟨g,1,Ag⟩=Ai (.int .i64 k):=(ah.alloc h _).cell 1;have wu:g<w.heap.size:=ah.lt h;have lH:=lz cN;have cU:=lz bY;have VF:=lz hr;have Ht1:=lz pH;have Hh:=lz h;have KI:=lz T1;have HT2:=lz T2;have HT3:=lz T3;have Hp1:=lz Cr;clear cN bY hr pH h T1 T2 T3 Cr;go_enter func317,ntmps317;go_wp2_with fail;rw[<-lH.out];go_loopw [] (λwr=>∃j:Int,(j=1\/j=2\/j=3)/\j<=1/\ah wr (w.heap.size+1) 290 #[.int .u8 j,.string ⟨#[]⟩,.int .i64 k]/\ah wr w.heap.size 290 #[.int .u8 0,.string ⟨#[]⟩,.int .i64 0]/\BD w.heap.size w wr) (λwr=>4-Zx wr (w.heap.size+1))
 case atStart=>exact⟨1,.inl rfl,dz,Ht1.out,VF.out,cU.out⟩
 case round=>
  obtain⟨j,hj,hjK,pH,hr,hB⟩:=hrel;have hkO:=nH pH;have hS:=gK.below Hh.out hB;rcases hj with rfl | rfl | rfl
  .have OV:=pH.cell 0
   have j3:wr.cell? ⟨g,3,Ag⟩=Ai (.func (.func 327) #[] l1):=ah.cell hS 3;have gX:∀n,ET pG 332 #[.pointer (Ai ⟨g,0,Ag⟩),.func (.func 327) #[] l1] (wr.drewN n) λe w'=>e= .returned (.bool BR)/\∃m,w'=(wr.drewN n).drewN m:=λn=>by
    have BM:=aD (n:=n) hB;have ht:=(KI.out.next (Gr.ak BM)).at_ (fM s k);rw[Hp1.out]at ht;exact kU 327 l1 (fM s k) BR (wr.drewN n) (gK.below Hh.out BM) hk rfl eE ht
   have iD:=lz gX;have HS:=lz hS;have tK:=lz pH;have Hr:=lz hr;have HB:=lz hB;clear gX hS pH hr hB;go_wp2_with fail;go_quiet ((go_at_call 332;exact Calls.quiet_of (iD.out _)));have hby:BD wr.heap.size wr (wr.drewN nq):=aD (BK _ _);have Aw:=gK.below HS.out hby
   have u7:=Hr.out.below hby Hr.out.lt;have ny:=tK.out.below hby tK.out.lt;have BN:=HB.out.trans (hby.mono HB.out.size);clear hby j3 OV iD VI HS Hr tK HB;generalize wr.drewN nq=y at *;have m0:=ny.cell 0;have mf:=ny.frozen 0;obtain⟨W7,Cw⟩:=ez (y.setCell ⟨g,1,Ag⟩ (.int .i64 ((k:Int)+1)));have K3:Gr (· =g) y W7:=by rw[Cw];exact Gr.setCell (X:=(· =g)) y ⟨g,1,Ag⟩ _ rfl
   have Dr:gK W7 g s (k+1) .nilFunc (.func (.func 327) #[] l1) (.func (.func 328) #[] l2) (.func (.func 329) #[] l3):=by
    have:=Aw.step (k+1);rw[Cw];simpa using this
   have Hr7:=lz (K3.blk u7 oz);have Zy:=K3.blk ny oz;have y1:y.cell? ⟨g,1,Ag⟩=Ai (.int .i64 k):=ah.cell Aw 1;have yf:y.frozen? ⟨g,1,Ag⟩=false:=ah.frozen Aw 1;have Yw:Hid (Gr (· =g) w W7):=lz ((Gr.ak BN).trans K3);have m7:=Zy.cell 0;have hHeld:W7.drew.cell? ⟨g,3,Ag⟩=Ai (.func (.func 327) #[] l1)/\W7.drew.cell? ⟨g,4,Ag⟩=Ai (.func (.func 328) #[] l2):=⟨ah.cell Dr 3,ah.cell Dr 4⟩;have Po:=lz Dr;have Ht7:=lz Zy;have Uy:=lz Cw;clear Aw u7 ny BN K3 Dr Zy Cw;go_wp2_with fail;rw[<-Uy.out];refine aT (λW=>W.cell? ⟨g,3,Ag⟩=Ai (.func (.func 327) #[] l1)/\W.cell? ⟨g,4,Ag⟩=Ai (.func (.func 328) #[] l2)) 16 kz hHeld (λhHeld=> ?_);refine TS 0 rfl hHeld ?_
   simp only[zP,zA,zB,zC];refine TS 1 rfl hHeld ?_
   simp only[zP,zA,zB,zC];refine TS 2 rfl hHeld ?_
   simp only[zP,zA,zB,zC];refine TS 3 rfl hHeld ?_
   simp only[zP,zA,zB,zC];refine TS 4 rfl hHeld ?_
   simp only[zP,zA,zB,zC];refine TS 5 rfl hHeld ?_
   simp only[zP,zA,zB,zC];refine TS 6 rfl hHeld ?_
   simp only[zP,zA,zB,zC];refine TS 7 rfl hHeld ?_
   simp only[zP,zA,zB,zC];refine TS 8 rfl hHeld ?_
   simp only[zP,zA,zB,zC];refine TS 9 rfl hHeld ?_
   simp only[zP,zA,zB,zC];refine TS 10 rfl hHeld ?_
   simp only[zP,zA,zB,zC];refine TS 11 rfl hHeld ?_
   simp only[zP,zA,zB,zC];refine TS 12 rfl hHeld ?_
   simp only[zP,zA,zB,zC];refine RQ 13 rfl λK hK=> ?_;go_simp;refine(rO _ _).mono ?_;rintro e w' ⟨rfl,rfl⟩;have Mi:BD W7.heap.size W7 (W7.drew.alloc (.cells #[.string ⟨#[95]⟩] 9)):=(BK _ W7).drew.alloc nL _;have KV:ah (W7.drew.alloc (.cells #[.string ⟨#[95]⟩] 9)) W7.heap.size 9 #[.string ⟨#[95]⟩]:=ah.new W7.drew _ _;have hz8:(W7.drew.alloc (.cells #[.string ⟨#[95]⟩] 9)).heap.size=W7.heap.size+1:=by simp
   have OW:∀W,BD W7.heap.size W7 W->W.cell? ⟨g,3,Ag⟩=Ai (.func (.func 327) #[] l1)/\W.cell? ⟨g,4,Ag⟩=Ai (.func (.func 328) #[] l2):=λW hW=>⟨ah.cell (gK.below Po.out hW) 3,ah.cell (gK.below Po.out hW) 4⟩
   have vY:=lz OW;have H8:=lz Mi;have N8:=lz KV;have Z8:=lz hz8;refine hK.out _ _ (λ_=>vY.out _ H8.out) ?_;clear hK OW Mi hHeld KV hz8;refine RQ 14 rfl λK hK=> ?_;go_simp;have Ms:=H8.out.alloc H8.out.size (.cells #[.func (.func 327) #[] l1,.func (.func 328) #[] l2,.func (.func 329) #[] #[.pointer (Ai ⟨W7.drew.heap.size,0,Ag⟩)]] 278);have yZ:=eU (W7.drew.alloc (.cells #[.string ⟨#[95]⟩] 9)) (W7.heap.size+1) 278 #[.func (.func 327) #[] l1,.func (.func 328) #[] l2,.func (.func 329) #[] #[.pointer (Ai ⟨W7.drew.heap.size,0,Ag⟩)]] Z8.out;have KV:=N8.out.alloc (.cells #[.func (.func 327) #[] l1,.func (.func 328) #[] l2,.func (.func 329) #[] #[.pointer (Ai ⟨W7.drew.heap.size,0,Ag⟩)]] 278);have H9:=lz Ms;have N9:=lz yZ;have N89:=lz KV;refine hK.out _ _ (λ_=>vY.out _ H9.out) ?_;clear hK Ms yZ KV;refine RQ 15 rfl λK hK=> ?_;go_simp;refine(EH _ _ _ _).mono ?_;rintro e w' ⟨rfl,hw'⟩;have hzz:((W7.drew.alloc (.cells #[.string ⟨#[95]⟩] 9)).alloc (.cells #[.func (.func 327) #[] l1,.func (.func 328) #[] l2,.func (.func 329) #[] #[.pointer (Ai ⟨W7.drew.heap.size,0,Ag⟩)]] 278)).heap.size=W7.heap.size+2:=by simp
   have zU:BD W7.heap.size W7 w':=by rw[hw'];exact H9.out.alloc H9.out.size _
   have Zz:ah w' (W7.heap.size+2) 347 #[.slice (Ai ⟨W7.heap.size+1,0,Ag⟩) 3 3]:=by
    rw[hw'];exact eU _ _ _ _ hzz
   have yZ:ah w' (W7.heap.size+1) 278 #[.func (.func 327) #[] l1,.func (.func 328) #[] l2,.func (.func 329) #[] #[.pointer (Ai ⟨W7.heap.size,0,Ag⟩)]]:=by rw[hw'];exact N9.out.alloc _
   have KV:ah w' W7.heap.size 9 #[.string ⟨#[95]⟩]:=by rw[hw'];exact N89.out.alloc _
   have H10:=lz zU;have Vv:g<W7.heap.size:=ah.lt Po.out;have Ru:Gr (· =g) w w':=Yw.out.trans (Gr.ak zU);have hTn:fO g w' 327 #[.pointer (Ai ⟨W7.heap.size+2,0,Ag⟩)] nameP:=by
    refine EI [(327,l1,uq),(328,l2,vX),(329,#[.pointer (Ai ⟨W7.heap.size,0,Ag⟩)],pR ⟨#[95]⟩)] Zz oz oz yZ.lt (λi hi=> ?_) qz;have uz:i=0\/i=1\/i=2:=by simp at hi;omega
    rcases uz with rfl | rfl | rfl
    .exact⟨yZ.cell 0,eE,KI.out.next Ru⟩
    .exact⟨yZ.cell 1,eB,HT2.out.next Ru⟩
    .exact⟨yZ.cell 2,eA,yH KV oz⟩
   have hwh:=Dc nameP 327 #[.pointer (Ai ⟨W7.heap.size+2,0,Ag⟩)] (k+1) s.size w' (gK.below Po.out zU) oz oz oz eE hTn;have Hwh:=lz hwh;refine hK.out _ _ (λ_=>vY.out _ H10.out) ?_;clear hK zU hw' hzz Zz yZ KV Ru hTn hwh;refine RQ 16 rfl λK hK=> ?_;go_simp;refine Hwh.out.mono ?_;rintro e wv ⟨⟨v11,rfl⟩,mA,ZA⟩;have H11:=lz ((Gr.ak (X:=(· =g)) H10.out).trans ZA);have aGt:=lz mA;refine hK.out _ _ (λh=>absurd h dz) ?_;clear hK ZA mA;refine aL kz ?_ _;have mA:gK wv g s (nC s k) .nilFunc (.func (.func 327) #[] l1) (.func (.func 328) #[] l2) (.func (.func 329) #[] l3):=aGt.out;have OX:=H11.out.blk Hr7.out oz;have tL:=H11.out.blk Ht7.out oz;have BO:=Yw.out.trans H11.out;have hle:nC s k<=s.size:=jc nameP s s.size (k+1) oz;have JQ:k+1<=nC s k:=jC nameP s s.size (k+1);obtain⟨m,hm⟩:=ez (nC s k);rw[<-hm]at mA hle JQ;have Hm:=lz hm;clear hm;have n0:wv.drew.cell? ⟨g,0,Ag⟩=Ai (.string s):=ah.cell mA 0;have n1:wv.drew.cell? ⟨g,1,Ag⟩=Ai (.int .i64 m):=ah.cell mA 1;have n2:=tL.cell 2;have n3:=tL.cell 1;have n4:=tL.frozen 1;have hz1:(0:Int)<=(k:Int):=by omega
   have hz2:(k:Int)<=(m:Int):=by omega
   have IC:(m:Int)<=(s.size:Int):=by omega
   have ZB:=lz tL;have ZC:=lz OX;have OY:=lz mA;have OZ:=lz BO;clear mA OX tL BO y1 yf m0 mf;go_wp2_with fail;go_region;try simp only[Int.toNat_natCast]
   obtain⟨tx,Tc⟩:=ez (s.extract k m);have htz:tx.size<=65536:=by rw[Tc,ByteArray.size_extract];omega
   have Htx:=lz (show(s.extract k (nC s k))=tx by rw[Tc,Hm.out]);rw[<-Tc];clear Tc;obtain⟨sI,tM⟩:=ez ((wv.setCell ⟨w.heap.size+1,1,Ag⟩ (.string tx)).drew);have yQ:Gr (· =w.heap.size+1) wv sI:=by rw[tM];exact(Gr.setCell (X:=(· =w.heap.size+1)) wv ⟨w.heap.size+1,1,Ag⟩ _ rfl).trans (Gr.ak (BK _ _).drew)
   have tN:ah sI (w.heap.size+1) 290 #[.int .u8 1,.string tx,.int .i64 k]:=by rw[tM];have:=ZB.out.bX 1 (.string tx);simpa using(this.drew)
   have mw:=yQ.blk ZC.out oz;have yR:Hid (gK sI g s m .nilFunc (.func (.func 327) #[] l1) (.func (.func 328) #[] l2) (.func (.func 329) #[] l3)):=lz (yQ.blk OY.out oz);have FB:Hid (Gr (· =g) w sI):=lz (OZ.out.trans' yQ (λk hk e=>by omega));have t0:=tN.cell 0;have t1:=tN.cell 1;have t2:=tN.cell 2;have r0:=mw.cell 0;have r1:=mw.cell 1;have r2:=mw.cell 2;have fr0:=mw.frozen 0;have fr1:=mw.frozen 1;have fr2:=mw.frozen 2;have qO:=lz mw;have ZE:=lz tM;have Vh:=lz tN;clear yQ tN mw tM n0 n1 n2 n3 n4 hz1 hz2 IC;rw[<-ZE.out]
   cases h24:decide ((tx.size:Int)>24)with
   | true=>
    go_wp2_with fail;have hz:=((qO.out.bX 0 (.int .u8 1)).bX 1 (.string tx)).bX 2 (.int .i64 k);have qj:Gr (· =w.heap.size) sI (((sI.setCell ⟨w.heap.size,0,Ag⟩ (.int .u8 1)).setCell ⟨w.heap.size,1,Ag⟩ (.string tx)).setCell ⟨w.heap.size,2,Ag⟩ (.int .i64 k)):=
     ((Gr.setCell (X:=(· =w.heap.size)) sI ⟨w.heap.size,0,Ag⟩ _ rfl).trans (Gr.setCell (X:=(· =w.heap.size)) _ ⟨w.heap.size,1,Ag⟩ _ rfl)).trans (Gr.setCell (X:=(· =w.heap.size)) _ ⟨w.heap.size,2,Ag⟩ _ rfl)
    have Fj:=qj.blk yR.out oz;have ZF:=FB.out.trans' qj (λk hk e=>by omega);clear qO yR FB;generalize (((sI.setCell ⟨w.heap.size,0,Ag⟩ (.int .u8 1)).setCell ⟨w.heap.size,1,Ag⟩ (.string tx)).setCell ⟨w.heap.size,2,Ag⟩ (.int .i64 k))=W14 at *;have z0:=hz.cell 0;have z1:=hz.cell 1;have z2:=hz.cell 2;refine GJ (v:= .tuple #[.agg #[.int .u8 1,.string tx,.int .i64 k],.int .i64 71]) (by simp[results,results317,go_sem,z0,z1,z2]) rfl ⟨?_,?_,ZF⟩
    .rw[Htx.out];unfold aC9;rw[h24];rfl
    .rw[<-Hm.out];exact Fj
   | false=>
    go_wp2_with fail;have hz:=((qO.out.bX 0 (.int .u8 1)).bX 1 (.string tx)).bX 2 (.int .i64 k);have qj:Gr (· =w.heap.size) sI (((sI.setCell ⟨w.heap.size,0,Ag⟩ (.int .u8 1)).setCell ⟨w.heap.size,1,Ag⟩ (.string tx)).setCell ⟨w.heap.size,2,Ag⟩ (.int .i64 k)):=
     ((Gr.setCell (X:=(· =w.heap.size)) sI ⟨w.heap.size,0,Ag⟩ _ rfl).trans (Gr.setCell (X:=(· =w.heap.size)) _ ⟨w.heap.size,1,Ag⟩ _ rfl)).trans (Gr.setCell (X:=(· =w.heap.size)) _ ⟨w.heap.size,2,Ag⟩ _ rfl)
    have Fj:=qj.blk yR.out oz;have ZF:=FB.out.trans' qj (λk hk e=>by omega);clear qO yR FB;generalize (((sI.setCell ⟨w.heap.size,0,Ag⟩ (.int .u8 1)).setCell ⟨w.heap.size,1,Ag⟩ (.string tx)).setCell ⟨w.heap.size,2,Ag⟩ (.int .i64 k))=W14 at *;have z0:=hz.cell 0;have z1:=hz.cell 1;have z2:=hz.cell 2;refine GJ (v:= .tuple #[.agg #[.int .u8 1,.string tx,.int .i64 k],.int .i64 0]) (by simp[results,results317,go_sem,z0,z1,z2]) rfl ⟨?_,?_,ZF⟩
    .rw[Htx.out];unfold aC9;rw[h24];rfl
    .rw[<-Hm.out];exact Fj
  .exact absurd hjK dz
  .exact absurd hjK dz
theorem aGv(g k:Nat)(s:ByteArray)(l1 l2 l3:Array Bn)(w:Al)(hk:k<s.size)(hsz:s.size<=65536)
 (h:gK w g s k .nilFunc (.func (.func 327) #[] l1) (.func (.func 328) #[] l2) (.func (.func 329) #[] l3))
 (T1:fO g w 327 l1 uq) (T2:fO g w 328 l2 vX) (T3:fO g w 329 l3 Fg)
 (sZ:∀W t,Gr (· =g) w W->t.size<=65536->CU 334 #[.string t] W (.bool (Cz t))) (Cr:uq (fM s k)=Bj) (zO:vX (fM s k)=BR):
 ET pG 317 #[.pointer (Ai ⟨g,0,Ag⟩)] w λe w'=>e= .returned (.tuple #[.agg #[.int .u8 2,.string (s.extract k (nC s k)),.int .i64 k],.int .i64 (aDA (s.extract k (nC s k)))])/\
  gK w' g s (nC s k) .nilFunc (.func (.func 327) #[] l1) (.func (.func 328) #[] l2) (.func (.func 329) #[] l3)/\Gr (· =g) w w':=by
 obtain⟨w1,cN⟩:=ez ((w.alloc (.cells #[.int .u8 0,.string ⟨#[]⟩,.int .i64 0] 290)).alloc (.cells #[.int .u8 1,.string ⟨#[]⟩,.int .i64 k] 290));have bY:BD w.heap.size w w1:=by rw[cN];exact(bN).alloc qz _
 have hr:ah w1 w.heap.size 290 #[.int .u8 0,.string ⟨#[]⟩,.int .i64 0]:=by rw[cN];exact(ah.new w _ _).alloc _
 have pH:ah w1 (w.heap.size+1) 290 #[.int .u8 1,.string ⟨#[]⟩,.int .i64 k]:=by
  rw[cN];exact eU (w.alloc (.cells #[.int .u8 0,.string ⟨#[]⟩,.int .i64 0] 290)) (w.heap.size+1) 290 _ qz
 have VI:(w.alloc (.cells #[.int .u8 0,.string ⟨#[]⟩,.int .i64 0] 290)).cell? ⟨g,1,Ag⟩=Ai (.int .i64 k):=(ah.alloc h _).cell 1;have wu:g<w.heap.size:=ah.lt h;have lH:=lz cN;have cU:=lz bY;have VF:=lz hr;have Ht1:=lz pH;have Hh:=lz h;have KI:=lz T1;have HT2:=lz T2;have HT3:=lz T3;have Gb:=lz sZ;clear sZ;have Hp1:=lz Cr;have Hp2:=lz zO;clear cN bY hr pH h T1 T2 T3 Cr zO;go_enter func317,ntmps317;go_wp2_with fail;rw[<-lH.out];go_loopw [] (λwr=>∃j:Int,(j=1\/j=2\/j=3)/\j<=2/\ah wr (w.heap.size+1) 290 #[.int .u8 j,.string ⟨#[]⟩,.int .i64 k]/\ah wr w.heap.size 290 #[.int .u8 0,.string ⟨#[]⟩,.int .i64 0]/\BD w.heap.size w wr) (λwr=>4-Zx wr (w.heap.size+1))
 case atStart=>exact⟨1,.inl rfl,dz,Ht1.out,VF.out,cU.out⟩
 case round=>
  obtain⟨j,hj,hjK,pH,hr,hB⟩:=hrel;have hkO:=nH pH;have hS:=gK.below Hh.out hB;rcases hj with rfl | rfl | rfl
  .have OV:=pH.cell 0
   have j3:wr.cell? ⟨g,3,Ag⟩=Ai (.func (.func 327) #[] l1):=ah.cell hS 3;have gX:∀n,ET pG 332 #[.pointer (Ai ⟨g,0,Ag⟩),.func (.func 327) #[] l1] (wr.drewN n) λe w'=>e= .returned (.bool Bj)/\∃m,w'=(wr.drewN n).drewN m:=λn=>by
    have BM:=aD (n:=n) hB;have ht:=(KI.out.next (Gr.ak BM)).at_ (fM s k);rw[Hp1.out]at ht;exact kU 327 l1 (fM s k) Bj (wr.drewN n) (gK.below Hh.out BM) hk rfl eE ht
   have iD:=lz gX;have HS:=lz hS;have tK:=lz pH;have Hr:=lz hr;have HB:=lz hB;clear gX hS pH hr hB;go_wp2_with fail;go_quiet ((go_at_call 332;exact Calls.quiet_of (iD.out _)));have hby:BD wr.heap.size wr (wr.drewN nq):=aD (BK _ _);have Aw:=gK.below HS.out hby
   have u7:=Hr.out.below hby Hr.out.lt;have ny:=tK.out.below hby tK.out.lt;have BN:=HB.out.trans (hby.mono HB.out.size);clear hby j3 OV iD VI HS Hr tK HB;generalize wr.drewN nq=y at *;have m0:=ny.cell 0;have mf:=ny.frozen 0;have jY:=ny.bX 0 (.int .u8 2);have Td:=u7.far (p:=⟨w.heap.size+1,0,Ag⟩) (by show w.heap.size≠w.heap.size+1;omega) (.int .u8 2);have pq:=BN.setCell (p:=⟨w.heap.size+1,0,Ag⟩) (by show w.heap.size<=w.heap.size+1;omega) (.int .u8 2);have HR:=lz (ai jY (ai Td pq));clear jY Td pq Aw u7 ny BN;go_wp2;go_roundw
   case rel=>exact⟨2,dz,dz,by simpa using HR.out.1,HR.out.2.1,HR.out.2.2⟩
   case measure=>
    have rZ:Zx (y.setCell ⟨w.heap.size+1,0,Ag⟩ (.int .u8 2)) (w.heap.size+1)=(2:Int).toNat:=nH (t:=290) (v1:= .string ⟨#[]⟩) (v2:= .int .i64 k) (by simpa using HR.out.1);rw[hkO];first | (rw[rZ];decide) | (simp[rZ]<;>omega)
  .have OV:=pH.cell 0
   have j3:wr.cell? ⟨g,4,Ag⟩=Ai (.func (.func 328) #[] l2):=ah.cell hS 4;have gX:∀n,ET pG 332 #[.pointer (Ai ⟨g,0,Ag⟩),.func (.func 328) #[] l2] (wr.drewN n) λe w'=>e= .returned (.bool BR)/\∃m,w'=(wr.drewN n).drewN m:=λn=>by
    have BM:=aD (n:=n) hB;have ht:=(HT2.out.next (Gr.ak BM)).at_ (fM s k);rw[Hp2.out]at ht;exact kU 328 l2 (fM s k) BR (wr.drewN n) (gK.below Hh.out BM) hk rfl eB ht
   have iD:=lz gX;have HS:=lz hS;have tK:=lz pH;have Hr:=lz hr;have HB:=lz hB;clear gX hS pH hr hB;go_wp2_with fail;go_quiet ((go_at_call 332;exact Calls.quiet_of (iD.out _)));have hby:BD wr.heap.size wr (wr.drewN nq):=aD (BK _ _);have Aw:=gK.below HS.out hby
   have u7:=Hr.out.below hby Hr.out.lt;have ny:=tK.out.below hby tK.out.lt;have BN:=HB.out.trans (hby.mono HB.out.size);clear hby j3 OV iD VI HS Hr tK HB;generalize wr.drewN nq=y at *;have m0:=ny.cell 0;have mf:=ny.frozen 0;obtain⟨W7,Cw⟩:=ez (y.setCell ⟨g,1,Ag⟩ (.int .i64 ((k:Int)+1)));have K3:Gr (· =g) y W7:=by rw[Cw];exact Gr.setCell (X:=(· =g)) y ⟨g,1,Ag⟩ _ rfl
   have Dr:gK W7 g s (k+1) .nilFunc (.func (.func 327) #[] l1) (.func (.func 328) #[] l2) (.func (.func 329) #[] l3):=by
    have:=Aw.step (k+1);rw[Cw];simpa using this
   have Hr7:=lz (K3.blk u7 oz);have Zy:=K3.blk ny oz;have y1:y.cell? ⟨g,1,Ag⟩=Ai (.int .i64 k):=ah.cell Aw 1;have yf:y.frozen? ⟨g,1,Ag⟩=false:=ah.frozen Aw 1;have Yw:Hid (Gr (· =g) w W7):=lz ((Gr.ak BN).trans K3);have m7:=Zy.cell 0;have hHeld:W7.drew.cell? ⟨g,3,Ag⟩=Ai (.func (.func 327) #[] l1)/\W7.drew.cell? ⟨g,4,Ag⟩=Ai (.func (.func 328) #[] l2):=⟨ah.cell Dr 3,ah.cell Dr 4⟩;have Po:=lz Dr;have Ht7:=lz Zy;have Uy:=lz Cw;clear Aw u7 ny BN K3 Dr Zy Cw;go_wp2_with fail;rw[<-Uy.out];refine aT (λW=>W.cell? ⟨g,3,Ag⟩=Ai (.func (.func 327) #[] l1)/\W.cell? ⟨g,4,Ag⟩=Ai (.func (.func 328) #[] l2)) 16 kz hHeld (λhHeld=> ?_);refine TS 0 rfl hHeld ?_
   simp only[zP,zA,zB,zC];refine TS 1 rfl hHeld ?_
   simp only[zP,zA,zB,zC];refine TS 2 rfl hHeld ?_
   simp only[zP,zA,zB,zC];refine TS 3 rfl hHeld ?_
   simp only[zP,zA,zB,zC];refine TS 4 rfl hHeld ?_
   simp only[zP,zA,zB,zC];refine TS 5 rfl hHeld ?_
   simp only[zP,zA,zB,zC];refine TS 6 rfl hHeld ?_
   simp only[zP,zA,zB,zC];refine TS 7 rfl hHeld ?_
   simp only[zP,zA,zB,zC];refine TS 8 rfl hHeld ?_
   simp only[zP,zA,zB,zC];refine TS 9 rfl hHeld ?_
   simp only[zP,zA,zB,zC];refine TS 10 rfl hHeld ?_
   simp only[zP,zA,zB,zC];refine TS 11 rfl hHeld ?_
   simp only[zP,zA,zB,zC];refine TS 12 rfl hHeld ?_
   simp only[zP,zA,zB,zC];refine RQ 13 rfl λK hK=> ?_;go_simp;refine(rO _ _).mono ?_;rintro e w' ⟨rfl,rfl⟩;have Mi:BD W7.heap.size W7 (W7.drew.alloc (.cells #[.string ⟨#[95]⟩] 9)):=(BK _ W7).drew.alloc nL _;have KV:ah (W7.drew.alloc (.cells #[.string ⟨#[95]⟩] 9)) W7.heap.size 9 #[.string ⟨#[95]⟩]:=ah.new W7.drew _ _;have hz8:(W7.drew.alloc (.cells #[.string ⟨#[95]⟩] 9)).heap.size=W7.heap.size+1:=by simp
   have OW:∀W,BD W7.heap.size W7 W->W.cell? ⟨g,3,Ag⟩=Ai (.func (.func 327) #[] l1)/\W.cell? ⟨g,4,Ag⟩=Ai (.func (.func 328) #[] l2):=λW hW=>⟨ah.cell (gK.below Po.out hW) 3,ah.cell (gK.below Po.out hW) 4⟩
   have vY:=lz OW;have H8:=lz Mi;have N8:=lz KV;have Z8:=lz hz8;refine hK.out _ _ (λ_=>vY.out _ H8.out) ?_;clear hK OW Mi hHeld KV hz8;refine RQ 14 rfl λK hK=> ?_;go_simp;have Ms:=H8.out.alloc H8.out.size (.cells #[.func (.func 327) #[] l1,.func (.func 328) #[] l2,.func (.func 329) #[] #[.pointer (Ai ⟨W7.drew.heap.size,0,Ag⟩)]] 278);have yZ:=eU (W7.drew.alloc (.cells #[.string ⟨#[95]⟩] 9)) (W7.heap.size+1) 278 #[.func (.func 327) #[] l1,.func (.func 328) #[] l2,.func (.func 329) #[] #[.pointer (Ai ⟨W7.drew.heap.size,0,Ag⟩)]] Z8.out;have KV:=N8.out.alloc (.cells #[.func (.func 327) #[] l1,.func (.func 328) #[] l2,.func (.func 329) #[] #[.pointer (Ai ⟨W7.drew.heap.size,0,Ag⟩)]] 278);have H9:=lz Ms;have N9:=lz yZ;have N89:=lz KV;refine hK.out _ _ (λ_=>vY.out _ H9.out) ?_;clear hK Ms yZ KV;refine RQ 15 rfl λK hK=> ?_;go_simp;refine(EH _ _ _ _).mono ?_;rintro e w' ⟨rfl,hw'⟩;have hzz:((W7.drew.alloc (.cells #[.string ⟨#[95]⟩] 9)).alloc (.cells #[.func (.func 327) #[] l1,.func (.func 328) #[] l2,.func (.func 329) #[] #[.pointer (Ai ⟨W7.drew.heap.size,0,Ag⟩)]] 278)).heap.size=W7.heap.size+2:=by simp
   have zU:BD W7.heap.size W7 w':=by rw[hw'];exact H9.out.alloc H9.out.size _
   have Zz:ah w' (W7.heap.size+2) 347 #[.slice (Ai ⟨W7.heap.size+1,0,Ag⟩) 3 3]:=by
    rw[hw'];exact eU _ _ _ _ hzz
   have yZ:ah w' (W7.heap.size+1) 278 #[.func (.func 327) #[] l1,.func (.func 328) #[] l2,.func (.func 329) #[] #[.pointer (Ai ⟨W7.heap.size,0,Ag⟩)]]:=by rw[hw'];exact N9.out.alloc _
   have KV:ah w' W7.heap.size 9 #[.string ⟨#[95]⟩]:=by rw[hw'];exact N89.out.alloc _
   have H10:=lz zU;have Vv:g<W7.heap.size:=ah.lt Po.out;have Ru:Gr (· =g) w w':=Yw.out.trans (Gr.ak zU);have hTn:fO g w' 327 #[.pointer (Ai ⟨W7.heap.size+2,0,Ag⟩)] nameP:=by
    refine EI [(327,l1,uq),(328,l2,vX),(329,#[.pointer (Ai ⟨W7.heap.size,0,Ag⟩)],pR ⟨#[95]⟩)] Zz oz oz yZ.lt (λi hi=> ?_) qz;have uz:i=0\/i=1\/i=2:=by simp at hi;omega
    rcases uz with rfl | rfl | rfl
    .exact⟨yZ.cell 0,eE,KI.out.next Ru⟩
    .exact⟨yZ.cell 1,eB,HT2.out.next Ru⟩
    .exact⟨yZ.cell 2,eA,yH KV oz⟩
   have hwh:=Dc nameP 327 #[.pointer (Ai ⟨W7.heap.size+2,0,Ag⟩)] (k+1) s.size w' (gK.below Po.out zU) oz oz oz eE hTn;have Hwh:=lz hwh;refine hK.out _ _ (λ_=>vY.out _ H10.out) ?_;clear hK zU hw' hzz Zz yZ KV Ru hTn hwh;refine RQ 16 rfl λK hK=> ?_;go_simp;refine Hwh.out.mono ?_;rintro e wv ⟨⟨v11,rfl⟩,mA,ZA⟩;have H11:=lz ((Gr.ak (X:=(· =g)) H10.out).trans ZA);have aGt:=lz mA;refine hK.out _ _ (λh=>absurd h dz) ?_;clear hK ZA mA;refine aL kz ?_ _;have mA:gK wv g s (nC s k) .nilFunc (.func (.func 327) #[] l1) (.func (.func 328) #[] l2) (.func (.func 329) #[] l3):=aGt.out;have OX:=H11.out.blk Hr7.out oz;have tL:=H11.out.blk Ht7.out oz;have BO:=Yw.out.trans H11.out;have hle:nC s k<=s.size:=jc nameP s s.size (k+1) oz;have JQ:k+1<=nC s k:=jC nameP s s.size (k+1);obtain⟨m,hm⟩:=ez (nC s k);rw[<-hm]at mA hle JQ;have Hm:=lz hm;clear hm;have n0:wv.drew.cell? ⟨g,0,Ag⟩=Ai (.string s):=ah.cell mA 0;have n1:wv.drew.cell? ⟨g,1,Ag⟩=Ai (.int .i64 m):=ah.cell mA 1;have n2:=tL.cell 2;have n3:=tL.cell 1;have n4:=tL.frozen 1;have hz1:(0:Int)<=(k:Int):=by omega
   have hz2:(k:Int)<=(m:Int):=by omega
   have IC:(m:Int)<=(s.size:Int):=by omega
   have ZB:=lz tL;have ZC:=lz OX;have OY:=lz mA;have OZ:=lz BO;clear mA OX tL BO y1 yf m0 mf;go_wp2_with fail;go_region;try simp only[Int.toNat_natCast]
   obtain⟨tx,Tc⟩:=ez (s.extract k m);have htz:tx.size<=65536:=by rw[Tc,ByteArray.size_extract];omega
   have Htx:=lz (show(s.extract k (nC s k))=tx by rw[Tc,Hm.out]);rw[<-Tc];clear Tc;obtain⟨sI,tM⟩:=ez ((wv.setCell ⟨w.heap.size+1,1,Ag⟩ (.string tx)).drew);have yQ:Gr (· =w.heap.size+1) wv sI:=by rw[tM];exact(Gr.setCell (X:=(· =w.heap.size+1)) wv ⟨w.heap.size+1,1,Ag⟩ _ rfl).trans (Gr.ak (BK _ _).drew)
   have tN:ah sI (w.heap.size+1) 290 #[.int .u8 2,.string tx,.int .i64 k]:=by rw[tM];have:=ZB.out.bX 1 (.string tx);simpa using(this.drew)
   have mw:=yQ.blk ZC.out oz;have yR:Hid (gK sI g s m .nilFunc (.func (.func 327) #[] l1) (.func (.func 328) #[] l2) (.func (.func 329) #[] l3)):=lz (yQ.blk OY.out oz);have FB:Hid (Gr (· =g) w sI):=lz (OZ.out.trans' yQ (λk hk e=>by omega));have t0:=tN.cell 0;have t1:=tN.cell 1;have t2:=tN.cell 2;have r0:=mw.cell 0;have r1:=mw.cell 1;have r2:=mw.cell 2;have fr0:=mw.frozen 0;have fr1:=mw.frozen 1;have fr2:=mw.frozen 2;have qO:=lz mw;have ZE:=lz tM;have Vh:=lz tN;clear yQ tN mw tM n0 n1 n2 n3 n4 hz1 hz2 IC;rw[<-ZE.out];have KM:=lz (Gb.out sI tx FB.out htz);clear Gb
   cases uH:Cz tx with
   | true=>
    rw[uH]at KM;go_wp2_with fail;refine KM.out.mono ?_;rintro e VH ⟨rfl,Aj⟩;have qq:=lz (qO.out.below Aj qO.out.lt);have ZG:=lz (gK.below yR.out Aj);have ZH:=lz (FB.out.trans (Gr.ak (X:=(· =g)) Aj));have LY:=Vh.out.below Aj Vh.out.lt;have t0:=LY.cell 0;have t1:=LY.cell 1;have t2:=LY.cell 2;have r0:=qq.out.cell 0;have r1:=qq.out.cell 1;have r2:=qq.out.cell 2;have fr0:=qq.out.frozen 0;have fr1:=qq.out.frozen 1;have fr2:=qq.out.frozen 2;clear Aj LY;go_wp2_with fail;have hz:=((qq.out.bX 0 (.int .u8 2)).bX 1 (.string tx)).bX 2 (.int .i64 k);have qj:Gr (· =w.heap.size) VH (((VH.setCell ⟨w.heap.size,0,Ag⟩ (.int .u8 2)).setCell ⟨w.heap.size,1,Ag⟩ (.string tx)).setCell ⟨w.heap.size,2,Ag⟩ (.int .i64 k)):=
     ((Gr.setCell (X:=(· =w.heap.size)) VH ⟨w.heap.size,0,Ag⟩ _ rfl).trans (Gr.setCell (X:=(· =w.heap.size)) _ ⟨w.heap.size,1,Ag⟩ _ rfl)).trans (Gr.setCell (X:=(· =w.heap.size)) _ ⟨w.heap.size,2,Ag⟩ _ rfl)
    have Fj:=qj.blk ZG.out oz;have ZF:=ZH.out.trans' qj (λk hk e=>by omega);clear qq ZG ZH;generalize (((VH.setCell ⟨w.heap.size,0,Ag⟩ (.int .u8 2)).setCell ⟨w.heap.size,1,Ag⟩ (.string tx)).setCell ⟨w.heap.size,2,Ag⟩ (.int .i64 k))=W14 at *;have z0:=hz.cell 0;have z1:=hz.cell 1;have z2:=hz.cell 2;refine GJ (v:= .tuple #[.agg #[.int .u8 2,.string tx,.int .i64 k],.int .i64 0]) (by simp[results,results317,go_sem,z0,z1,z2]) rfl ⟨?_,?_,ZF⟩
    .rw[Htx.out];unfold aDA;rw[uH];rfl
    .rw[<-Hm.out];exact Fj
   | false=>
    rw[uH]at KM;go_wp2_with fail;refine KM.out.mono ?_;rintro e VH ⟨rfl,Aj⟩;have qq:=lz (qO.out.below Aj qO.out.lt);have ZG:=lz (gK.below yR.out Aj);have ZH:=lz (FB.out.trans (Gr.ak (X:=(· =g)) Aj));have LY:=Vh.out.below Aj Vh.out.lt;have t0:=LY.cell 0;have t1:=LY.cell 1;have t2:=LY.cell 2;have r0:=qq.out.cell 0;have r1:=qq.out.cell 1;have r2:=qq.out.cell 2;have fr0:=qq.out.frozen 0;have fr1:=qq.out.frozen 1;have fr2:=qq.out.frozen 2;clear Aj LY;go_wp2_with fail;have hz:=((qq.out.bX 0 (.int .u8 2)).bX 1 (.string tx)).bX 2 (.int .i64 k);have qj:Gr (· =w.heap.size) VH (((VH.setCell ⟨w.heap.size,0,Ag⟩ (.int .u8 2)).setCell ⟨w.heap.size,1,Ag⟩ (.string tx)).setCell ⟨w.heap.size,2,Ag⟩ (.int .i64 k)):=
     ((Gr.setCell (X:=(· =w.heap.size)) VH ⟨w.heap.size,0,Ag⟩ _ rfl).trans (Gr.setCell (X:=(· =w.heap.size)) _ ⟨w.heap.size,1,Ag⟩ _ rfl)).trans (Gr.setCell (X:=(· =w.heap.size)) _ ⟨w.heap.size,2,Ag⟩ _ rfl)
    have Fj:=qj.blk ZG.out oz;have ZF:=ZH.out.trans' qj (λk hk e=>by omega);clear qq ZG ZH;generalize (((VH.setCell ⟨w.heap.size,0,Ag⟩ (.int .u8 2)).setCell ⟨w.heap.size,1,Ag⟩ (.string tx)).setCell ⟨w.heap.size,2,Ag⟩ (.int .i64 k))=W14 at *;have z0:=hz.cell 0;have z1:=hz.cell 1;have z2:=hz.cell 2;refine GJ (v:= .tuple #[.agg #[.int .u8 2,.string tx,.int .i64 k],.int .i64 72]) (by simp[results,results317,go_sem,z0,z1,z2]) rfl ⟨?_,?_,ZF⟩
    .rw[Htx.out];unfold aDA;rw[uH];rfl
    .rw[<-Hm.out];exact Fj
  .exact absurd hjK dz
theorem aGw(g k:Nat)(s:ByteArray)(l1 l2 l3:Array Bn)(w:Al)(hk:k<s.size)(hsz:s.size<=65536)
 (h:gK w g s k .nilFunc (.func (.func 327) #[] l1) (.func (.func 328) #[] l2) (.func (.func 329) #[] l3))
 (T1:fO g w 327 l1 uq) (T2:fO g w 328 l2 vX) (T3:fO g w 329 l3 Fg) (Cr:uq (fM s k)=Bj) (zO:vX (fM s k)=Bj) (zo:Fg (fM s k)=BR):
 ET pG 317 #[.pointer (Ai ⟨g,0,Ag⟩)] w λe w'=>e= .returned (.tuple #[.agg #[.int .u8 3,.string (s.extract k (k+1)),.int .i64 k],.int .i64 0])/\
  gK w' g s (k+1) .nilFunc (.func (.func 327) #[] l1) (.func (.func 328) #[] l2) (.func (.func 329) #[] l3)/\Gr (· =g) w w':=by
 obtain⟨w1,cN⟩:=ez ((w.alloc (.cells #[.int .u8 0,.string ⟨#[]⟩,.int .i64 0] 290)).alloc (.cells #[.int .u8 1,.string ⟨#[]⟩,.int .i64 k] 290));have bY:BD w.heap.size w w1:=by rw[cN];exact(bN).alloc qz _
 have hr:ah w1 w.heap.size 290 #[.int .u8 0,.string ⟨#[]⟩,.int .i64 0]:=by rw[cN];exact(ah.new w _ _).alloc _
 have pH:ah w1 (w.heap.size+1) 290 #[.int .u8 1,.string ⟨#[]⟩,.int .i64 k]:=by
  rw[cN];exact eU (w.alloc (.cells #[.int .u8 0,.string ⟨#[]⟩,.int .i64 0] 290)) (w.heap.size+1) 290 _ qz
 have VI:(w.alloc (.cells #[.int .u8 0,.string ⟨#[]⟩,.int .i64 0] 290)).cell? ⟨g,1,Ag⟩=Ai (.int .i64 k):=(ah.alloc h _).cell 1;have wu:g<w.heap.size:=ah.lt h;have lH:=lz cN;have cU:=lz bY;have VF:=lz hr;have Ht1:=lz pH;have Hh:=lz h;have KI:=lz T1;have HT2:=lz T2;have HT3:=lz T3;have Hp1:=lz Cr;have Hp2:=lz zO;have Hp3:=lz zo;clear cN bY hr pH h T1 T2 T3 Cr zO zo;go_enter func317,ntmps317;go_wp2_with fail;rw[<-lH.out];go_loopw [] (λwr=>∃j:Int,(j=1\/j=2\/j=3)/\j<=3/\ah wr (w.heap.size+1) 290 #[.int .u8 j,.string ⟨#[]⟩,.int .i64 k]/\ah wr w.heap.size 290 #[.int .u8 0,.string ⟨#[]⟩,.int .i64 0]/\BD w.heap.size w wr) (λwr=>4-Zx wr (w.heap.size+1))
 case atStart=>exact⟨1,.inl rfl,dz,Ht1.out,VF.out,cU.out⟩
 case round=>
  obtain⟨j,hj,hjK,pH,hr,hB⟩:=hrel;have hkO:=nH pH;have hS:=gK.below Hh.out hB;rcases hj with rfl | rfl | rfl
  .have OV:=pH.cell 0
   have j3:wr.cell? ⟨g,3,Ag⟩=Ai (.func (.func 327) #[] l1):=ah.cell hS 3;have gX:∀n,ET pG 332 #[.pointer (Ai ⟨g,0,Ag⟩),.func (.func 327) #[] l1] (wr.drewN n) λe w'=>e= .returned (.bool Bj)/\∃m,w'=(wr.drewN n).drewN m:=λn=>by
    have BM:=aD (n:=n) hB;have ht:=(KI.out.next (Gr.ak BM)).at_ (fM s k);rw[Hp1.out]at ht;exact kU 327 l1 (fM s k) Bj (wr.drewN n) (gK.below Hh.out BM) hk rfl eE ht
   have iD:=lz gX;have HS:=lz hS;have tK:=lz pH;have Hr:=lz hr;have HB:=lz hB;clear gX hS pH hr hB;go_wp2_with fail;go_quiet ((go_at_call 332;exact Calls.quiet_of (iD.out _)));have hby:BD wr.heap.size wr (wr.drewN nq):=aD (BK _ _);have Aw:=gK.below HS.out hby
   have u7:=Hr.out.below hby Hr.out.lt;have ny:=tK.out.below hby tK.out.lt;have BN:=HB.out.trans (hby.mono HB.out.size);clear hby j3 OV iD VI HS Hr tK HB;generalize wr.drewN nq=y at *;have m0:=ny.cell 0;have mf:=ny.frozen 0;have jY:=ny.bX 0 (.int .u8 2);have Td:=u7.far (p:=⟨w.heap.size+1,0,Ag⟩) (by show w.heap.size≠w.heap.size+1;omega) (.int .u8 2);have pq:=BN.setCell (p:=⟨w.heap.size+1,0,Ag⟩) (by show w.heap.size<=w.heap.size+1;omega) (.int .u8 2);have HR:=lz (ai jY (ai Td pq));clear jY Td pq Aw u7 ny BN;go_wp2;go_roundw
   case rel=>exact⟨2,dz,dz,by simpa using HR.out.1,HR.out.2.1,HR.out.2.2⟩
   case measure=>
    have rZ:Zx (y.setCell ⟨w.heap.size+1,0,Ag⟩ (.int .u8 2)) (w.heap.size+1)=(2:Int).toNat:=nH (t:=290) (v1:= .string ⟨#[]⟩) (v2:= .int .i64 k) (by simpa using HR.out.1);rw[hkO];first | (rw[rZ];decide) | (simp[rZ]<;>omega)
  .have OV:=pH.cell 0
   have j3:wr.cell? ⟨g,4,Ag⟩=Ai (.func (.func 328) #[] l2):=ah.cell hS 4;have gX:∀n,ET pG 332 #[.pointer (Ai ⟨g,0,Ag⟩),.func (.func 328) #[] l2] (wr.drewN n) λe w'=>e= .returned (.bool Bj)/\∃m,w'=(wr.drewN n).drewN m:=λn=>by
    have BM:=aD (n:=n) hB;have ht:=(HT2.out.next (Gr.ak BM)).at_ (fM s k);rw[Hp2.out]at ht;exact kU 328 l2 (fM s k) Bj (wr.drewN n) (gK.below Hh.out BM) hk rfl eB ht
   have iD:=lz gX;have HS:=lz hS;have tK:=lz pH;have Hr:=lz hr;have HB:=lz hB;clear gX hS pH hr hB;go_wp2_with fail;go_quiet ((go_at_call 332;exact Calls.quiet_of (iD.out _)));have hby:BD wr.heap.size wr (wr.drewN nq):=aD (BK _ _);have Aw:=gK.below HS.out hby
   have u7:=Hr.out.below hby Hr.out.lt;have ny:=tK.out.below hby tK.out.lt;have BN:=HB.out.trans (hby.mono HB.out.size);clear hby j3 OV iD VI HS Hr tK HB;generalize wr.drewN nq=y at *;have m0:=ny.cell 0;have mf:=ny.frozen 0;have jY:=ny.bX 0 (.int .u8 3);have Td:=u7.far (p:=⟨w.heap.size+1,0,Ag⟩) (by show w.heap.size≠w.heap.size+1;omega) (.int .u8 3);have pq:=BN.setCell (p:=⟨w.heap.size+1,0,Ag⟩) (by show w.heap.size<=w.heap.size+1;omega) (.int .u8 3);have HR:=lz (ai jY (ai Td pq));clear jY Td pq Aw u7 ny BN;go_wp2;go_roundw
   case rel=>exact⟨3,dz,dz,by simpa using HR.out.1,HR.out.2.1,HR.out.2.2⟩
   case measure=>
    have rZ:Zx (y.setCell ⟨w.heap.size+1,0,Ag⟩ (.int .u8 3)) (w.heap.size+1)=(3:Int).toNat:=nH (t:=290) (v1:= .string ⟨#[]⟩) (v2:= .int .i64 k) (by simpa using HR.out.1);rw[hkO];first | (rw[rZ];decide) | (simp[rZ]<;>omega)
  .have OV:=pH.cell 0
   have j3:wr.cell? ⟨g,5,Ag⟩=Ai (.func (.func 329) #[] l3):=ah.cell hS 5;have gX:∀n,ET pG 332 #[.pointer (Ai ⟨g,0,Ag⟩),.func (.func 329) #[] l3] (wr.drewN n) λe w'=>e= .returned (.bool BR)/\∃m,w'=(wr.drewN n).drewN m:=λn=>by
    have BM:=aD (n:=n) hB;have ht:=(HT3.out.next (Gr.ak BM)).at_ (fM s k);rw[Hp3.out]at ht;exact kU 329 l3 (fM s k) BR (wr.drewN n) (gK.below Hh.out BM) hk rfl eA ht
   have iD:=lz gX;have HS:=lz hS;have tK:=lz pH;have Hr:=lz hr;have HB:=lz hB;clear gX hS pH hr hB;go_wp2_with fail;go_quiet ((go_at_call 332;exact Calls.quiet_of (iD.out _)));have hby:BD wr.heap.size wr (wr.drewN nq):=aD (BK _ _);have Aw:=gK.below HS.out hby
   have u7:=Hr.out.below hby Hr.out.lt;have ny:=tK.out.below hby tK.out.lt;have BN:=HB.out.trans (hby.mono HB.out.size);clear hby j3 OV iD VI HS Hr tK HB;generalize wr.drewN nq=y at *;have m0:=ny.cell 0;have mf:=ny.frozen 0;obtain⟨W7,Cw⟩:=ez (y.setCell ⟨g,1,Ag⟩ (.int .i64 ((k:Int)+1)));have K3:Gr (· =g) y W7:=by rw[Cw];exact Gr.setCell (X:=(· =g)) y ⟨g,1,Ag⟩ _ rfl
   have Dr:gK W7 g s (k+1) .nilFunc (.func (.func 327) #[] l1) (.func (.func 328) #[] l2) (.func (.func 329) #[] l3):=by
    have:=Aw.step (k+1);rw[Cw];simpa using this
   have Hr7:=lz (K3.blk u7 oz);have Zy:=K3.blk ny oz;have y1:y.cell? ⟨g,1,Ag⟩=Ai (.int .i64 k):=ah.cell Aw 1;have yf:y.frozen? ⟨g,1,Ag⟩=false:=ah.frozen Aw 1;have Yw:Hid (Gr (· =g) w W7):=lz ((Gr.ak BN).trans K3);have m7:=Zy.cell 0;have Po:=lz Dr;have Ht7:=lz Zy;have Uy:=lz Cw;clear Aw u7 ny BN K3 Dr Zy Cw;go_wp2_with fail;rw[<-Uy.out];obtain⟨wv,Vi⟩:=ez W7;have mA:gK wv g s (k+1) .nilFunc (.func (.func 327) #[] l1) (.func (.func 328) #[] l2) (.func (.func 329) #[] l3):=by rw[Vi];exact Po.out
   have OX:ah wv w.heap.size 290 #[.int .u8 0,.string ⟨#[]⟩,.int .i64 0]:=by rw[Vi];exact Hr7.out
   have tL:ah wv (w.heap.size+1) 290 #[.int .u8 3,.string ⟨#[]⟩,.int .i64 k]:=by rw[Vi];exact Ht7.out
   have BO:Gr (· =g) w wv:=by rw[Vi];exact Yw.out
   rw[<-Vi];clear Vi;obtain⟨m,hm⟩:=ez (k+1);have hle:m<=s.size:=by omega
   have JQ:k+1<=m:=by omega
   rw[<-hm]at mA;have Hm:=lz hm;clear hm;have n0:wv.cell? ⟨g,0,Ag⟩=Ai (.string s):=ah.cell mA 0;have n1:wv.cell? ⟨g,1,Ag⟩=Ai (.int .i64 m):=ah.cell mA 1;have n2:=tL.cell 2;have n3:=tL.cell 1;have n4:=tL.frozen 1;have hz1:(0:Int)<=(k:Int):=by omega
   have hz2:(k:Int)<=(m:Int):=by omega
   have IC:(m:Int)<=(s.size:Int):=by omega
   have ZB:=lz tL;have ZC:=lz OX;have OY:=lz mA;have OZ:=lz BO;clear mA OX tL BO y1 yf m0 mf;go_wp2_with fail;go_region;try simp only[Int.toNat_natCast]
   obtain⟨tx,Tc⟩:=ez (s.extract k m);have htz:tx.size<=65536:=by rw[Tc,ByteArray.size_extract];omega
   have Htx:=lz (show(s.extract k (k+1))=tx by rw[Tc,Hm.out]);rw[<-Tc];clear Tc;obtain⟨sI,tM⟩:=ez ((wv.setCell ⟨w.heap.size+1,1,Ag⟩ (.string tx)).drew);have yQ:Gr (· =w.heap.size+1) wv sI:=by rw[tM];exact(Gr.setCell (X:=(· =w.heap.size+1)) wv ⟨w.heap.size+1,1,Ag⟩ _ rfl).trans (Gr.ak (BK _ _).drew)
   have tN:ah sI (w.heap.size+1) 290 #[.int .u8 3,.string tx,.int .i64 k]:=by rw[tM];have:=ZB.out.bX 1 (.string tx);simpa using(this.drew)
   have mw:=yQ.blk ZC.out oz;have yR:Hid (gK sI g s m .nilFunc (.func (.func 327) #[] l1) (.func (.func 328) #[] l2) (.func (.func 329) #[] l3)):=lz (yQ.blk OY.out oz);have FB:Hid (Gr (· =g) w sI):=lz (OZ.out.trans' yQ (λk hk e=>by omega));have t0:=tN.cell 0;have t1:=tN.cell 1;have t2:=tN.cell 2;have r0:=mw.cell 0;have r1:=mw.cell 1;have r2:=mw.cell 2;have fr0:=mw.frozen 0;have fr1:=mw.frozen 1;have fr2:=mw.frozen 2;have qO:=lz mw;have ZE:=lz tM;have Vh:=lz tN;clear yQ tN mw tM n0 n1 n2 n3 n4 hz1 hz2 IC;rw[<-ZE.out];go_wp2_with fail;have hz:=((qO.out.bX 0 (.int .u8 3)).bX 1 (.string tx)).bX 2 (.int .i64 k);have qj:Gr (· =w.heap.size) sI (((sI.setCell ⟨w.heap.size,0,Ag⟩ (.int .u8 3)).setCell ⟨w.heap.size,1,Ag⟩ (.string tx)).setCell ⟨w.heap.size,2,Ag⟩ (.int .i64 k)):=
    ((Gr.setCell (X:=(· =w.heap.size)) sI ⟨w.heap.size,0,Ag⟩ _ rfl).trans (Gr.setCell (X:=(· =w.heap.size)) _ ⟨w.heap.size,1,Ag⟩ _ rfl)).trans (Gr.setCell (X:=(· =w.heap.size)) _ ⟨w.heap.size,2,Ag⟩ _ rfl)
   have Fj:=qj.blk yR.out oz;have ZF:=FB.out.trans' qj (λk hk e=>by omega);clear qO yR FB;generalize (((sI.setCell ⟨w.heap.size,0,Ag⟩ (.int .u8 3)).setCell ⟨w.heap.size,1,Ag⟩ (.string tx)).setCell ⟨w.heap.size,2,Ag⟩ (.int .i64 k))=W14 at *;have z0:=hz.cell 0;have z1:=hz.cell 1;have z2:=hz.cell 2;refine GJ (v:= .tuple #[.agg #[.int .u8 3,.string tx,.int .i64 k],.int .i64 0]) (by simp[results,results317,go_sem,z0,z1,z2]) rfl ⟨?_,?_,ZF⟩
   .rw[Htx.out]
   .rw[<-Hm.out];exact Fj
theorem aGx(g k:Nat)(s:ByteArray)(l1 l2 l3:Array Bn)(w:Al)(hk:k<s.size)(hsz:s.size<=65536)
 (h:gK w g s k .nilFunc (.func (.func 327) #[] l1) (.func (.func 328) #[] l2) (.func (.func 329) #[] l3))
 (T1:fO g w 327 l1 uq) (T2:fO g w 328 l2 vX) (T3:fO g w 329 l3 Fg) (Cr:uq (fM s k)=Bj) (zO:vX (fM s k)=Bj) (zo:Fg (fM s k)=Bj):
 ET pG 317 #[.pointer (Ai ⟨g,0,Ag⟩)] w λe w'=>e= .returned (.tuple #[.agg #[.int .u8 3,.string ⟨#[]⟩,.int .i64 k],.int .i64 70])/\
  gK w' g s k .nilFunc (.func (.func 327) #[] l1) (.func (.func 328) #[] l2) (.func (.func 329) #[] l3)/\Gr (· =g) w w':=by
 obtain⟨w1,cN⟩:=ez ((w.alloc (.cells #[.int .u8 0,.string ⟨#[]⟩,.int .i64 0] 290)).alloc (.cells #[.int .u8 1,.string ⟨#[]⟩,.int .i64 k] 290));have bY:BD w.heap.size w w1:=by rw[cN];exact(bN).alloc qz _
 have hr:ah w1 w.heap.size 290 #[.int .u8 0,.string ⟨#[]⟩,.int .i64 0]:=by rw[cN];exact(ah.new w _ _).alloc _
 have pH:ah w1 (w.heap.size+1) 290 #[.int .u8 1,.string ⟨#[]⟩,.int .i64 k]:=by
  rw[cN];exact eU (w.alloc (.cells #[.int .u8 0,.string ⟨#[]⟩,.int .i64 0] 290)) (w.heap.size+1) 290 _ qz
 have VI:(w.alloc (.cells #[.int .u8 0,.string ⟨#[]⟩,.int .i64 0] 290)).cell? ⟨g,1,Ag⟩=Ai (.int .i64 k):=(ah.alloc h _).cell 1;have wu:g<w.heap.size:=ah.lt h;have lH:=lz cN;have cU:=lz bY;have VF:=lz hr;have Ht1:=lz pH;have Hh:=lz h;have KI:=lz T1;have HT2:=lz T2;have HT3:=lz T3;have Hp1:=lz Cr;have Hp2:=lz zO;have Hp3:=lz zo;clear cN bY hr pH h T1 T2 T3 Cr zO zo;go_enter func317,ntmps317;go_wp2_with fail;rw[<-lH.out];go_loopw [] (λwr=>∃j:Int,(j=1\/j=2\/j=3)/\j<=3/\ah wr (w.heap.size+1) 290 #[.int .u8 j,.string ⟨#[]⟩,.int .i64 k]/\ah wr w.heap.size 290 #[.int .u8 0,.string ⟨#[]⟩,.int .i64 0]/\BD w.heap.size w wr) (λwr=>4-Zx wr (w.heap.size+1))
 case atStart=>exact⟨1,.inl rfl,dz,Ht1.out,VF.out,cU.out⟩
 case round=>
  obtain⟨j,hj,hjK,pH,hr,hB⟩:=hrel;have hkO:=nH pH;have hS:=gK.below Hh.out hB;rcases hj with rfl | rfl | rfl
  .have OV:=pH.cell 0
   have j3:wr.cell? ⟨g,3,Ag⟩=Ai (.func (.func 327) #[] l1):=ah.cell hS 3;have gX:∀n,ET pG 332 #[.pointer (Ai ⟨g,0,Ag⟩),.func (.func 327) #[] l1] (wr.drewN n) λe w'=>e= .returned (.bool Bj)/\∃m,w'=(wr.drewN n).drewN m:=λn=>by
    have BM:=aD (n:=n) hB;have ht:=(KI.out.next (Gr.ak BM)).at_ (fM s k);rw[Hp1.out]at ht;exact kU 327 l1 (fM s k) Bj (wr.drewN n) (gK.below Hh.out BM) hk rfl eE ht
   have iD:=lz gX;have HS:=lz hS;have tK:=lz pH;have Hr:=lz hr;have HB:=lz hB;clear gX hS pH hr hB;go_wp2_with fail;go_quiet ((go_at_call 332;exact Calls.quiet_of (iD.out _)));have hby:BD wr.heap.size wr (wr.drewN nq):=aD (BK _ _);have Aw:=gK.below HS.out hby
   have u7:=Hr.out.below hby Hr.out.lt;have ny:=tK.out.below hby tK.out.lt;have BN:=HB.out.trans (hby.mono HB.out.size);clear hby j3 OV iD VI HS Hr tK HB;generalize wr.drewN nq=y at *;have m0:=ny.cell 0;have mf:=ny.frozen 0;have jY:=ny.bX 0 (.int .u8 2);have Td:=u7.far (p:=⟨w.heap.size+1,0,Ag⟩) (by show w.heap.size≠w.heap.size+1;omega) (.int .u8 2);have pq:=BN.setCell (p:=⟨w.heap.size+1,0,Ag⟩) (by show w.heap.size<=w.heap.size+1;omega) (.int .u8 2);have HR:=lz (ai jY (ai Td pq));clear jY Td pq Aw u7 ny BN;go_wp2;go_roundw
   case rel=>exact⟨2,dz,dz,by simpa using HR.out.1,HR.out.2.1,HR.out.2.2⟩
   case measure=>
    have rZ:Zx (y.setCell ⟨w.heap.size+1,0,Ag⟩ (.int .u8 2)) (w.heap.size+1)=(2:Int).toNat:=nH (t:=290) (v1:= .string ⟨#[]⟩) (v2:= .int .i64 k) (by simpa using HR.out.1);rw[hkO];first | (rw[rZ];decide) | (simp[rZ]<;>omega)
  .have OV:=pH.cell 0
   have j3:wr.cell? ⟨g,4,Ag⟩=Ai (.func (.func 328) #[] l2):=ah.cell hS 4;have gX:∀n,ET pG 332 #[.pointer (Ai ⟨g,0,Ag⟩),.func (.func 328) #[] l2] (wr.drewN n) λe w'=>e= .returned (.bool Bj)/\∃m,w'=(wr.drewN n).drewN m:=λn=>by
    have BM:=aD (n:=n) hB;have ht:=(HT2.out.next (Gr.ak BM)).at_ (fM s k);rw[Hp2.out]at ht;exact kU 328 l2 (fM s k) Bj (wr.drewN n) (gK.below Hh.out BM) hk rfl eB ht
   have iD:=lz gX;have HS:=lz hS;have tK:=lz pH;have Hr:=lz hr;have HB:=lz hB;clear gX hS pH hr hB;go_wp2_with fail;go_quiet ((go_at_call 332;exact Calls.quiet_of (iD.out _)));have hby:BD wr.heap.size wr (wr.drewN nq):=aD (BK _ _);have Aw:=gK.below HS.out hby
   have u7:=Hr.out.below hby Hr.out.lt;have ny:=tK.out.below hby tK.out.lt;have BN:=HB.out.trans (hby.mono HB.out.size);clear hby j3 OV iD VI HS Hr tK HB;generalize wr.drewN nq=y at *;have m0:=ny.cell 0;have mf:=ny.frozen 0;have jY:=ny.bX 0 (.int .u8 3);have Td:=u7.far (p:=⟨w.heap.size+1,0,Ag⟩) (by show w.heap.size≠w.heap.size+1;omega) (.int .u8 3);have pq:=BN.setCell (p:=⟨w.heap.size+1,0,Ag⟩) (by show w.heap.size<=w.heap.size+1;omega) (.int .u8 3);have HR:=lz (ai jY (ai Td pq));clear jY Td pq Aw u7 ny BN;go_wp2;go_roundw
   case rel=>exact⟨3,dz,dz,by simpa using HR.out.1,HR.out.2.1,HR.out.2.2⟩
   case measure=>
    have rZ:Zx (y.setCell ⟨w.heap.size+1,0,Ag⟩ (.int .u8 3)) (w.heap.size+1)=(3:Int).toNat:=nH (t:=290) (v1:= .string ⟨#[]⟩) (v2:= .int .i64 k) (by simpa using HR.out.1);rw[hkO];first | (rw[rZ];decide) | (simp[rZ]<;>omega)
  .have OV:=pH.cell 0
   have j3:wr.cell? ⟨g,5,Ag⟩=Ai (.func (.func 329) #[] l3):=ah.cell hS 5;have gX:∀n,ET pG 332 #[.pointer (Ai ⟨g,0,Ag⟩),.func (.func 329) #[] l3] (wr.drewN n) λe w'=>e= .returned (.bool Bj)/\∃m,w'=(wr.drewN n).drewN m:=λn=>by
    have BM:=aD (n:=n) hB;have ht:=(HT3.out.next (Gr.ak BM)).at_ (fM s k);rw[Hp3.out]at ht;exact kU 329 l3 (fM s k) Bj (wr.drewN n) (gK.below Hh.out BM) hk rfl eA ht
   have iD:=lz gX;have HS:=lz hS;have tK:=lz pH;have Hr:=lz hr;have HB:=lz hB;clear gX hS pH hr hB;go_wp2_with fail;go_quiet ((go_at_call 332;exact Calls.quiet_of (iD.out _)));have hby:BD wr.heap.size wr (wr.drewN nq):=aD (BK _ _);have Aw:=gK.below HS.out hby
   have u7:=Hr.out.below hby Hr.out.lt;have ny:=tK.out.below hby tK.out.lt;have BN:=HB.out.trans (hby.mono HB.out.size);clear hby j3 OV iD VI HS Hr tK HB;generalize wr.drewN nq=y at *;have m0:=ny.cell 0;have mf:=ny.frozen 0;have m1:=ny.cell 1;have m2:=ny.cell 2;have fr0:=u7.frozen 0;have fr1:=u7.frozen 1;have fr2:=u7.frozen 2;have r0:=u7.cell 0;have r1:=u7.cell 1;have r2:=u7.cell 2;have qO:=lz u7;have yR:=lz Aw;have FB:=lz (Gr.ak (X:=(· =g)) BN);clear Aw u7 ny BN;obtain⟨sI,tM⟩:=ez y;rw[<-tM]at m0 m1 m2 mf fr0 fr1 fr2 r0 r1 r2 qO yR FB ⊢;clear tM y;go_wp2_with fail;have hz:=((qO.out.bX 0 (.int .u8 3)).bX 1 (.string ⟨#[]⟩)).bX 2 (.int .i64 k);have qj:Gr (· =w.heap.size) sI (((sI.setCell ⟨w.heap.size,0,Ag⟩ (.int .u8 3)).setCell ⟨w.heap.size,1,Ag⟩ (.string ⟨#[]⟩)).setCell ⟨w.heap.size,2,Ag⟩ (.int .i64 k)):=
    ((Gr.setCell (X:=(· =w.heap.size)) sI ⟨w.heap.size,0,Ag⟩ _ rfl).trans (Gr.setCell (X:=(· =w.heap.size)) _ ⟨w.heap.size,1,Ag⟩ _ rfl)).trans (Gr.setCell (X:=(· =w.heap.size)) _ ⟨w.heap.size,2,Ag⟩ _ rfl)
   have Fj:=qj.blk yR.out oz;have ZF:=FB.out.trans' qj (λk hk e=>by omega);clear qO yR FB;generalize (((sI.setCell ⟨w.heap.size,0,Ag⟩ (.int .u8 3)).setCell ⟨w.heap.size,1,Ag⟩ (.string ⟨#[]⟩)).setCell ⟨w.heap.size,2,Ag⟩ (.int .i64 k))=W14 at *;have z0:=hz.cell 0;have z1:=hz.cell 1;have z2:=hz.cell 2;exact GJ (v:= .tuple #[.agg #[.int .u8 3,.string ⟨#[]⟩,.int .i64 k],.int .i64 70]) (by simp[results,results317,go_sem,z0,z1,z2]) rfl ⟨rfl,Fj,ZF⟩
def nextR(s:ByteArray)(k:Nat):Int×ByteArray×Int×Nat:=
 if uq (fM s k)=BR then(1,s.extract k (nC s k),aC9 (s.extract k (nC s k)),nC s k)
 else if vX (fM s k)=BR then(2,s.extract k (nC s k),aDA (s.extract k (nC s k)),nC s k)
 else if Fg (fM s k)=BR then(3,s.extract k (k+1),0,k+1)
 else(3,⟨#[]⟩,70,k)
theorem aGy(g k:Nat)(s:ByteArray)(l1 l2 l3:Array Bn)(w:Al)(hk:k<s.size)(hsz:s.size<=65536)
 (h:gK w g s k .nilFunc (.func (.func 327) #[] l1) (.func (.func 328) #[] l2) (.func (.func 329) #[] l3))
 (T1:fO g w 327 l1 uq) (T2:fO g w 328 l2 vX) (T3:fO g w 329 l3 Fg)
 (sZ:∀W t,Gr (· =g) w W->t.size<=65536->CU 334 #[.string t] W (.bool (Cz t))):
 ET pG 317 #[.pointer (Ai ⟨g,0,Ag⟩)] w λe w'=>e= .returned (.tuple #[.agg #[.int .u8 (nextR s k).1,.string (nextR s k).2.1,.int .i64 k],.int .i64 (nextR s k).2.2.1])/\
  gK w' g s (nextR s k).2.2.2 .nilFunc (.func (.func 327) #[] l1) (.func (.func 328) #[] l2) (.func (.func 329) #[] l3)/\Gr (· =g) w w':=by
 unfold nextR
 cases h1:uq (fM s k)with
 | true=>simpa using aGq g k s l1 l2 l3 w hk hsz h T1 T2 T3 h1
 | false=>
  cases h2:vX (fM s k)with
  | true=>simpa using aGv g k s l1 l2 l3 w hk hsz h T1 T2 T3 sZ h1 h2
  | false=>
   cases h3:Fg (fM s k)with
   | true=>simpa using aGw g k s l1 l2 l3 w hk hsz h T1 T2 T3 h1 h2 h3
   | false=>simpa using aGx g k s l1 l2 l3 w hk hsz h T1 T2 T3 h1 h2 h3
theorem O0(s:ByteArray):∀(f k:Nat),k<=uZ s f k
 | 0,k=>Nat.le_refl _
 | f+1,k=>by
  rw[uZ];split
  .exact nT (jC Vb s s.size k) (nT (jC (pR mL) s s.size _) (O0 s f _))
  .exact Nat.le_refl _
theorem O1(s:ByteArray):∀(f k:Nat),k<=s.size->uZ s f k<=s.size
 | 0,k,h=>h
 | f+1,k,h=>by
  rw[uZ];split
  .exact O1 s f _ (jc (pR mL) s s.size _ (jc Vb s s.size k h))
  .exact h
theorem ZI(s:ByteArray)(k:Nat):k<=su s k:=nT (jC (pR mL) s s.size k) (O0 s s.size _)
theorem O2(s:ByteArray)(k:Nat)(h:k<=s.size):su s k<=s.size:=O1 s s.size _ (jc (pR mL) s s.size k h)
abbrev mN:=Int×ByteArray×Nat
def LZ(s:ByteArray):Nat->Nat->Option (List mN)
 | 0,_=>Ai []
 | f+1,k=>if k<s.size then(if (nextR s k).2.2.1=0 then(LZ s f (su s (nextR s k).2.2.2)).map (((nextR s k).1,(nextR s k).2.1,k) :: ·)else Ag)else Ai []
def ur(s:ByteArray):Option (List mN):=LZ s s.size (su s 0)
theorem ZJ(s:ByteArray)(k:Nat)(hk:k<s.size)(h:(nextR s k).2.2.1=0):k<(nextR s k).2.2.2/\(nextR s k).2.2.2<=s.size:=by
 have h1:k+1<=nC s k:=jC nameP s s.size (k+1);have h2:nC s k<=s.size:=jc nameP s s.size (k+1) oz;revert h;unfold nextR;split
 .intro _;exact⟨h1,h2⟩
 .split
  .intro _;exact⟨h1,h2⟩
  .split
   .intro _;exact⟨Nat.lt_succ_self k,hk⟩
   .intro h;exact absurd (show(70:Int)=0 from h) dz
def vZ(s:ByteArray)(J:List mN->Al->Prop)(JE:Al->Prop)(W:Al):Prop:=match ur s with | some T=>J T W | none=>JE W
theorem O3{s:ByteArray}{J:List mN->Al->Prop}{JE:Al->Prop}{W:Al}{T:List mN}(h:ur s=Ai T)(hj:J T W):vZ s J JE W:=by unfold vZ;rw[h];exact hj
theorem O4{s:ByteArray}{J:List mN->Al->Prop}{JE:Al->Prop}{W:Al}(h:ur s=Ag)(hj:JE W):vZ s J JE W:=by unfold vZ;rw[h];exact hj
def mN.enc(t:mN)(c:Int):Array Value:= #[.agg #[.int .u8 t.1,.string t.2.1,.int .i64 t.2.2],.int .i64 c]
theorem aGz(g go Bb:Nat)(s:ByteArray)(l1 l2 l3:Array Bn)(w0:Al)(aYR:g≠go)(aYS:Bb≠go)(Ec:Bb≠g)(hsz:s.size<=65536)
 (T1:∀W,Gr (λk=>k=g\/k=go) w0 W->fO g W 327 l1 uq) (T2:∀W,Gr (λk=>k=g\/k=go) w0 W->fO g W 328 l2 vX) (T3:∀W,Gr (λk=>k=g\/k=go) w0 W->fO g W 329 l3 Fg)
 (sZ:∀W t,Gr (λk=>k=g\/k=go) w0 W->t.size<=65536->CU 334 #[.string t] W (.bool (Cz t)))
 (hb:ah w0 Bb 317 #[.pointer (Ai ⟨g,0,Ag⟩)]) (hg:g<w0.heap.size)
 (l:Nat) (W:Al) (hW:Gr (λk=>k=g\/k=go) w0 W)
 (h:gK W g s 0 .nilFunc (.func (.func 327) #[] l1) (.func (.func 328) #[] l2) (.func (.func 329) #[] l3))
 (J:List mN->Al->Prop) (JE:Al->Prop) (hJ:∀T W W',J T W->Gr (· =g) W W'->J T W') (hJE:∀W W',JE W->Gr (· =g) W W'->JE W') (h0:J [] W)
 (hY:∀T (t:mN) W',T.length<=65536->Gr (λk=>k=g\/k=go) w0 W'->J T W'->YieldAt FE 7 pG l #[.agg #[.int .u8 t.1,.string t.2.1,.int .i64 t.2.2],.int .i64 0] W' λe W2=>e= .returned (.bool BR)/\J (T++ [t]) W2/\Gr (λk=>k=g\/k=go) w0 W2/\W2.heap[g]?=W'.heap[g]?)
 (hE:∀T (t:mN) (c:Int) W',T.length<=65536->c≠0->Gr (λk=>k=g\/k=go) w0 W'->J T W'->YieldAt FE 7 pG l #[.agg #[.int .u8 t.1,.string t.2.1,.int .i64 t.2.2],.int .i64 c] W' λe W2=>e= .returned (.bool Bj)/\JE W2):
 CallsIn FE 8 pG 315 (#[.func (.yield l) #[] #[]]++ #[.pointer (Ai ⟨Bb,0,Ag⟩)]) W λe W'=>(∃v,e= .returned v)/\vZ s J JE W':=by
 have Pq:=hW.blk hb (by rintro(e | e)<;>omega);have c0:=Pq.cell 0;have Hsk:=lz (Ze 0 W h nZ oz);have HbW:=lz Pq;have Hb:=lz hb;have HW:=lz hW;have KI:=lz T1;have HT2:=lz T2;have HT3:=lz T3;have Gb:=lz sZ;have HJ:=lz hJ;have HJE:=lz hJE;have H0:=lz h0;have HY:=lz hY;have HE:=lz hE;clear Pq hb hW T1 T2 T3 sZ hJ hJE h0 hY hE h;refine callsIn_of_wp func315 rfl trivial ?_ rfl;simp only[ntmps315,List.size_toArray,List.length_cons,List.length_nil,Nat.reduceAdd,Nat.reduceSub,Array.replicate_succ,Array.replicate_zero,List.push_toArray,List.append_toArray,List.nil_append,List.cons_append];gi_wp2;refine tP Hsk.out ?_;rintro e W1 ⟨⟨v,rfl⟩,hS1,sK⟩;have hX:∀W W':Al,Gr (λk=>k=g\/k=go) w0 W->Gr (· =g) W W'->Gr (λk=>k=g\/k=go) w0 W':=λ_ _ h1 h2=>h1.trans' h2 (λk _ e=> .inl e)
 have CZ:=lz (hX _ _ HW.out sK);have HJ1:=lz (HJ.out _ _ _ H0.out sK);have HX:=lz hX;have sE:=lz hS1;clear c0 hX hS1 sK Hsk;gi_wp2;gi_loopw [] (λwr=>∃(T:List mN) (k F:Nat),T.length<=k/\k<=s.size/\s.size<=k+F/\gK wr g s k .nilFunc (.func (.func 327) #[] l1) (.func (.func 328) #[] l2) (.func (.func 329) #[] l3)/\Gr (λk=>k=g\/k=go) w0 wr/\J T wr/\Hid (ur s=(LZ s F k).map (T++ ·))) (λwr=>s.size-jZ g wr)
 case atStart=>exact⟨[],su s 0,s.size,nZ,O2 s 0 nZ,oz,sE.out,CZ.out,HJ1.out,lz (by unfold ur;simp)⟩
 case round=>
  obtain⟨T,k,F,hTk,hk,hF,hS,hX,hJT,hL⟩:=hrel;have wW:=JD hS;have I8:=hX.blk Hb.out (by rintro(e | e)<;>omega);have q0:=I8.cell 0;have q1:wr.cell? ⟨g,1,Ag⟩=Ai (.int .i64 k):=ah.cell hS 1;have q2:wr.cell? ⟨g,0,Ag⟩=Ai (.string s):=ah.cell hS 0;by_cases hlt:k<s.size
  .obtain⟨F2,rfl⟩:∃F2,F=F2+1:=⟨F-1,oz⟩
   have hd:(k:Int)<(s.size:Int):=by omega
   have pE:=λn=>aGy g k s l1 l2 l3 (wr.drewN n) hlt hsz (gK.below hS (aD (BK _ _))) (KI.out _ (HX.out _ _ hX (Gr.ak (aD (BK _ _))))) (HT2.out _ (HX.out _ _ hX (Gr.ak (aD (BK _ _))))) (HT3.out _ (HX.out _ _ hX (Gr.ak (aD (BK _ _)))))
    (λW t hG ht=>Gb.out W t (HX.out _ _ (HX.out _ _ hX (Gr.ak (aD (BK _ _)))) hG) ht)
   have hLX:LZ s (F2+1) k=if (nextR s k).2.2.1=0 then(LZ s F2 (su s (nextR s k).2.2.2)).map (((nextR s k).1,(nextR s k).2.1,k) :: ·)else none:=by rw[LZ,if_pos hlt]
   have iJ:=ZJ s k hlt;obtain⟨r,hr⟩:=ez (nextR s k);rw[<-hr]at pE hLX iJ;clear hr;obtain⟨kd,tx,c,e⟩:=r;dsimp only at pE hLX iJ;have lg:=lz pE;have HLX:=lz hLX;have vQ:=lz iJ;have HSr:=lz hS;have HXr:=lz hX;have HJr:=lz hJT;clear pE hLX iJ hS hX hJT;by_cases hc:c=0
   .subst hc
    gi_wp2;refine wpIn_wide.2 ?_;go_quiet (fail);gi_wp2;refine tP (lg.out _) ?_;rintro e3 W3 ⟨rfl,CD,wk⟩;have hG4:Gr (· =g) wr (W3.alloc (.cells #[.int .u8 kd,.string tx,.int .i64 k] 290)):=((Gr.ak (aD (BK wr.heap.size wr))).trans wk).trans (Gr.alloc _ _ _);have vw:gK (W3.alloc (.cells #[.int .u8 kd,.string tx,.int .i64 k] 290)) g s e .nilFunc (.func (.func 327) #[] l1) (.func (.func 328) #[] l2) (.func (.func 329) #[] l3):=ah.alloc CD _;obtain⟨fn,tmps,assign,body,hy,hR⟩:=HY.out T (kd,tx,k) _ oz (HX.out _ _ HXr.out hG4) (HJ.out _ _ _ HJr.out hG4);have sD:=lz vw;clear hG4 CD wk vw q0 q1 q2 lg I8;gi_wp2;refine hR.mono ?_;rintro e' W5 ⟨rfl,hJ5,hX5,Jb⟩;have CF:gK W5 g s e .nilFunc (.func (.func 327) #[] l1) (.func (.func 328) #[] l2) (.func (.func 329) #[] l3):=Jb.trans sD.out;have jU:=hX5.blk Hb.out (by rintro(e | e)<;>omega);have p0:=jU.cell 0;have hen:=vQ.out (by trivial);have Hsk:=lz (Ze e W5 CF hen.2 oz);have Gm:=lz hX5;have HJ5:=lz hJ5;clear CF jU hJ5 Jb hy hR hX5;gi_wp2;refine tP Hsk.out ?_;rintro e6 W6 ⟨⟨v6,rfl⟩,MF,hG6⟩;have hn6:=JD MF;have JQ:=ZI s e;have hle:=O2 s e hen.2;have HF:=lz (ai MF (ai (HX.out _ _ Gm.out hG6) (HJ.out _ _ _ HJ5.out hG6)));have HL2:Hid (ur s=(LZ s F2 (su s e)).map ((T++ [(kd,tx,k)])++ ·)):=lz (by
     rw[hL.out,HLX.out,if_pos (by trivial),Option.map_map];congr 1;funext x;simp)
    clear MF hG6 p0 Hsk;gi_wp2;go_roundw
    case rel=>exact⟨T++ [(kd,tx,k)],su s e,F2,qo,hle,oz,HF.out.1,HF.out.2.1,HF.out.2.2,HL2⟩
    case measure=>rw[hn6,wW];omega
   .have jT:ur s=none:=by rw[hL.out,HLX.out,if_neg hc];rfl
    have oQ:=lz jT;clear jT;gi_wp2;refine wpIn_wide.2 ?_;go_quiet (fail);gi_wp2;refine tP (lg.out _) ?_;rintro e3 W3 ⟨rfl,CD,wk⟩;have hG4:Gr (· =g) wr (W3.alloc (.cells #[.int .u8 kd,.string tx,.int .i64 k] 290)):=((Gr.ak (aD (BK wr.heap.size wr))).trans wk).trans (Gr.alloc _ _ _);obtain⟨fn,tmps,assign,body,hy,hR⟩:=HE.out T (kd,tx,k) c _ oz hc (HX.out _ _ HXr.out hG4) (HJ.out _ _ _ HJr.out hG4);clear hG4 CD wk q0 q1 q2 lg I8;gi_wp2;refine hR.mono ?_;rintro e' W5 ⟨rfl,hJ5⟩;have HJ5:=lz hJ5;clear hJ5 hy hR;gi_wp2;refine GJ (results_none rfl _ _ _) rfl ?_;exact⟨⟨_,rfl⟩,O4 oQ.out HJ5.out⟩
  .have hd:¬(k:Int)<(s.size:Int):=by omega
   have iw:ur s=Ai T:=by
    rw[hL.out]
    cases F with
    | zero=>simp[LZ]
    | succ F=>rw[LZ,if_neg hlt];simp
   have fS:=lz iw;have HF:=lz hJT;clear iw hJT hS hX I8;gi_wp2;refine wpIn_wide.2 ?_;go_quiet (fail);gi_wp2;go_end0;exact⟨⟨_,rfl⟩,O3 fS.out (HJ.out _ _ _ HF.out (Gr.ak (aD (BK _ _))))⟩
theorem Rv{g:Operand}{ps:Array Tmp}{assign body:Code}{Q:Exit->Act->Al->Prop}{a:Act}{w:Al}{gf gm:Nat}{lb:Array Bn}{s:ByteArray}{X:Nat->Prop}(hgm:gm<w.heap.size)(hg:a.eval g= .func (.func gf) #[] lb)
 (eg:∀args w,(EZ gf args).run pG w= .ok (.enter gf args) w) (BX:2=ps.size) (hX:∀k,X k->k<w.heap.size)
 (MV:∀(l:Nat) (W:Al) (J:List mN->Al->Prop) (JE:Al->Prop),BD w.heap.size w W->(∀T W W',J T W->Gr (· =gm) W W'->J T W')->(∀W W',JE W->Gr (· =gm) W W'->JE W')->J [] W->
  (∀T (t:mN) W',T.length<=65536->Gr X w W'->J T W'->YieldAt FE 7 pG l #[.agg #[.int .u8 t.1,.string t.2.1,.int .i64 t.2.2],.int .i64 0] W' λe W2=>e= .returned (.bool BR)/\J (T++ [t]) W2/\Gr X w W2/\W2.heap[gm]?=W'.heap[gm]?)->
  (∀T (t:mN) (c:Int) W',T.length<=65536->c≠0->Gr X w W'->J T W'->YieldAt FE 7 pG l #[.agg #[.int .u8 t.1,.string t.2.1,.int .i64 t.2.2],.int .i64 c] W' λe W2=>e= .returned (.bool Bj)/\JE W2)->
  CallsIn FE 8 pG gf (#[.func (.yield l) #[] #[]]++lb) W λe W'=>(∃v,e= .returned v)/\vZ s J JE W')
 (Post:List mN->Al->Prop) (lW:Al->Prop) (aQl:∀T W W',Post T W->Gr (· =gm) W W'->Post T W') (aQm:∀W W',lW W->Gr (· =gm) W W'->lW W')
 (MW:∀T (l:Nat) W (o o':Obj),w.heap.size<=l->W.heap[l]?=Ai o->o.isCells=Bj->Post T W->Post T (W.putObj l o'))
 (MX:∀(l:Nat) W (o o':Obj),w.heap.size<=l->W.heap[l]?=Ai o->o.isCells=Bj->lW W->lW (W.putObj l o'))
 (hP0:∀W,BD w.heap.size w W->Post [] W)
 (Ax:List mN->mN->Int->Act->Al->Prop) (Kf:∀T t c (l:Nat) a' W (o o':Obj),w.heap.size<=l->W.heap[l]?=Ai o->o.isCells=Bj->Ax T t c a' W->Ax T t c a' (W.putObj l o'))
 (rm:∀(l:Nat) T (t:mN) (c:Int) (W:Al) (K:Act->Al->Prop),T.length<=65536->w.heap.size+2<=W.heap.size->Gr X w W->Post T W->
  (∀a' W',KeepsFrom w.heap.size W W'->Gr X W W'->W'.heap[gm]?=W.heap[gm]?->Ax T t c a' W'->K a' W')->
  assign.wpIn (FE.inRound l) 7 pG (Exit.then K (λ_ _ _=>False)) {tmps:=(ps.zip #[.agg #[.int .u8 t.1,.string t.2.1,.int .i64 t.2.2],.int .i64 c]).foldl (λt (p,v)=>t.setIfInBounds p v) a.tmps,defers:= []} W)
 (DK:∀(l:Nat) T (t:mN) (c:Int) (a':Act) (W:Al),Gr X w W->Ax T t c a' W->body.wpIn (FE.inRound l) 7 pG (λe a3 W3=>KeepsFrom w.heap.size W W3/\((c=0/\e= .normal/\Gr X w W3/\W3.heap[gm]?=W.heap[gm]?/\Post (T++ [t]) W3)\/(c≠0/\e= .ret/\lW W3))) a' W)
 (uK:∀(D:Nat) (W3:Al) T,w.heap.size<=D->ur s=Ai T->Post T W3->W3.heap[D]?=Ai (.deferred (Ai []))->Q .normal {a with defers:={target:= .collected D,args:= #[]} :: a.defers} W3)
 (Wk:∀(D:Nat) (W3:Al),w.heap.size<=D->ur s=Ag->lW W3->W3.heap[D]?=Ai (.deferred (Ai []))->Q .ret {a with defers:={target:= .collected D,args:= #[]} :: a.defers} W3):
 (Code.rangeFunc g ps assign body).wpIn FE 9 pG Q a w:=by
 refine wpIn_rangeFunc ?_;intro fn RF;obtain⟨rec,jL⟩:∃rec:LoopState->Option Code->Loop,rec=λst pe=>{state:=st,pending:=pe,fn,tmps:=a.tmps,params:=ps,assign,body,defers:=w.heap.size}:=⟨_,rfl⟩
 obtain⟨W1,hW1⟩:=ez ((w.alloc (.deferred (Ai []))).alloc (.loop (rec .ready Ag)));have DL:W1.heap[w.heap.size+1]?=Ai (.loop (rec .ready Ag)):=by
  rw[hW1];have:=World.alloc_heap_new (w.alloc (.deferred (Ai []))) (.loop (rec .ready Ag));rwa[World.size_alloc]at this
 have TD:W1.heap[w.heap.size]?=Ai (.deferred (Ai [])):=by
  rw[hW1];exact(Below.heap_alloc _ _ _ qz).trans (World.alloc_heap_new w _)
 have aU:BD w.heap.size w W1:=by rw[hW1];exact(bN).alloc qz _
 have hz1:W1.heap.size=w.heap.size+2:=by rw[hW1];simp
 refine⟨w.heap.size+1,[{target:= .collected w.heap.size,args:= #[]}],W1,{target:= .fn (.func gf) lb,args:= #[.func (.yield (w.heap.size+1)) #[] #[]]},W1,gf,#[.func (.yield (w.heap.size+1)) #[] #[]]++lb,W1,?_,?_,?_,?_,λ_=>by omega,?_⟩
 .rw[hW1,jL];exact run_enterLoop_outer _ _ _ _ _
 .simp only[resolve,hg];simp[go_sem]
 .intro f' PS;simp[Target.leads]at PS;subst PS;trivial
 .simp[invoke,go_sem,eg]
 have hgr:∀W (o:Obj) l,w.heap.size<=l->Gr X w W->Gr X w (W.putObj l o):=λW o l hl h=>
  ⟨h.os,h.tape,h.output,by simpa using h.size,λk hk hn=>(EM oz).trans (h.block k hk hn)⟩
 have Kg:∀T (t:mN) (c:Int) W,T.length<=65536->Gr X w W->Post T W->W.heap[w.heap.size+1]?=Ai (.loop (rec .ready Ag))->W.heap[w.heap.size]?=Ai (.deferred (Ai []))->
  YieldAt FE 7 pG (w.heap.size+1) #[.agg #[.int .u8 t.1,.string t.2.1,.int .i64 t.2.2],.int .i64 c] W λe W2=>
   (c=0/\e= .returned (.bool BR)/\Gr X w W2/\W2.heap[gm]?=W.heap[gm]?/\Post (T++ [t]) W2/\W2.heap[w.heap.size+1]?=Ai (.loop (rec .ready Ag))/\W2.heap[w.heap.size]?=Ai (.deferred (Ai [])))\/
   (c≠0/\e= .returned (.bool Bj)/\lW W2/\W2.heap[w.heap.size+1]?=Ai (.loop (rec .done (Ai .ret)))/\W2.heap[w.heap.size]?=Ai (.deferred (Ai []))):=by
  intro T t c W XO hG hP hl hk;have hy:=run_yield (P:=pG) (args:= #[.agg #[.int .u8 t.1,.string t.2.1,.int .i64 t.2.2],.int .i64 c]) hl (by rw[jL];exact BX);rw[jL]at hy;have hsz:w.heap.size+2<=W.heap.size:=by
   have:=(gE hl).1;omega
  refine⟨fn,_,assign,body,hy,roundIn_of_wpIn RF (rm _ T t c W _ XO hsz hG hP ?_)⟩;intro a' Wa hkf hga Jb Vr;have FZ:=hkf.same _ _ oz hl rfl;have hka:=hkf.same _ _ nL hk rfl;have hlt:w.heap.size+1<Wa.heap.size:=(gE FZ).1;refine⟨_,run_beginRound FZ (by rw[jL]),?_⟩;have Cb:(Wa.putObj (w.heap.size+1) (.loop {rec .ready Ag with state:= .busy})).heap[w.heap.size+1]?=Ai (.loop {rec .ready Ag with state:= .busy}):=G7 hlt;have rZ:(Wa.putObj (w.heap.size+1) (.loop {rec .ready Ag with state:= .busy})).heap[w.heap.size]?=Ai (.deferred (Ai [])):=(EM oz).trans hka;refine wpIn_mono (DK _ T t c a' _ (hgr _ _ _ oz (hG.trans hga)) (Kf _ _ _ _ _ _ _ _ oz FZ rfl Vr)) ?_;rintro e a3 W3 ⟨zn,Wm⟩;have qD:=zn.same _ _ oz Cb rfl;have Wn:=zn.same _ _ nL rZ rfl;have TF:w.heap.size+1<W3.heap.size:=(gE qD).1;rcases Wm with⟨hc,rfl,hX3,QM,zo⟩ | ⟨hc,rfl,zo⟩
  .have hr:=run_endRound (P:=pG) Ag qD
   refine⟨_,_,hr,.inl ⟨hc,rfl,hgr _ _ _ oz hX3,?_,MW _ _ _ _ _ oz qD rfl zo,?_,(EM oz).trans Wn⟩⟩
   .exact(EM oz).trans (QM.trans ((EM oz).trans Jb))
   .refine(G7 TF).trans ?_
    rw[jL];rfl
  .have hr:=run_endRound (P:=pG) (Ai .ret) qD
   refine⟨_,_,hr,.inr ⟨hc,rfl,MX _ _ _ _ oz qD rfl zo,?_,(EM oz).trans Wn⟩⟩;refine(G7 TF).trans ?_;rw[jL];rfl
 have qR:∀W W' (o o':Obj),W.heap[w.heap.size+1]?=Ai o->W.heap[w.heap.size]?=Ai o'->Gr (· =gm) W W'->W'.heap[w.heap.size+1]?=Ai o/\W'.heap[w.heap.size]?=Ai o':=λW W' o o' h1 h2 hG=>
  ⟨(hG.block _ (gE h1).1 oz).trans h1,(hG.block _ (gE h2).1 oz).trans h2⟩
 refine(MV (w.heap.size+1) W1 (λT W=>Post T W/\W.heap[w.heap.size+1]?=Ai (.loop (rec .ready Ag))/\W.heap[w.heap.size]?=Ai (.deferred (Ai [])))
  (λW=>lW W/\W.heap[w.heap.size+1]?=Ai (.loop (rec .done (Ai .ret)))/\W.heap[w.heap.size]?=Ai (.deferred (Ai []))) aU
  (λT W W' h hG=>⟨aQl _ _ _ h.1 hG,qR _ _ _ _ h.2.1 h.2.2 hG⟩) (λW W' h hG=>⟨aQm _ _ h.1 hG,qR _ _ _ _ h.2.1 h.2.2 hG⟩) ⟨hP0 _ aU,DL,TD⟩ ?_ ?_).mono ?_
 .intro T t W' XO hG hJ
  obtain⟨f,tm,as_,bo,hy,hR⟩:=Kg T t 0 W' XO hG hJ.1 hJ.2.1 hJ.2.2;refine⟨f,tm,as_,bo,hy,hR.mono ?_⟩;rintro e W2 (⟨-,rfl,h1,h2,h3,h4,h5⟩ | ⟨hc,-⟩)
  .exact⟨rfl,⟨h3,h4,h5⟩,h1,h2⟩
  .exact absurd rfl hc
 .intro T t c W' XO hc hG hJ
  obtain⟨f,tm,as_,bo,hy,hR⟩:=Kg T t c W' XO hG hJ.1 hJ.2.1 hJ.2.2;refine⟨f,tm,as_,bo,hy,hR.mono ?_⟩;rintro e W2 (⟨h0,-⟩ | ⟨-,rfl,h1,h2,h3⟩)
  .exact absurd h0 hc
  .exact⟨rfl,h1,h2,h3⟩
 .rintro e W3 ⟨⟨v,rfl⟩,iJ⟩
  unfold vZ at iJ
  cases hlx:ur s with
  | some T=>
   rw[hlx]at iJ;obtain⟨hP,qD,zn⟩:=iJ;have hr:=run_endLoop (P:=pG) qD (by rw[jL];simp);rw[show(rec .ready Ag).pending=Ag by rw[jL]]at hr;refine⟨Ag,_,hr,?_⟩;exact uK _ _ T nL hlx (MW _ _ _ _ _ oz qD rfl hP) ((EM oz).trans zn)
  | none=>
   rw[hlx]at iJ;obtain⟨hP,qD,zn⟩:=iJ;have hr:=run_endLoop (P:=pG) qD (by rw[jL];simp);rw[show(rec .done (Ai .ret)).pending=Ai .ret by rw[jL]]at hr;refine⟨Ai .ret,_,hr,?_⟩;exact wpIn_ret (Wk _ _ nL hlx (MX _ _ _ _ oz qD rfl hP) ((EM oz).trans zn))
theorem cB{α:Type}(p:α->Bool)(l:List α):(l.any λx=> !p x)= !(l.all p):=by
 induction l with
 | nil=>rfl
 | cons x l ih=>simp only[List.any_cons,List.all_cons,ih,Bool.not_and]
theorem aG1(g:Nat)(lb:Array Bn)(eg:∀args w,(EZ g args).run pG w= .ok (.enter g args) w)(Bx:Nat)(b:Bool)(x:fC)(W:Al)(hb:ah W Bx 144 #[.func (.func g) #[] lb])
 (au:∀W',BD W.heap.size W W'->CU g (#[x.val]++lb) W' (.bool b)):
 CU 224 #[x.val,.pointer (Ai ⟨Bx,0,Ag⟩)] W (.bool (!b)):=by
 have hc:=au (W.alloc (.cells #[.string x.c.unit,.slice x.n.a x.n.n x.n.c,.slice x.x.a x.x.n x.x.c] 83)) (bN);have c0:(W.alloc (.cells #[.string x.c.unit,.slice x.n.a x.n.n x.n.c,.slice x.x.a x.x.n x.x.c] 83)).cell? ⟨Bx,0,Ag⟩=Ai (.func (.func g) #[] lb):=(hb.alloc _).cell 0;dsimp only[fC.val]at hc;have Hc:=lz hc;have hlt:=hb.lt;clear au hb hc;go_enter func224,ntmps224;go_wp2_with (go_at_fn g;refine Hc.out.mono ?_;rintro e w' ⟨rfl,hb'⟩);go_ret;exact⟨rfl,((BK _ W).alloc nL (.cells #[.string x.c.unit,.slice x.n.a x.n.n x.n.c,.slice x.x.a x.x.n x.x.c] 83)).trans (hb'.mono qz)⟩
theorem aBL(g:Nat)(lb:Array Bn)(p:fC->Bool)(eg:∀args w,(EZ g args).run pG w= .ok (.enter g args) w)(l:List fC)(A:Option EK)(c:Nat)(w:Al)
 (hp:JW g lb p l w) (h:kr w w.heap.size A l) (hl:l.length<=9223372036854775807):
 CU 129 #[.slice A l.length c,.func (.func g) #[] lb] w (.bool (l.all p)):=by
 have h1:=ah.new w 144 #[.func (.func g) #[] lb];have bY:BD w.heap.size w (w.alloc (.cells #[.func (.func g) #[] lb] 144)):=bN;have aZ:=jJ 224 #[.pointer (Ai ⟨w.heap.size,0,Ag⟩)] (λx=> !p x) (Df func224 kz rfl) l A c (w.alloc (.cells #[.func (.func g) #[] lb] 144))
  (λW x hx hW fK=>aG1 g lb eg _ (p x) x W (h1.below hW h1.lt) λW' hW'=>hp W' x hx (bY.trans ((hW.mono bY.size).trans (hW'.mono (nT bY.size hW.size)))) (fK.below hW')) (h.below bY) hl
 rw[cB]at aZ;have eP:=lz aZ;generalize l.all p=q at *;clear h1 bY aZ hp h;go_enter func129,ntmps129;go_wp2_with fail;refine eP.out.mono ?_;rintro e w1 ⟨rfl,aU⟩;have HB:=lz (((BK _ w).alloc nL (.cells #[.func (.func g) #[] lb] 144)).trans (aU.mono qz));clear eP aU;go_wp2;go_ret;exact⟨by cases q<;>rfl,HB.out⟩
theorem aG2(g:Nat)(lb:Array Bn)(eg:∀args w,(EZ g args).run pG w= .ok (.enter g args) w)(Bx:Nat)(b:Bool)(x:fC)(W:Al)(hb:ah W Bx 144 #[.func (.func g) #[] lb])
 (au:∀W',BD W.heap.size W W'->CU g (#[x.val]++lb) W' (.bool b)):
 CU 150 #[x.val,.pointer (Ai ⟨Bx,0,Ag⟩)] W (.bool (!b)):=by
 have hc:=au (W.alloc (.cells #[.string x.c.unit,.slice x.n.a x.n.n x.n.c,.slice x.x.a x.x.n x.x.c] 83)) (bN);have c0:(W.alloc (.cells #[.string x.c.unit,.slice x.n.a x.n.n x.n.c,.slice x.x.a x.x.n x.x.c] 83)).cell? ⟨Bx,0,Ag⟩=Ai (.func (.func g) #[] lb):=(hb.alloc _).cell 0;dsimp only[fC.val]at hc;have Hc:=lz hc;have hlt:=hb.lt;clear au hb hc;go_enter func150,ntmps150;go_wp2_with (go_at_fn g;refine Hc.out.mono ?_;rintro e w' ⟨rfl,hb'⟩);go_ret;exact⟨rfl,((BK _ W).alloc nL (.cells #[.string x.c.unit,.slice x.n.a x.n.n x.n.c,.slice x.x.a x.x.n x.x.c] 83)).trans (hb'.mono qz)⟩
theorem aE9(g:Nat)(lb:Array Bn)(p:fC->Bool)(eg:∀args w,(EZ g args).run pG w= .ok (.enter g args) w)(l:List fC)(A:Option EK)(c:Nat)(w:Al)
 (hp:JW g lb p l w) (h:kr w w.heap.size A l) (hl:l.length<=9223372036854775807):
 CU 69 #[.slice A l.length c,.func (.func g) #[] lb] w (.bool (l.all p)):=by
 have h1:=ah.new w 144 #[.func (.func g) #[] lb];have bY:BD w.heap.size w (w.alloc (.cells #[.func (.func g) #[] lb] 144)):=bN;have aZ:=jJ 150 #[.pointer (Ai ⟨w.heap.size,0,Ag⟩)] (λx=> !p x) (Df func150 kz rfl) l A c (w.alloc (.cells #[.func (.func g) #[] lb] 144))
  (λW x hx hW fK=>aG2 g lb eg _ (p x) x W (h1.below hW h1.lt) λW' hW'=>hp W' x hx (bY.trans ((hW.mono bY.size).trans (hW'.mono (nT bY.size hW.size)))) (fK.below hW')) (h.below bY) hl
 rw[cB]at aZ;have eP:=lz aZ;generalize l.all p=q at *;clear h1 bY aZ hp h;go_enter func69,ntmps69;go_wp2_with fail;refine eP.out.mono ?_;rintro e w1 ⟨rfl,aU⟩;have HB:=lz (((BK _ w).alloc nL (.cells #[.func (.func g) #[] lb] 144)).trans (aU.mono qz));clear eP aU;go_wp2;go_ret;exact⟨by cases q<;>rfl,HB.out⟩
theorem aG3(g:Nat)(lb:Array Bn)(eg:∀args w,(EZ g args).run pG w= .ok (.enter g args) w)(Bx:Nat)(b:Bool)(x:jI)(W:Al)(hb:ah W Bx 142 #[.func (.func g) #[] lb])
 (au:∀W',BD W.heap.size W W'->CU g (#[x.val]++lb) W' (.bool b)):
 CU 275 #[x.val,.pointer (Ai ⟨Bx,0,Ag⟩)] W (.bool (!b)):=by
 have hc:=au (W.alloc (.cells #[.string x.unit,.int .i64 x.code] 85)) (bN);have c0:(W.alloc (.cells #[.string x.unit,.int .i64 x.code] 85)).cell? ⟨Bx,0,Ag⟩=Ai (.func (.func g) #[] lb):=(hb.alloc _).cell 0;dsimp only[jI.val]at hc;have Hc:=lz hc;have hlt:=hb.lt;clear au hb hc;go_enter func275,ntmps275;go_wp2_with (go_at_fn g;refine Hc.out.mono ?_;rintro e w' ⟨rfl,hb'⟩);go_ret;exact⟨rfl,((BK _ W).alloc nL (.cells #[.string x.unit,.int .i64 x.code] 85)).trans (hb'.mono qz)⟩
theorem aA9(g:Nat)(lb:Array Bn)(p:jI->Bool)(eg:∀args w,(EZ g args).run pG w= .ok (.enter g args) w)(l:List jI)(A:Option EK)(c:Nat)(w:Al)
 (hp:CG g lb p l w) (h:jE w w.heap.size A l) (hl:l.length<=9223372036854775807):
 CU 225 #[.slice A l.length c,.func (.func g) #[] lb] w (.bool (l.all p)):=by
 have h1:=ah.new w 142 #[.func (.func g) #[] lb];have bY:BD w.heap.size w (w.alloc (.cells #[.func (.func g) #[] lb] 142)):=bN;have aZ:=uG 275 #[.pointer (Ai ⟨w.heap.size,0,Ag⟩)] (λx=> !p x) (Df func275 kz rfl) l A c (w.alloc (.cells #[.func (.func g) #[] lb] 142))
  (λW x hx hW=>aG3 g lb eg _ (p x) x W (h1.below hW h1.lt) λW' hW'=>hp W' x hx (bY.trans ((hW.mono bY.size).trans (hW'.mono (nT bY.size hW.size))))) (h.below bY) hl
 rw[cB]at aZ;have eP:=lz aZ;generalize l.all p=q at *;clear h1 bY aZ hp h;go_enter func225,ntmps225;go_wp2_with fail;refine eP.out.mono ?_;rintro e w1 ⟨rfl,aU⟩;have HB:=lz (((BK _ w).alloc nL (.cells #[.func (.func g) #[] lb] 142)).trans (aU.mono qz));clear eP aU;go_wp2;go_ret;exact⟨by cases q<;>rfl,HB.out⟩
theorem aG4(g:Nat)(lb:Array Bn)(eg:∀args w,(EZ g args).run pG w= .ok (.enter g args) w)(Bx:Nat)(b:Bool)(x:jI)(W:Al)(hb:ah W Bx 142 #[.func (.func g) #[] lb])
 (au:∀W',BD W.heap.size W W'->CU g (#[x.val]++lb) W' (.bool b)):
 CU 142 #[x.val,.pointer (Ai ⟨Bx,0,Ag⟩)] W (.bool (!b)):=by
 have hc:=au (W.alloc (.cells #[.string x.unit,.int .i64 x.code] 85)) (bN);have c0:(W.alloc (.cells #[.string x.unit,.int .i64 x.code] 85)).cell? ⟨Bx,0,Ag⟩=Ai (.func (.func g) #[] lb):=(hb.alloc _).cell 0;dsimp only[jI.val]at hc;have Hc:=lz hc;have hlt:=hb.lt;clear au hb hc;go_enter func142,ntmps142;go_wp2_with (go_at_fn g;refine Hc.out.mono ?_;rintro e w' ⟨rfl,hb'⟩);go_ret;exact⟨rfl,((BK _ W).alloc nL (.cells #[.string x.unit,.int .i64 x.code] 85)).trans (hb'.mono qz)⟩
theorem aE8(g:Nat)(lb:Array Bn)(p:jI->Bool)(eg:∀args w,(EZ g args).run pG w= .ok (.enter g args) w)(l:List jI)(A:Option EK)(c:Nat)(w:Al)
 (hp:CG g lb p l w) (h:jE w w.heap.size A l) (hl:l.length<=9223372036854775807):
 CU 64 #[.slice A l.length c,.func (.func g) #[] lb] w (.bool (l.all p)):=by
 have h1:=ah.new w 142 #[.func (.func g) #[] lb];have bY:BD w.heap.size w (w.alloc (.cells #[.func (.func g) #[] lb] 142)):=bN;have aZ:=uG 142 #[.pointer (Ai ⟨w.heap.size,0,Ag⟩)] (λx=> !p x) (Df func142 kz rfl) l A c (w.alloc (.cells #[.func (.func g) #[] lb] 142))
  (λW x hx hW=>aG4 g lb eg _ (p x) x W (h1.below hW h1.lt) λW' hW'=>hp W' x hx (bY.trans ((hW.mono bY.size).trans (hW'.mono (nT bY.size hW.size))))) (h.below bY) hl
 rw[cB]at aZ;have eP:=lz aZ;generalize l.all p=q at *;clear h1 bY aZ hp h;go_enter func64,ntmps64;go_wp2_with fail;refine eP.out.mono ?_;rintro e w1 ⟨rfl,aU⟩;have HB:=lz (((BK _ w).alloc nL (.cells #[.func (.func g) #[] lb] 142)).trans (aU.mono qz));clear eP aU;go_wp2;go_ret;exact⟨by cases q<;>rfl,HB.out⟩
theorem aG5(g:Nat)(lb:Array Bn)(eg:∀args w,(EZ g args).run pG w= .ok (.enter g args) w)(Bx:Nat)(b:Bool)(x:ByteArray)(W:Al)(hb:ah W Bx 185 #[.func (.func g) #[] lb])
 (au:∀W',BD W.heap.size W W'->CU g (#[.string x]++lb) W' (.bool b)):
 CU 177 #[.string x,.pointer (Ai ⟨Bx,0,Ag⟩)] W (.bool (!b)):=by
 have Hc:=lz (au W (BK _ W));have c0:=hb.cell 0;have hlt:=hb.lt;clear au hb;go_enter func177,ntmps177;go_wp2_with (go_at_fn g;refine Hc.out.mono ?_;rintro e w' ⟨rfl,hb'⟩);go_ret;exact⟨rfl,hb'⟩
theorem aB7(g:Nat)(lb:Array Bn)(p:ByteArray->Bool)(eg:∀args w,(EZ g args).run pG w= .ok (.enter g args) w)(l:List ByteArray)(A:Option EK)(c:Nat)(w:Al)
 (hp:JV g lb p l w) (h:iB w w.heap.size A l) (hl:l.length<=9223372036854775807):
 CU 101 #[.slice A l.length c,.func (.func g) #[] lb] w (.bool (l.all p)):=by
 have h1:=ah.new w 185 #[.func (.func g) #[] lb];have bY:BD w.heap.size w (w.alloc (.cells #[.func (.func g) #[] lb] 185)):=bN;have aZ:=uF 177 #[.pointer (Ai ⟨w.heap.size,0,Ag⟩)] (λx=> !p x) (Df func177 kz rfl) l A c (w.alloc (.cells #[.func (.func g) #[] lb] 185))
  (λW x hx hW=>aG5 g lb eg _ (p x) x W (h1.below hW h1.lt) λW' hW'=>hp W' x hx (bY.trans ((hW.mono bY.size).trans (hW'.mono (nT bY.size hW.size))))) (h.below bY) hl
 rw[cB]at aZ;have eP:=lz aZ;generalize l.all p=q at *;clear h1 bY aZ hp h;go_enter func101,ntmps101;go_wp2_with fail;refine eP.out.mono ?_;rintro e w1 ⟨rfl,aU⟩;have HB:=lz (((BK _ w).alloc nL (.cells #[.func (.func g) #[] lb] 185)).trans (aU.mono qz));clear eP aU;go_wp2;go_ret;exact⟨by cases q<;>rfl,HB.out⟩
def fV(w:Al)(B:Nat)(A:Option EK)(l:List Int):Prop:=
 0<l.length->∃b o,A=Ai ⟨b,o,Ag⟩/\b<B/\∀i (h:i<l.length),w.cell? ⟨b,o+i,Ag⟩=Ai (.int .i64 l[i])
def Kl(g:Nat)(lb:Array Bn)(p:Int->Bool)(l:List Int)(w:Al):Prop:=
 ∀(W:Al) (r:Int),r∈l->BD w.heap.size w W->CU g (#[.int .i64 r]++lb) W (.bool (p r))
theorem fV.keep{w w':Al}{B:Nat}{A:Option EK}{l:List Int}(h:fV w B A l)(hb:BD B w w'):fV w' B A l:=λhn=>by
 obtain⟨b,o,rfl,gD,hc⟩:=h hn;exact⟨b,o,rfl,gD,λi hi=>(hb.cell (p:=⟨b,o+i,Ag⟩) gD).trans (hc i hi)⟩
theorem ZK(g:Nat)(lb:Array Bn)(p:Int->Bool)(eg:∀args w,(EZ g args).run pG w= .ok (.enter g args) w)(l:List Int)(A:Option EK)(c:Nat)(w:Al)
 (hp:Kl g lb p l w) (h:fV w w.heap.size A l) (hl:l.length<=9223372036854775807):
 CU 228 #[.slice A l.length c,.func (.func g) #[] lb] w (.int .i64 (cV p l)):=by
 go_enter func228,ntmps228;go_wp2;go_loopw [5,8] (λ_ i wr=>∃k:Nat,k<=l.length/\i= .int .i64 k/\BD w.heap.size w wr/\Hid (∀j (h:j<l.length),j<k->p l[j]=Bj)) (λ_ i _=>l.length-(intOf i).toNat)
 case atStart=>exact⟨0,nZ,rfl,BK _ _,λj _ h=>absurd h oz⟩
 case round=>
  obtain⟨k,hk,rfl,hB,aJ⟩:=hrel;by_cases hlt:k<l.length
  .obtain⟨b,o,rfl,hb,hc⟩:=h.keep hB oz
   have gH:=hc k hlt;have au:=hp wr l[k] (List.getElem_mem hlt) hB;clear hc hp h;have hs:=hB.size;have cD:p l[k]=BR->cV p l=k:=λhq=>nR hlt hq aJ.out
   have cQ:p l[k]=Bj->∀j (h:j<l.length),j<k+1->p l[j]=false:=λhq=>lU (p:=λr=>p r=Bj) aJ.out hq
   have dU:=lz cD;have dH:=lz cQ;clear cD cQ aJ;generalize l[k]=r at gH au dU dH;have c0:=gH;clear gH
   cases hq:p r with
   | true=>
    have cD:=lz (dU.out hq);rw[hq]at au;clear dU dH hq;go_wp2_with (go_at_fn g;refine au.mono ?_;rintro e w' ⟨rfl,hb'⟩);go_ret;exact⟨eT cD.out.symm,hB.trans (hb'.mono hs)⟩
   | false=>
    have cQ:=lz (dH.out hq);rw[hq]at au;clear dU dH hq;go_wp2_with (go_at_fn g;refine au.mono ?_;rintro e w' ⟨rfl,hb'⟩);go_roundw
    case rel=>exact⟨k+1,oz,by go_num,hB.trans (hb'.mono hs),cQ⟩
    case measure=>simp[intOf];omega
  .go_wp2
   go_ret;exact⟨eT (nM λj hj=>aJ.out j hj oz).symm,hB⟩
theorem sU(g:Nat)(lb:Array Bn)(p:Int->Bool)(eg:∀args w,(EZ g args).run pG w= .ok (.enter g args) w)(l:List Int)(A:Option EK)(c:Nat)(w:Al)
 (hp:Kl g lb p l w) (h:fV w w.heap.size A l) (hl:l.length<=9223372036854775807):
 CU 133 #[.slice A l.length c,.func (.func g) #[] lb] w (.bool (l.any p)):=by
 have hI:=ZK g lb p eg l A c w hp h hl;rw[<-eZ];generalize cV p l=q at hI ⊢;clear h hp;go_enter func133,ntmps133;go_wp2_with fail;refine hI.mono ?_;rintro e w1 ⟨rfl,aU⟩;clear hI;go_wp2;go_ret;exact⟨rfl,aU⟩


theorem aDB:(pG.info? 290).map (λi=>(i.zero,i.size,i.bytes))=Ai (Ai (.agg #[.int .u8 0,.string ⟨#[]⟩,.int .i64 0]),3,32):=by kernel_rfl
theorem aG6(g:Nat)(w:Al):ET pG 298 #[.pointer (Ai ⟨g,0,Ag⟩)] w λe w'=>e= .returned (.func (.func 315) #[] #[.pointer (Ai ⟨w.heap.size,0,Ag⟩)])/\w'=w.alloc (.cells #[.pointer (Ai ⟨g,0,Ag⟩)] 317):=by
 go_enter func298,ntmps298;go_wp2;go_ret;exact⟨rfl,rfl⟩
