import Derived.Shelf.SlSortCmp.NoneTotal
import Derived.StillTailTactics
import Derived.Test.YtmdgooofdmpcjaaGreatDoorY1
import Derived.Test.YtmdgooofdmpcjaaGreatDoorY2
set_option maxRecDepth 100000
set_option maxHeartbeats 8000000
set_option linter.unusedSimpArgs false
set_option linter.unusedVariables false
set_option linter.unusedSectionVars false
open Go.Proofs.Tryz renaming prog → pG
open Bool renaming false->Bj,true->BR
open Nat renaming lt_of_lt_of_le->EU,zero_add->E9
open Option renaming none->Ag,some->Ai
open Go.Proofs.Tryz
namespace Go.Proofs.YtmdgooofdmpcjaaGreatDoor
open Go renaming Addr->EK,Calls->ET,Value->Bn,World->Al,bodyPost_ret->GJ,callFunc->EZ,maxLen->EW,wpList_append_own->G9
open RowKit renaming intOf->E8
open Value renaming ownBlock->Jk,string->GI
open World renaming cell?_of_block->GV,setCell->GK
section
open Go.ChangeShapes Go.WideShapes Go.ChangeAt Go.RowKit Go.Sort
attribute [local go_sem] Oper.semAt_some

instance:Inhabited jI:=⟨⟨⟨#[]⟩,0⟩⟩
end
section
open Go.ChangeShapes Go.WideShapes Go.ChangeAt Go.RowKit
attribute [local go_sem] Oper.semAt_some

end
section

end
section
open Go.ChangeShapes Go.WideShapes Go.ChangeAt Go.RowKit
attribute [local go_sem] Oper.semAt_some


end
section
open Go.ChangeShapes Go.WideShapes Go.ChangeAt Go.RowKit Go.Maps
attribute [local go_sem] Oper.semAt_some

end
section
open Go.ChangeShapes Go.WideShapes Go.ChangeAt Go.RowKit
attribute [local go_sem] Oper.semAt_some
section
variable {ν ρ:Type} [DecidableEq ν] [DecidableEq ρ]
end



theorem aD{B n:Nat}{w w':Al}(h:Below B w w'):Below B w (w'.drewN n):=⟨h.os,h.tape,h.output,h.size,h.block⟩

structure gM(w:Al)(g:Nat)(A:Option EK)(c:Nat)(ts:List Tok)(now:Nat)(sz:Int):Prop where
 blk:ah w g 202 #[.slice A ts.length c,.int .i64 now,.int .i64 sz,.int .i64 0,.int .i64 0]
 toks:Ir w g A ts
section
variable {w w':Al} {g:Nat} {A:Option EK} {c:Nat} {ts:List Tok} {now:Nat} {sz:Int}
theorem gM.lt(h:gM w g A c ts now sz):g<w.heap.size:=h.blk.lt
theorem gM.below(h:gM w g A c ts now sz)(hb:Below w.heap.size w w'):gM w' g A c ts now sz:=
 ⟨h.blk.below hb h.lt,h.toks.dn nL λb o hlt=>hb.cell (p:=⟨b,o,Ag⟩) (Nat.lt_trans hlt h.lt)⟩
theorem gM.kept(h:gM w g A c ts now sz){X:Nat->Prop}(hg:Gr X w w')(hX:∀k,k<=g->¬X k):gM w' g A c ts now sz:=
 ⟨hg.blk h.blk (hX _ nL),h.toks.dn nL λb o hlt=>GV (hg.block b (Nat.lt_trans hlt h.lt) (hX _ oz))⟩
theorem gM.step(h:gM w g A c ts now sz):gM (w.setCell ⟨g,1,Ag⟩ (.int .i64 ((now+1:Nat):Int))) g A c ts (now+1) sz:=
 ⟨by simpa using h.blk.bX 1 (.int .i64 ((now+1:Nat):Int)),h.toks.dn nL λb o hlt=>GV (Below.heap_setCell w ⟨g,1,Ag⟩ _ b qo)⟩
theorem ED(w:Al)(h:gM w g A c ts now sz)(hn:now<ts.length)(hl:ts.length<=100000):
 CU 261 #[.pointer (Ai ⟨g,0,Ag⟩)] w (ts[now]'hn).val:=by
 obtain⟨w1,cN⟩:=ez (w.alloc (.cells #[.int .i64 0,.string ⟨#[]⟩,.int .i64 0] 280));have bY:Below w.heap.size w w1:=by rw[cN];exact bN
 have gP:ah w1 w.heap.size 280 #[.int .i64 0,.string ⟨#[]⟩,.int .i64 0]:=by rw[cN];exact ah.new w _ _
 obtain⟨b,o,rfl,hb,hc⟩:=h.toks oz;obtain⟨d0,d1,d2⟩:=hc now hn;have hI:=h.below bY;have wu:=h.lt;have k0:=hI.blk.cell 0;have k1:=hI.blk.cell 1;have k4:=hI.blk.cell 4;have l0:=hI.blk.cell 0;have l1:=hI.blk.cell 1;have j0:w1.cell? ⟨b,o+now*3,Ag⟩=Ai (.int .i64 (ts[now]'hn).kind):=(bY.cell (p:=⟨b,o+now*3,Ag⟩) (Nat.lt_trans hb wu)).trans d0;have j1:w1.cell? ⟨b,o+now*3+1,Ag⟩=Ai (.string (ts[now]'hn).text):=(bY.cell (p:=⟨b,o+now*3+1,Ag⟩) (Nat.lt_trans hb wu)).trans d1;have j2:w1.cell? ⟨b,o+now*3+2,Ag⟩=Ai (.int .i64 (ts[now]'hn).at_):=(bY.cell (p:=⟨b,o+now*3+2,Ag⟩) (Nat.lt_trans hb wu)).trans d2;have f0:=gP.frozen 0;have f1:=gP.frozen 1;have f2:=gP.frozen 2;have x0:=gP.cell 0;have x1:=gP.cell 1;have x2:=gP.cell 2;have JQ:decide ((now:Int)>=ts.length)=false:=by simp;omega
 have cU:=lz bY;have KE:=lz cN;have DU:=lz gP;have aXp:w.heap.size<w1.heap.size:=by rw[cN];simp
 clear d0 d1 d2 hc h hI bY cN gP;generalize ts[now]=t at *;go_enter func261,ntmps261;go_wp2_with fail;rw[<-KE.out];go_quiet (fail);go_wp2_with fail;go_region;go_wp2_with fail;have Xj:Below w.heap.size w ((((w1.drewN (nq+1)).setCell ⟨w.heap.size,0,Ag⟩ (.int .i64 t.kind)).setCell ⟨w.heap.size,1,Ag⟩ (.string t.text)).setCell ⟨w.heap.size,2,Ag⟩ (.int .i64 t.at_)):=
  (((aD cU.out).setCell nL _).setCell nL _).setCell nL _
 have hz:=(((DU.out.drewN (nq+1)).bX 0 (.int .i64 t.kind)).bX 1 (.string t.text)).bX 2 (.int .i64 t.at_);generalize ((((w1.drewN (nq+1)).setCell ⟨w.heap.size,0,Ag⟩ (.int .i64 t.kind)).setCell ⟨w.heap.size,1,Ag⟩ (.string t.text)).setCell ⟨w.heap.size,2,Ag⟩ (.int .i64 t.at_))=W5 at *;have z0:=hz.cell 0;have z1:=hz.cell 1;have z2:=hz.cell 2;exact GJ (v:=t.val) (by simp[results,results261,go_sem,z0,z1,z2]) rfl ⟨rfl,Xj⟩
end
def dB(t:Tok)(s:ByteArray):Bool:=((t.kind==1)||(t.kind==3))&&(t.text.toList==s.toList)
section
variable {g:Nat} {A:Option EK} {c:Nat} {ts:List Tok} {now:Nat} {sz:Int}
theorem tJ(s:ByteArray)(w:Al)(h:gM w g A c ts now sz)(hn:now<ts.length)(hl:ts.length<=100000):
 CU 259 #[.pointer (Ai ⟨g,0,Ag⟩),.string s] w (.bool (dB (ts[now]'hn) s)):=by
 have hh:=ED w h hn hl;obtain⟨q,hq⟩:∃q,dB (ts[now]'hn) s=q:=⟨_,rfl⟩;rw[hq];unfold dB at hq;generalize ts[now]=t at *;dsimp only[Tok.val]at hh;have Hh:=lz hh;have Hq:=lz hq;clear hh hq h
 cases h1:(t.kind==1)<;>cases h3:(t.kind==3)<;>cases h2:(t.text.toList==s.toList)
 all_goals
  rw[h1,h3,h2]at Hq;go_enter func259,ntmps259;go_wp2_with (go_at_call 261;refine Hh.out.mono ?_;rintro e w1 ⟨rfl,aU⟩);go_ret;exact⟨fT Hq.out,aU.alloc aU.size _⟩
theorem EF(s:ByteArray)(w:Al)(h:gM w g A c ts now sz)(hn:now<ts.length)(hl:ts.length<=100000)(hs:dB (ts[now]'hn) s=Bj):
 CU 195 #[.pointer (Ai ⟨g,0,Ag⟩),.string s] w (.bool Bj):=by
 have hh:=tJ s w h hn hl;rw[hs]at hh;have Hh:=lz hh;clear hh h hs;go_enter func195,ntmps195;go_wp2_with (go_at_call 259;refine Hh.out.mono ?_;rintro e w1 ⟨rfl,aU⟩);go_ret;exact⟨rfl,aU⟩
theorem Da{w w1:Al}(hb:Below w.heap.size w w1)(u:Bn):Gr (· =g) w (w1.setCell ⟨g,1,Ag⟩ u):=(Gr.ak hb).trans (Gr.setCell _ _ _ rfl)
theorem Rf(s:ByteArray)(w:Al)(h:gM w g A c ts now sz)(hn:now<ts.length)(hl:ts.length<=100000)(hs:dB (ts[now]'hn) s=BR):
 ET pG 195 #[.pointer (Ai ⟨g,0,Ag⟩),.string s] w λe w'=>e= .returned (.bool BR)/\gM w' g A c ts (now+1) sz/\Gr (· =g) w w':=by
 have hh:=tJ s w h hn hl;rw[hs]at hh;have Hh:=lz hh;have H:=lz h;clear hh h hs;go_enter func195,ntmps195;go_wp2_with fail;refine Hh.out.mono ?_;rintro e w1 ⟨rfl,aU⟩;have hI:=H.out.below aU;have k1:=hI.blk.cell 1;have f1:=hI.blk.frozen 1;have HR:=lz (ai hI.step (Da (g:=g) aU (.int .i64 ((now+1:Nat):Int))));clear Hh aU hI;go_wp2;go_ret;exact⟨rfl,HR.out⟩
theorem YX(s:ByteArray)(w:Al)(h:gM w g A c ts now sz)(hn:now<ts.length)(hl:ts.length<=100000)(hs:dB (ts[now]'hn) s=BR):
 ET pG 198 #[.pointer (Ai ⟨g,0,Ag⟩),.string s] w λe w'=>(∃v,e= .returned v)/\gM w' g A c ts (now+1) sz/\Gr (· =g) w w':=by
 have Hh:=lz (Rf s w h hn hl hs);clear h hs;go_enter func198,ntmps198;go_wp2_with (go_at_call 195;refine Hh.out.mono ?_;rintro e w1 ⟨rfl,aU⟩);go_end0;exact⟨⟨_,rfl⟩,aU⟩
theorem aGX(w:Al)(h:gM w g A c ts now sz)(hn:now<ts.length)(hl:ts.length<=100000)(hk:(ts[now]'hn).kind=1):
 ET pG 200 #[.pointer (Ai ⟨g,0,Ag⟩)] w λe w'=>e= .returned (.string (ts[now]'hn).text)/\gM w' g A c ts (now+1) sz/\Gr (· =g) w w':=by
 have hh:=ED w h hn hl;generalize ts[now]=t at *;obtain⟨k,x,y⟩:=t;obtain rfl:k=1:=hk;dsimp only[Tok.val]at hh;have Hh:=lz hh;have H:=lz h;clear hh h;go_enter func200,ntmps200;go_wp2_with fail;refine Hh.out.mono ?_;rintro e w1 ⟨rfl,aU⟩;have hI:=H.out.below aU;have k1:=hI.blk.cell 1;have f1:=hI.blk.frozen 1;have dI:Below (w1.setCell ⟨g,1,Ag⟩ (.int .i64 ((now+1:Nat):Int))).heap.size (w1.setCell ⟨g,1,Ag⟩ (.int .i64 ((now+1:Nat):Int))) ((w1.setCell ⟨g,1,Ag⟩ (.int .i64 ((now+1:Nat):Int))).alloc (.cells #[.int .i64 1,.string x,.int .i64 y] 280)):=bN;have hlt:g<w1.heap.size:=EU H.out.lt aU.size;have HR:=lz (ai (hI.step.below dI) ((Da (g:=g) aU (.int .i64 ((now+1:Nat):Int))).trans (Gr.ak dI)));clear Hh aU hI dI;go_wp2;go_ret;exact⟨rfl,HR.out⟩
theorem aLY(n:Int)(w:Al)(h:gM w g A c ts now sz)(hn:now<ts.length)(hl:ts.length<=100000)(hk:(ts[now]'hn).kind=2)(hf:VU (ts[now]'hn).text n=BR):
 ET pG 205 #[.pointer (Ai ⟨g,0,Ag⟩)] w λe w'=>e= .returned (.int .i64 n)/\gM w' g A c ts (now+1) sz/\Gr (· =g) w w':=by
 have hh:=ED w h hn hl;generalize ts[now]=t at *;obtain⟨k,x,y⟩:=t;obtain rfl:k=2:=hk;dsimp only[Tok.val]at hh hf;have hN:=λW=>VX (s:=x) W hf
 have HN:=lz hN;have Hh:=lz hh;have H:=lz h;clear hh h hN hf;go_enter func205,ntmps205;go_wp2_with fail;refine Hh.out.mono ?_;rintro e w1 ⟨rfl,aU⟩;have hI:=H.out.below aU;have k1:=hI.blk.cell 1;have f1:=hI.blk.frozen 1;have dI:Below (w1.setCell ⟨g,1,Ag⟩ (.int .i64 ((now+1:Nat):Int))).heap.size (w1.setCell ⟨g,1,Ag⟩ (.int .i64 ((now+1:Nat):Int))) ((w1.setCell ⟨g,1,Ag⟩ (.int .i64 ((now+1:Nat):Int))).alloc (.cells #[.int .i64 2,.string x,.int .i64 y] 280)):=bN;have hlt:g<w1.heap.size:=EU H.out.lt aU.size;have HR:=lz (ai (hI.step.below dI) ((Da (g:=g) aU (.int .i64 ((now+1:Nat):Int))).trans (Gr.ak dI)));clear Hh aU hI dI;go_wp2_with (go_at_call 258;refine(HN.out _).mono ?_;rintro e w' ⟨rfl,rfl⟩);go_ret;exact⟨rfl,HR.out⟩
end
theorem JB{b:Int}{r:Bool}(h:jO b=r)(w:Al):ET pG 254 #[.int .u8 b] w λe w'=>e= .returned (.bool r)/\w=w':=h▸Dt b w
theorem YZ{b:Int}{r:Bool}(h:lD b=r)(w:Al):ET pG 255 #[.int .u8 b] w λe w'=>e= .returned (.bool r)/\w=w':=h▸JX b w
structure aLZ(w:Al)(out:List Tok)(v:Bn)(W:Al):Prop where
 below:Below w.heap.size w W
 own:W.ownsRow w.heap.size 280 3 v out.length (out.flatMap Tok.cells)
theorem aIK(s:ByteArray)(ts:List Tok)(F:Nat)(w:Al)(hs:s.size<=1000)(h:jG s F 0 []=Ai ts):
 ET pG 194 #[.string s] w λe w'=>∃A c,e= .returned (.tuple #[.slice A ts.length c,.int .i64 0,.int .i64 0])/\Ir w' w'.heap.size A ts/\Below w.heap.size w w':=by
 have H:=lz h;obtain⟨i0,lX,hz0,hz1,hz2⟩:=info_parts aAm;have hlen:decide ((s.size:Int)>65536)=false:=by simp;omega
 clear h;go_enter func194,ntmps194;go_wp2;go_loopw [5,6] (λv t wr=>∃(p f:Nat) (out:List Tok),p<=s.size/\out.length<=p/\t= .int .i64 p/\Hid (jG s f p out=Ai ts)/\aLZ w out v wr) (λ_ t _=>s.size-(E8 t).toNat)
 case atStart=>exact⟨0,F,[],nZ,nZ,rfl,H,Below.refl _ _,World.ownsRow_nil _ _ _ _⟩
 case round=>
  obtain⟨p,f,out,hp,hop,rfl,hL,hS⟩:=hrel;clear H;obtain⟨f,rfl⟩:=RN hL.out;obtain⟨Av,cv,rfl,_⟩:=bp hS.own;have HS:=lz hS;clear hS;by_cases hlt:p<s.size
  .have hb:=jf hlt
   have rN:(fM s p==32)=BR->Hid (jG s f (p+1) out=Ai ts):=λe=>lz (Tt hL.out hlt e)
   cases q0:(fM s p==32)with
   | true=>
    have Hn:=rN q0;rw[<-hb]at q0;clear rN hL hb;go_wp2;go_roundw
    case rel=>exact⟨p+1,f,out,oz,oz,by go_num,Hn,HS.out⟩
    case measure=>simp[E8];omega
   | false=>
    obtain⟨q1,q2,q3,q4⟩:=Iu hL.out hlt q0;have hsg:=aEU ((s[p]'hlt).toNat:Int) wr;have aXq:=hlt;have i1:(p:Int)<=(p:Int)+1:=by omega
    have i2:(p:Int)+1<=s.size:=by omega
    cases q5:wP (fM s p)with
    | true=>
     have Hn:=lz (V2 hL.out hlt q0 q5);rw[hb,q5,<-hb]at hsg;have Hsg:=lz hsg;rw[<-hb]at q0 q1 q2 q3 q4;clear rN hL hb hsg q5;go_wp2_with (first | (go_at_call 253;refine Hsg.out.mono ?_;rintro e w' ⟨rfl,rfl⟩) | (at_builtin;refine G9 _ rfl (.tmp 56) (.tmp 63) 200 rfl w.heap.size 280 i0 (.agg #[.int .i64 0,.string ⟨#[]⟩,.int .i64 0]) 3 32 underlying200 lX hz0 hz1 hz2 rfl dz _ _ _ rfl (HS.out.own.alloc _) ⟨wr.heap.size,0,Ag⟩ 1 1 [.int .i64 3,.string (s.extract p (p+1)),.int .i64 p] rfl rfl ?c1 ?c2 ?c3 ?c4 ?c5 ?_))
     case c1=>
      intro j u' hj;rw[bO,E9,(ah.new wr 280 #[.int .i64 3,.string (s.extract p (p+1)),.int .i64 p]).cell j];simpa using hj
     case c2=>intro u' kQ;simp at kQ;rcases kQ with rfl | rfl | rfl<;>rfl
     case c3=>unfold EW;omega
     case c4=>omega
     case c5=>have:=HS.out.below.size;simp;omega
     intro v5 w5 dQ mE _;have jU:=(HS.out.below.alloc HS.out.below.size (.cells #[.int .i64 3,.string (s.extract p (p+1)),.int .i64 p] 280)).grown mE (by have:=HS.out.below.size;simp;omega) (λg hg=>((HS.out.own.alloc (.cells #[.int .i64 3,.string (s.extract p (p+1)),.int .i64 p] 280)).lt g hg).1);have HR:=lz (ai jU dQ);clear dQ mE jU;go_wp2;go_roundw
     case rel=>exact⟨p+1,f,_,oz,qo,by go_num,Hn,HR.out.1,by simpa [Tok.cells]using HR.out.2⟩
     case measure=>simp[E8];omega
    | false=>
     rw[hb,q5,<-hb]at hsg;have Hsg:=lz hsg;have aGZ:=fun(k:Nat) (hk:k<s.size)=>CH ((s[k]'hk).toNat:Int) wr
     have aXr:=lz aGZ;obtain⟨E,hE⟩:=ez (dO s s.size (p+1));have HE:=lz hE
     cases q6:jO (fM s p)with
     | true=>
      have hw:=V4 hL.out hlt q0 q5 q6;rw[<-hE]at hw;have uU:=λW=>aAh (s:=s.extract p E) W hw.1
      have KM:=lz uU;have HL2:=lz hw.2;rw[<-hb]at q0 q1 q2 q3 q4 q6;have hle:=λW=>JB q6 W
      have Yv:=lz hle;clear rN hL hb hsg q5 hle aGZ hE hw q6 uU;go_wp2_with (first | (go_at_call 253;refine Hsg.out.mono ?_;rintro e w' ⟨rfl,rfl⟩) | (go_at_call 254;refine(Yv.out _).mono ?_;rintro e w' ⟨rfl,rfl⟩));go_loopw [8] (λt wr'=>∃q f2:Nat,p+1<=q/\q<=s.size/\t= .int .i64 q/\Hid (dO s f2 q=E/\s.size<=q+f2)/\wr'=wr) (λt _=>s.size-(E8 t).toNat)
      case atStart=>exact⟨p+1,s.size,nL,oz,by go_num,⟨HE.out.symm,oz⟩,rfl⟩
      case round=>
       obtain⟨q,f2,MI,lS,rfl,Rg,rfl⟩:=hrel;have Y6:(¬q<s.size\/mB (fM s q)=Bj)->E=q:=λh=>by
        rw[<-Rg.out.1];rcases h with h | h
        .exact AB h
        .exact wR h
       by_cases Fz:q<s.size
       .have sy:=λW=>CH ((s[q]'Fz).toNat:Int) W
        cases Rh:mB (fM s q)with
        | true=>
         obtain⟨f3,rfl⟩:∃f3,f2=f3+1:=⟨f2-1,by have:=Rg.out.2;omega⟩;have pE:=lz (ai ((wQ Fz Rh).symm.trans Rg.out.1) (show s.size<=q+1+f3 by have:=Rg.out.2;omega));rw[jf Fz,Rh,<-jf Fz]at sy;have VT:=lz sy;clear sy Rh Y6 Rg;go_wp2_with (go_at_call 256;refine(VT.out _).mono ?_;rintro e w' ⟨rfl,rfl⟩);go_roundw
         case rel=>exact⟨q+1,f3,oz,oz,by go_num,pE,trivial⟩
         case measure=>simp[E8];omega
        | false=>
         have hEq:=Y6 (.inr Rh);rw[jf Fz,Rh,<-jf Fz]at sy;have VT:=lz sy;clear sy Rh Y6 Rg;obtain rfl:=hEq;have Ri:Below wr.heap.size wr (wr.alloc (.cells #[.int .i64 1,.string (s.extract p E),.int .i64 p] 280)):=bN;have Y7:=lz (lV HS.out.own (gL (row:=Ag) Ri) (λr e=>by cases e));have Rj:=lz (HS.out.below.trans (Ri.mono HS.out.below.size));have hpq:(p:Int)<=(E:Int):=by omega
         have Vu:(E:Int)<=(s.size:Int):=by omega
         clear Ri;go_wp2_with (first | (go_at_call 256;refine(VT.out _).mono ?_;rintro e w' ⟨rfl,rfl⟩) | (go_at_call 254;refine(Yv.out _).mono ?_;rintro e w' ⟨rfl,rfl⟩) | (go_at_call 257;refine(KM.out _).mono ?_;rintro e w' ⟨rfl,rfl⟩) | (at_builtin;refine G9 _ rfl (.tmp 110) (.tmp 112) 200 rfl w.heap.size 280 i0 (.agg #[.int .i64 0,.string ⟨#[]⟩,.int .i64 0]) 3 32 underlying200 lX hz0 hz1 hz2 rfl dz _ _ _ rfl (Y7.out.alloc _) ⟨wr.heap.size+1,0,Ag⟩ 1 1 [.int .i64 1,.string (s.extract p E),.int .i64 p] rfl rfl ?c1 ?c2 ?c3 ?c4 ?c5 ?_))
         case c1=>
          intro j u' hj;rw[bO,E9];have DH:=ah.new (wr.alloc (.cells #[.int .i64 1,.string (s.extract p E),.int .i64 p] 280)) 280 #[.int .i64 1,.string (s.extract p E),.int .i64 p];rw[show(World.heap _).size=wr.heap.size+1 by simp[GK]]at DH;exact(DH.cell j).trans (by simpa using hj)
         case c2=>intro u' kQ;simp at kQ;rcases kQ with rfl | rfl | rfl<;>rfl
         case c3=>unfold EW;omega
         case c4=>omega
         case c5=>have:=HS.out.below.size;simp[GK];omega
         intro v5 w5 dQ mE _;have jU:=(Rj.out.alloc Rj.out.size (.cells #[.int .i64 1,.string (s.extract p E),.int .i64 p] 280)).grown mE (by have:=Rj.out.size;simp[GK]at this ⊢;omega) (λg hg=>((Y7.out.alloc (.cells #[.int .i64 1,.string (s.extract p E),.int .i64 p] 280)).lt g hg).1);have HR:=lz (ai jU dQ);clear dQ mE jU;go_wp2;go_roundw
         case rel=>exact⟨E,f,_,oz,qo,rfl,HL2,HR.out.1,by simpa [Tok.cells]using HR.out.2⟩
         case measure=>simp[E8];omega
       .have hEq:=Y6 (.inl Fz)
        clear Y6 Rg;obtain rfl:=hEq;have Ri:Below wr.heap.size wr (wr.alloc (.cells #[.int .i64 1,.string (s.extract p E),.int .i64 p] 280)):=bN;have Y7:=lz (lV HS.out.own (gL (row:=Ag) Ri) (λr e=>by cases e));have Rj:=lz (HS.out.below.trans (Ri.mono HS.out.below.size));have hpq:(p:Int)<=(E:Int):=by omega
        have Vu:(E:Int)<=(s.size:Int):=by omega
        clear Ri;go_wp2_with (first | (go_at_call 254;refine(Yv.out _).mono ?_;rintro e w' ⟨rfl,rfl⟩) | (go_at_call 257;refine(KM.out _).mono ?_;rintro e w' ⟨rfl,rfl⟩) | (at_builtin;refine G9 _ rfl (.tmp 110) (.tmp 112) 200 rfl w.heap.size 280 i0 (.agg #[.int .i64 0,.string ⟨#[]⟩,.int .i64 0]) 3 32 underlying200 lX hz0 hz1 hz2 rfl dz _ _ _ rfl (Y7.out.alloc _) ⟨wr.heap.size+1,0,Ag⟩ 1 1 [.int .i64 1,.string (s.extract p E),.int .i64 p] rfl rfl ?c1 ?c2 ?c3 ?c4 ?c5 ?_))
        case c1=>
         intro j u' hj;rw[bO,E9];have DH:=ah.new (wr.alloc (.cells #[.int .i64 1,.string (s.extract p E),.int .i64 p] 280)) 280 #[.int .i64 1,.string (s.extract p E),.int .i64 p];rw[show(World.heap _).size=wr.heap.size+1 by simp[GK]]at DH;exact(DH.cell j).trans (by simpa using hj)
        case c2=>intro u' kQ;simp at kQ;rcases kQ with rfl | rfl | rfl<;>rfl
        case c3=>unfold EW;omega
        case c4=>omega
        case c5=>have:=HS.out.below.size;simp[GK];omega
        intro v5 w5 dQ mE _;have jU:=(Rj.out.alloc Rj.out.size (.cells #[.int .i64 1,.string (s.extract p E),.int .i64 p] 280)).grown mE (by have:=Rj.out.size;simp[GK]at this ⊢;omega) (λg hg=>((Y7.out.alloc (.cells #[.int .i64 1,.string (s.extract p E),.int .i64 p] 280)).lt g hg).1);have HR:=lz (ai jU dQ);clear dQ mE jU;go_wp2;go_roundw
        case rel=>exact⟨E,f,_,oz,qo,rfl,HL2,HR.out.1,by simpa [Tok.cells]using HR.out.2⟩
        case measure=>simp[E8];omega
     | false=>
      have hw:=aAo hL.out hlt q0 q5 q6;rw[<-hE]at hw;obtain⟨hdg,⟨nv,hnv⟩,hw2⟩:=hw;have uU:=λW=>VX (s:=s.extract p E) W hnv
      have KM:=lz uU;have HL2:=lz hw2;rw[<-hb]at hdg;have hdg:=λW=>YZ hdg W
      have Hdi:=lz hdg;rw[<-hb]at q0 q1 q2 q3 q4 q6;have hle:=λW=>JB q6 W
      have Yv:=lz hle;clear rN hL hb hsg q5 hle aGZ hE hdg hnv hw2 q6 uU;go_wp2_with (first | (go_at_call 253;refine Hsg.out.mono ?_;rintro e w' ⟨rfl,rfl⟩) | (go_at_call 254;refine(Yv.out _).mono ?_;rintro e w' ⟨rfl,rfl⟩) | (go_at_call 255;refine(Hdi.out _).mono ?_;rintro e w' ⟨rfl,rfl⟩));go_loopw [8] (λt wr'=>∃q f2:Nat,p+1<=q/\q<=s.size/\t= .int .i64 q/\Hid (dO s f2 q=E/\s.size<=q+f2)/\wr'=wr) (λt _=>s.size-(E8 t).toNat)
      case atStart=>exact⟨p+1,s.size,nL,oz,by go_num,⟨HE.out.symm,oz⟩,rfl⟩
      case round=>
       obtain⟨q,f2,MI,lS,rfl,Rg,rfl⟩:=hrel;have Y6:(¬q<s.size\/mB (fM s q)=Bj)->E=q:=λh=>by
        rw[<-Rg.out.1];rcases h with h | h
        .exact AB h
        .exact wR h
       by_cases Fz:q<s.size
       .have sy:=λW=>CH ((s[q]'Fz).toNat:Int) W
        cases Rh:mB (fM s q)with
        | true=>
         obtain⟨f3,rfl⟩:∃f3,f2=f3+1:=⟨f2-1,by have:=Rg.out.2;omega⟩;have pE:=lz (ai ((wQ Fz Rh).symm.trans Rg.out.1) (show s.size<=q+1+f3 by have:=Rg.out.2;omega));rw[jf Fz,Rh,<-jf Fz]at sy;have VT:=lz sy;clear sy Rh Y6 Rg;go_wp2_with (go_at_call 256;refine(VT.out _).mono ?_;rintro e w' ⟨rfl,rfl⟩);go_roundw
         case rel=>exact⟨q+1,f3,oz,oz,by go_num,pE,trivial⟩
         case measure=>simp[E8];omega
        | false=>
         have hEq:=Y6 (.inr Rh);rw[jf Fz,Rh,<-jf Fz]at sy;have VT:=lz sy;clear sy Rh Y6 Rg;obtain rfl:=hEq;have Ri:Below wr.heap.size wr (wr.alloc (.cells #[.int .i64 2,.string (s.extract p E),.int .i64 p] 280)):=bN;have Y7:=lz (lV HS.out.own (gL (row:=Ag) Ri) (λr e=>by cases e));have Rj:=lz (HS.out.below.trans (Ri.mono HS.out.below.size));have hpq:(p:Int)<=(E:Int):=by omega
         have Vu:(E:Int)<=(s.size:Int):=by omega
         clear Ri;go_wp2_with (first | (go_at_call 256;refine(VT.out _).mono ?_;rintro e w' ⟨rfl,rfl⟩) | (go_at_call 254;refine(Yv.out _).mono ?_;rintro e w' ⟨rfl,rfl⟩) | (go_at_call 258;refine(KM.out _).mono ?_;rintro e w' ⟨rfl,rfl⟩) | (at_builtin;refine G9 _ rfl (.tmp 110) (.tmp 112) 200 rfl w.heap.size 280 i0 (.agg #[.int .i64 0,.string ⟨#[]⟩,.int .i64 0]) 3 32 underlying200 lX hz0 hz1 hz2 rfl dz _ _ _ rfl (Y7.out.alloc _) ⟨wr.heap.size+1,0,Ag⟩ 1 1 [.int .i64 2,.string (s.extract p E),.int .i64 p] rfl rfl ?c1 ?c2 ?c3 ?c4 ?c5 ?_))
         case c1=>
          intro j u' hj;rw[bO,E9];have DH:=ah.new (wr.alloc (.cells #[.int .i64 2,.string (s.extract p E),.int .i64 p] 280)) 280 #[.int .i64 2,.string (s.extract p E),.int .i64 p];rw[show(World.heap _).size=wr.heap.size+1 by simp[GK]]at DH;exact(DH.cell j).trans (by simpa using hj)
         case c2=>intro u' kQ;simp at kQ;rcases kQ with rfl | rfl | rfl<;>rfl
         case c3=>unfold EW;omega
         case c4=>omega
         case c5=>have:=HS.out.below.size;simp[GK];omega
         intro v5 w5 dQ mE _;have jU:=(Rj.out.alloc Rj.out.size (.cells #[.int .i64 2,.string (s.extract p E),.int .i64 p] 280)).grown mE (by have:=Rj.out.size;simp[GK]at this ⊢;omega) (λg hg=>((Y7.out.alloc (.cells #[.int .i64 2,.string (s.extract p E),.int .i64 p] 280)).lt g hg).1);have HR:=lz (ai jU dQ);clear dQ mE jU;go_wp2;go_roundw
         case rel=>exact⟨E,f,_,oz,qo,rfl,HL2,HR.out.1,by simpa [Tok.cells]using HR.out.2⟩
         case measure=>simp[E8];omega
       .have hEq:=Y6 (.inl Fz)
        clear Y6 Rg;obtain rfl:=hEq;have Ri:Below wr.heap.size wr (wr.alloc (.cells #[.int .i64 2,.string (s.extract p E),.int .i64 p] 280)):=bN;have Y7:=lz (lV HS.out.own (gL (row:=Ag) Ri) (λr e=>by cases e));have Rj:=lz (HS.out.below.trans (Ri.mono HS.out.below.size));have hpq:(p:Int)<=(E:Int):=by omega
        have Vu:(E:Int)<=(s.size:Int):=by omega
        clear Ri;go_wp2_with (first | (go_at_call 254;refine(Yv.out _).mono ?_;rintro e w' ⟨rfl,rfl⟩) | (go_at_call 258;refine(KM.out _).mono ?_;rintro e w' ⟨rfl,rfl⟩) | (at_builtin;refine G9 _ rfl (.tmp 110) (.tmp 112) 200 rfl w.heap.size 280 i0 (.agg #[.int .i64 0,.string ⟨#[]⟩,.int .i64 0]) 3 32 underlying200 lX hz0 hz1 hz2 rfl dz _ _ _ rfl (Y7.out.alloc _) ⟨wr.heap.size+1,0,Ag⟩ 1 1 [.int .i64 2,.string (s.extract p E),.int .i64 p] rfl rfl ?c1 ?c2 ?c3 ?c4 ?c5 ?_))
        case c1=>
         intro j u' hj;rw[bO,E9];have DH:=ah.new (wr.alloc (.cells #[.int .i64 2,.string (s.extract p E),.int .i64 p] 280)) 280 #[.int .i64 2,.string (s.extract p E),.int .i64 p];rw[show(World.heap _).size=wr.heap.size+1 by simp[GK]]at DH;exact(DH.cell j).trans (by simpa using hj)
        case c2=>intro u' kQ;simp at kQ;rcases kQ with rfl | rfl | rfl<;>rfl
        case c3=>unfold EW;omega
        case c4=>omega
        case c5=>have:=HS.out.below.size;simp[GK];omega
        intro v5 w5 dQ mE _;have jU:=(Rj.out.alloc Rj.out.size (.cells #[.int .i64 2,.string (s.extract p E),.int .i64 p] 280)).grown mE (by have:=Rj.out.size;simp[GK]at this ⊢;omega) (λg hg=>((Y7.out.alloc (.cells #[.int .i64 2,.string (s.extract p E),.int .i64 p] 280)).lt g hg).1);have HR:=lz (ai jU dQ);clear dQ mE jU;go_wp2;go_roundw
        case rel=>exact⟨E,f,_,oz,qo,rfl,HL2,HR.out.1,by simpa [Tok.cells]using HR.out.2⟩
        case measure=>simp[E8];omega
  .have he:=aAn hL.out hlt
   subst he;have HR:=lz (ai (JZ HS.out.own) HS.out.below);go_wp2_with fail;refine GJ (results_tmp3 rfl _ _ _) rfl ?_;exact⟨Av,cv,rfl,HR.out⟩
section
variable {g:Nat} {A:Option EK} {c:Nat} {ts:List Tok} {now:Nat} {sz:Int}
abbrev PC(f:FuncId)(args:Array Bn)(w:Al)(g:Nat)(A:Option EK)(c:Nat)(ts:List Tok)(sz:Int)(p:Nat)(v:Bn):Prop:=
 ET pG f args w λe w'=>e= .returned v/\gM w' g A c ts p sz/\Gr (· =g) w w'
theorem aCr(s:ByteArray)(n:Int)(w:Al)(h:gM w g A c ts now sz)(hn:now+1<ts.length)(hl:ts.length<=100000)(hs:dB (ts[now]'(by omega)) s=BR)(hk:(ts[now+1]'hn).kind=2)(hf:VU (ts[now+1]'hn).text n=BR):
 PC 202 #[.pointer (Ai ⟨g,0,Ag⟩),.string s] w g A c ts sz (now+2) (.int .i64 n):=by
 have Hm:=lz (YX s w h oz hl hs);have HK:=lz (ai hk hf);clear h hk hf hs;go_enter func202,ntmps202;go_wp2_with fail;refine Hm.out.mono ?_;rintro e w1 ⟨⟨v,rfl⟩,PK,sK⟩;have HN:=lz (aLY n w1 PK hn hl HK.out.1 HK.out.2);have Qe:=lz sK;clear PK sK Hm HK;go_wp2_with fail;refine HN.out.mono ?_;rintro e w2 ⟨rfl,hI2,AX⟩;have HR:=lz (ai hI2 (Qe.out.trans AX));clear hI2 AX HN;go_wp2;go_ret;exact⟨rfl,HR.out⟩
end
def mK(s:ByteArray):Nat->Nat->Nat->List ByteArray->Option (List ByteArray)
 | 0,_,_,_=>Ag
 | f+1,i,k,out=>if s.size<i then Ai out else if (decide (i=s.size)||(fM s i==32))=BR then mK s f (i+1) (i+1) (out++ [s.extract k i])else mK s f (i+1) k out
structure aCs(w:Al)(out:List ByteArray)(v:Bn)(W:Al):Prop where
 below:Below w.heap.size w W
 own:W.ownsRow w.heap.size 9 1 v out.length (out.map GI)
theorem aCt(s:ByteArray)(l:List ByteArray)(F:Nat)(w:Al)(hs:s.size<=1000)(h:mK s F 0 0 []=Ai l):
 ET pG 311 #[.string s] w λe w'=>∃A c,e= .returned (.slice A l.length c)/\iB w' w'.heap.size A l/\Below w.heap.size w w':=by
 have H:=lz h;obtain⟨i0,lX,hz0,hz1,hz2⟩:=info_parts aDM;clear h;go_enter func311,ntmps311;go_wp2;go_loopw [3,4,5] (λv u t wr=>∃(i k f:Nat) (out:List ByteArray),i<=s.size+1/\k<=i/\out.length<=i/\u= .int .i64 k/\t= .int .i64 i/\Hid (mK s f i k out=Ai l)/\aCs w out v wr) (λ_ _ t _=>s.size+1-(E8 t).toNat)
 case atStart=>exact⟨0,0,F,[],nZ,nZ,nZ,rfl,rfl,H,Below.refl _ _,World.ownsRow_nil _ _ _ _⟩
 case round=>
  obtain⟨i,k,f,out,hi,hki,hoi,rfl,rfl,hL,hS⟩:=hrel;clear H;obtain⟨f,rfl⟩:∃f',f=f'+1:=by
   cases f with
   | zero=>have:=hL.out;simp[mK]at this
   | succ f=>exact⟨f,rfl⟩
  obtain⟨Av,cv,rfl,_⟩:=bp hS.own;have HS:=lz hS;clear hS;have Y8:=hL.out;unfold mK at Y8;by_cases og:s.size<i
  .rw[if_pos og]at Y8
   injection Y8 with Y8
   subst Y8;have hd:decide ((i:Int)<=(s.size:Int))=false:=by simp;omega
   have HR:=lz (ai (qW HS.out.own) HS.out.below);clear hL HS;go_wp2;go_ret;exact⟨_,_,rfl,HR.out⟩
  .rw[if_neg og]at Y8
   have hd:decide ((i:Int)<=(s.size:Int))=true:=by simp;omega
   have piece:(decide (i=s.size)||(fM s i==32))=BR->Hid (mK s f (i+1) (i+1) (out++ [s.extract k i])=Ai l):=λe=>by rw[if_pos e]at Y8;exact lz Y8
   have next:(decide (i=s.size)||(fM s i==32))=Bj->Hid (mK s f (i+1) k out=Ai l):=λe=>by rw[if_neg (by rw[e];simp)]at Y8;exact lz Y8
   have ik1:(k:Int)<=(i:Int):=by omega
   have ik2:(i:Int)<=s.size:=by omega
   clear hL Y8
   cases q:(decide (i=s.size)||(fM s i==32))with
   | true=>
    have Hn:=piece q;clear piece next
    by_cases he:i=s.size
    .have e1:((i:Int)==(s.size:Int))=true:=by simp[he]
     clear q he;go_wp2_with (at_builtin;refine G9 _ rfl (.tmp 22) (.tmp 27) 81 rfl w.heap.size 9 i0 (.string ⟨#[]⟩) 1 16 underlying81 lX hz0 hz1 hz2 rfl dz _ _ _ rfl (HS.out.own.alloc _) ⟨wr.heap.size,0,Ag⟩ 1 1 [.string (s.extract k i)] rfl rfl ?c1 ?c2 ?c3 ?c4 ?c5 ?_)
     case c1=>
      intro j u' hj;rw[bO,E9,(ah.new wr 9 #[.string (s.extract k i)]).cell j];simpa using hj
     case c2=>intro u' kQ;simp at kQ;subst kQ;rfl
     case c3=>unfold EW;omega
     case c4=>omega
     case c5=>have:=HS.out.below.size;simp;omega
     intro v5 w5 dQ mE _;have jU:=(HS.out.below.alloc HS.out.below.size (.cells #[.string (s.extract k i)] 9)).grown mE (by have:=HS.out.below.size;simp;omega) (λg hg=>((HS.out.own.alloc (.cells #[.string (s.extract k i)] 9)).lt g hg).1);have HR:=lz (ai jU dQ);clear dQ mE jU;go_wp2;go_roundw
     case rel=>exact⟨i+1,i+1,f,_,oz,oz,qo,by go_num,by go_num,Hn,HR.out.1,by simpa using HR.out.2⟩
     case measure=>simp[E8];omega
    .have e1:((i:Int)==(s.size:Int))=false:=by simp;omega
     have hlt:i<s.size:=by omega
     have e2:(((s[i]'hlt).toNat:Int)==32)=true:=by rw[jf hlt];simpa [he]using q
     have ik3:(i:Int)<s.size:=by omega
     clear q;go_wp2_with (at_builtin;refine G9 _ rfl (.tmp 22) (.tmp 27) 81 rfl w.heap.size 9 i0 (.string ⟨#[]⟩) 1 16 underlying81 lX hz0 hz1 hz2 rfl dz _ _ _ rfl (HS.out.own.alloc _) ⟨wr.heap.size,0,Ag⟩ 1 1 [.string (s.extract k i)] rfl rfl ?c1 ?c2 ?c3 ?c4 ?c5 ?_)
     case c1=>
      intro j u' hj;rw[bO,E9,(ah.new wr 9 #[.string (s.extract k i)]).cell j];simpa using hj
     case c2=>intro u' kQ;simp at kQ;subst kQ;rfl
     case c3=>unfold EW;omega
     case c4=>omega
     case c5=>have:=HS.out.below.size;simp;omega
     intro v5 w5 dQ mE _;have jU:=(HS.out.below.alloc HS.out.below.size (.cells #[.string (s.extract k i)] 9)).grown mE (by have:=HS.out.below.size;simp;omega) (λg hg=>((HS.out.own.alloc (.cells #[.string (s.extract k i)] 9)).lt g hg).1);have HR:=lz (ai jU dQ);clear dQ mE jU;go_wp2;go_roundw
     case rel=>exact⟨i+1,i+1,f,_,oz,oz,qo,by go_num,by go_num,Hn,HR.out.1,by simpa using HR.out.2⟩
     case measure=>simp[E8];omega
   | false=>
    have Hn:=next q
    clear piece next
    have he:¬i=s.size:=λe=>by simp[e]at q
    have e1:((i:Int)==(s.size:Int))=false:=by simp;omega
    have hlt:i<s.size:=by omega
    have e2:(((s[i]'hlt).toNat:Int)==32)=false:=by rw[jf hlt];simpa [he]using q
    have ik3:(i:Int)<s.size:=by omega
    clear q;go_wp2;go_roundw
    case rel=>exact⟨i+1,k,f,out,oz,oz,oz,rfl,by go_num,Hn,HS.out⟩
    case measure=>simp[E8];omega
theorem aGb(s:ByteArray)(l:List ByteArray)(F k:Nat)(w:Al)(hs:s.size<=1000)(h:mK s F 0 0 []=Ai l)(hk:k<l.length)(hf:∀j (hj:j<k),l[j]≠l[k])(hl:k<100):
 CU 296 #[.string s,.string l[k]] w (.int .u8 ((k+1:Nat):Int)):=by
 have Fv:=aCt s l F w hs h;have Hsp:=lz Fv;have Hf:=lz hf;generalize hw:l[k]=word at *;have Hw:=lz hw;clear Fv h hf hw;go_enter func296,ntmps296;go_wp2_with fail;refine Hsp.out.mono ?_;rintro e w1 ⟨A,c,rfl,fK,hb⟩;have HRd:=lz fK;have HB:=lz hb;clear fK hb Hsp;go_wp2;go_loopw [6] (λt wr=>∃i:Nat,i<=k/\t= .int .i64 i/\wr=w1) (λt _=>l.length-(E8 t).toNat)
 case atStart=>exact⟨0,oz,rfl,rfl⟩
 case round=>
  obtain⟨i,hi,rfl,rfl⟩:=hrel;have YO:i<l.length:=by omega
  obtain⟨b,o,rfl,Ef,hc⟩:=HRd.out.at_ YO;have hd:decide ((i:Int)<(l.length:Int))=true:=by simp;omega
  by_cases he:i=k
  .subst he
   have hcv:(i:Int)+1<256:=by omega
   rw[Hw.out]at hc;clear Hf Hw HRd;have HBo:=HB.out;go_wp2;go_ret;exact⟨by congr 2,HBo⟩
  .have hne:=Hf.out i oz
   generalize l[i]=y at *;have hq:=VP hne;clear Hf Hw HRd hne;go_wp2;go_roundw
   case rel=>exact⟨i+1,oz,by go_num,trivial⟩
   case measure=>simp[E8];omega
section
variable {g:Nat} {A:Option EK} {c:Nat} {ts:List Tok} {now:Nat} {sz:Int}
theorem Y9(s:ByteArray)(l:List ByteArray)(F k:Nat)(w:Al)(h:gM w g A c ts now sz)(hn:now<ts.length)(hlt:ts.length<=100000)(Cq:(ts[now]'hn).kind=1)
 (hs:s.size<=1000) (Fv:mK s F 0 0 []=Ai l) (hk:k<l.length) (hf:∀j (hj:j<k),l[j]≠l[k]) (hl:k<100) (ht:(ts[now]'hn).text=l[k]):
 PC 262 #[.pointer (Ai ⟨g,0,Ag⟩),.string s] w g A c ts sz (now+1) (.int .u8 ((k+1:Nat):Int)):=by
 have hh:=λW (hW:gM W g A c ts now sz)=>ED W hW hn hlt
 have hfi:=λW=>aGb s l F k W hs Fv hk hf hl
 rw[<-ht]at hfi;generalize ts[now]=t at *;obtain⟨k0,x,y⟩:=t;obtain rfl:k0=1:=Cq;dsimp only[Tok.val]at hh hfi;have Hh:=lz hh;have Hfi:=lz hfi;have H:=lz h;have hd0:∀W,(Instr.field 280 (.agg #[.int .i64 1,.string x,.int .i64 y]) 0).run pG W= .ok (.int .i64 1) W:=λ_=>by kernel_rfl
 have TD:∀W,(Instr.field 280 (.agg #[.int .i64 1,.string x,.int .i64 y]) 1).run pG W= .ok (.string x) W:=λ_=>by kernel_rfl
 have hne:(((k+1:Nat):Int)==0)=false:=by simp;omega
 generalize hv:((k+1:Nat):Int)=v at *;clear hh hfi h hf ht Fv hv hk hl hs;go_enter func262,ntmps262;go_wp2_with fail;refine(Hh.out _ H.out).mono ?_;rintro e w1 ⟨rfl,aU⟩;have H1:=lz (H.out.below aU);have cU:=lz aU;clear aU;go_wp2_with fail;refine(Hh.out _ H1.out).mono ?_;rintro e w2 ⟨rfl,dI⟩;have H2:=lz (H1.out.below dI);have eF:=lz (cU.out.trans (dI.mono cU.out.size));clear dI H1 cU;go_wp2_with fail;refine(Hfi.out _).mono ?_;rintro e w3 ⟨rfl,kq⟩;have H3:=lz (H2.out.below kq);have mP:=lz (eF.out.trans (kq.mono eF.out.size));have k1:=H3.out.blk.cell 1;have f1:=H3.out.blk.frozen 1;have HR:=lz (ai H3.out.step (Da (g:=g) mP.out (.int .i64 ((now+1:Nat):Int))));clear kq H2 eF H3 mP;go_wp2;go_ret;exact⟨rfl,HR.out⟩
end


theorem aFg:(pG.info? 83).map (λi=>(i.zero,i.size,i.bytes))=Ai (Ai (.agg #[.string ⟨#[]⟩,.slice Ag 0 0,.slice Ag 0 0]),3,64):=by kernel_rfl
def fC.cells(x:fC):List Value:= [.string x.c.unit,.slice x.n.a x.n.n x.n.c,.slice x.x.a x.x.n x.x.c]
theorem vV:∀(l:List fC) (i:Nat) (h:i<l.length),(l.flatMap fC.cells)[i*3]?=Ai (.string l[i].c.unit)/\(l.flatMap fC.cells)[i*3+1]?=Ai l[i].n.val/\(l.flatMap fC.cells)[i*3+2]?=Ai l[i].x.val
 | r :: l,0,_=>⟨rfl,rfl,rfl⟩
 | r :: l,i+1,h=>by
  have ih:=vV l i (by simpa using h);have e:∀j,(List.flatMap fC.cells (r :: l))[j+3]?=(List.flatMap fC.cells l)[j]?:=λj=>by simp[fC.cells]
  rw[show(i+1)*3=i*3+3 from by omega,show i*3+3+1=i*3+1+3 from by omega,show i*3+3+2=i*3+2+3 from by omega,e,e,e];simpa using ih
structure EG(W:Al)(B:Nat)(x:fC):Prop where
 nl:x.n.n=x.c.needs.length
 nc:x.n.n<=x.n.c
 nm:x.n.c<=EW
 n:W.ownsRow B 85 2 (.slice x.n.a x.n.n x.n.c) x.c.needs.length (x.c.needs.flatMap jI.cells)
 xl:x.x.n=x.c.excl.length
 xc:x.x.n<=x.x.c
 xm:x.x.c<=EW
 x:W.ownsRow B 9 1 (.slice x.x.a x.x.n x.x.c) x.c.excl.length (x.c.excl.map GI)
theorem EG.rd{W:Al}{B:Nat}{x:fC}(h:EG W B x):x.rd W W.heap.size:=by
 obtain⟨h1,h2,h3,h4,h5,h6,h7,h8⟩:=h;rw[h1]at h4;rw[h5]at h8;exact⟨h1,h2,h3,JY h4,h5,h6,h7,qW h8⟩
structure BI(w:Al)(B:Nat)(L:List fC)(v:Bn)(W:Al):Prop where
 below:Below B w W
 size:B<=W.heap.size
 own:W.ownsRow B 83 3 v L.length (L.flatMap fC.cells)
 subs:∀x∈L,EG W B x
theorem EG.kept{W W':Al}{B:Nat}{x:fC}{row:Option Nat}(h:EG W B x)(hg:W.grownBy W' row)(hr:∀r,row=Ai r->∃cur t,W.heap[r]?=Ai (.cells cur t (0,0))/\t≠85/\t≠9):EG W' B x:=by
 have key:∀{e s n:Nat} {v:Bn} {xs:List Bn},W.ownsRow B e s v n xs->(e=85\/e=9)->W'.ownsRow B e s v n xs:=fun{e s n v xs} ho he=>ho.kept hg (by
  cases row with
  | none=>
   rcases ho.2 with⟨rfl,_⟩ | ⟨g,cap,cur,rfl,_⟩
   .exact .inl rfl
   .exact .inr (λe=>by simp[Jk]at e)
  | some r=>
   obtain⟨cur,t,hh,h46,h9⟩:=hr r rfl;exact .inr (aW ho (show ah W r t cur from hh) (by rcases he with rfl | rfl<;>(first | exact Ne.symm h46 | exact Ne.symm h9))))
 exact⟨h.nl,h.nc,h.nm,key h.n (.inl rfl),h.xl,h.xc,h.xm,key h.x (.inr rfl)⟩
theorem BI.next{w W W':Al}{B:Nat}{L:List fC}{v:Bn}(h:BI w B L v W)(hb:Below W.heap.size W W'):BI w B L v W':=
 ⟨h.below.trans (hb.mono h.size),nT h.size hb.size,lV h.own (gL (row:=Ag) hb) (λr e=>by cases e),λx hx=>(h.subs x hx).kept (gL (row:=Ag) hb) (λr e=>by cases e)⟩
theorem BI.rd{w W:Al}{B:Nat}{L:List fC}{A:Option EK}{c:Nat}(h:BI w B L (.slice A L.length c) W):kr W W.heap.size A L:=λhn=>by
 obtain⟨g,cap,hv,_,hlt⟩:=h.own.form hn;have hA:A=Ai ⟨g,0,Ag⟩:=by injection hv
 subst hA;refine⟨g,0,rfl,hlt,λi hi=> ?_⟩;obtain⟨q0,q1,q2⟩:=vV L i hi;have c0:=h.own.cells (g:=g) rfl _ _ q0;have c1:=h.own.cells (g:=g) rfl _ _ q1;have c2:=h.own.cells (g:=g) rfl _ _ q2;rw[eY]at c0 c1 c2;exact⟨by simpa using c0,by simpa using c1,by simpa using c2,(h.subs _ (List.getElem_mem hi)).rd⟩
theorem BI.step{w Wc wo:Al}{B:Nat}{L:List fC}{v v':Bn}{x:fC}{o:Obj}(h:BI w B L v Wc)(hx:EG Wc B x)(hown:wo.ownsRow B 83 3 v' (L.length+1) (L.flatMap fC.cells++x.cells))(eG:(Wc.alloc o).grownBy wo v.ownBlock):BI w B (L++ [x]) v' wo:=by
 have h1:=h.next (W':=Wc.alloc o) (bN)
 have Dg:=hx.kept (World.grownBy_alloc Wc o Ag) (λr e=>by cases e);have hr:∀r,v.ownBlock=Ai r->∃cur t,(Wc.alloc o).heap[r]?=Ai (.cells cur t (0,0))/\t≠85/\t≠9:=λr e=>by
  rcases h1.own.2 with⟨rfl,_⟩ | ⟨g,cap,cur,rfl,_,hh,_⟩
  .cases e
  .simp[Jk]at e
   subst e;exact⟨cur,83,hh,dz,dz⟩
 refine⟨h1.below.grown eG h1.size (λg hg=>(h1.own.lt g hg).1),nT h1.size eG.size,by simpa using hown,λy hy=> ?_⟩;rcases List.mem_append.1 hy with hy | hy
 .exact(h1.subs y hy).kept eG hr
 .simp at hy;subst hy;exact Dg.kept eG hr
def gZ(ts:List Tok)(i:Nat)(P:Tok->Bool):Bool:=match ts[i]? with | some t=>P t | none=>Bj
theorem gG{ts:List Tok}{i:Nat}{P:Tok->Bool}(h:gZ ts i P=BR):∃hi:i<ts.length,P ts[i]=true:=by
 unfold gZ at h;split at h
 .rename_i t ht
  obtain⟨hi,rfl⟩:=List.getElem?_eq_some_iff.1 ht;exact⟨hi,h⟩
 .cases h
theorem Gr.far{X:Nat->Prop}{w W:Al}(h:Gr X w W){p:EK}(hp:w.heap.size<=p.block)(u:Bn):Gr X w (W.setCell p u):=
 ⟨h.os,h.tape,h.output,by simpa [GK]using h.size,λk hk hn=>(Below.heap_setCell W p u k oz).trans (h.block k hk hn)⟩
theorem Gr.trans'{X Y:Nat->Prop}{w W W':Al}(h:Gr X w W)(k:Gr Y W W')(hY:∀j,j<w.heap.size->Y j->X j):Gr X w W':=
 ⟨k.os.trans h.os,k.tape.trans h.tape,k.output.trans h.output,nT h.size k.size,λi hi hn=>(k.block i (EU hi h.size) (λe=>hn (hY i hi e))).trans (h.block i hi hn)⟩
theorem cO{X:Nat->Prop}{W W':Al}{b e s n:Nat}{v:Bn}{xs:List Bn}(h:W.ownsRow b e s v n xs)(hg:Gr X W W')(hX:∀k,v.ownBlock=Ai k->¬X k):W'.ownsRow b e s v n xs:=by
 refine⟨h.1,?_⟩;rcases h.2 with h2 | ⟨g,cap,cur,h1,h2,h3,h4⟩
 .exact .inl h2
 .refine .inr ⟨g,cap,cur,h1,h2,?_,h4⟩
  refine(hg.block g (gE h3).1 (hX g ?_)).trans h3;rw[h1];rfl
theorem Db{W:Al}{b e s n e' s' n':Nat}{v v':Bn}{xs xs':List Bn}(h:W.ownsRow b e s v n xs)(h':W.ownsRow b e' s' v' n' xs')(hne:e≠e'):∀k,v.ownBlock=Ai k->v'.ownBlock≠Ai k:=λk hk WH=>by
 rcases h'.2 with⟨rfl,_⟩ | ⟨g,cap,cur,h1,h2,h3,h4⟩
 .cases WH
 .have:k=g:=by rw[h1]at WH;simpa [Jk]using WH.symm
  subst this;exact aW h (show ah W k e' cur from h3) hne hk
structure JC(w:Al)(g Bc:Nat)(A:Option EK)(c:Nat)(ts:List Tok)(sz:Int)(u:ByteArray)(nd:List jI)(vn:Bn)(ex:List ByteArray)(vx:Bn)(now:Nat)(W:Al):Prop where
 eX:gM W g A c ts now sz
 gr:Gr (· =g) w W
 hg:g<w.heap.size
 res:ah W w.heap.size 83 #[.string ⟨#[]⟩,.slice Ag 0 0,.slice Ag 0 0]
 blk:ah W Bc 83 #[.string u,vn,vx]
 Pp:w.heap.size<Bc
 nd:W.ownsRow w.heap.size 85 2 vn nd.length (nd.flatMap jI.cells)
 ex:W.ownsRow w.heap.size 9 1 vx ex.length (ex.map GI)
section
variable {w W W':Al} {g Bc:Nat} {A:Option EK} {c:Nat} {ts:List Tok} {sz:Int} {u:ByteArray} {nd:List jI} {vn:Bn} {ex:List ByteArray} {vx:Bn} {now now':Nat}
theorem JC.next(h:JC w g Bc A c ts sz u nd vn ex vx now W)(hI:gM W' g A c ts now' sz)(hG:Gr (· =g) W W'):JC w g Bc A c ts sz u nd vn ex vx now' W':=
 ⟨hI,h.gr.trans hG,h.hg,hG.blk h.res (by have:=h.hg;omega),hG.blk h.blk (by have:=h.hg;have:=h.Pp;omega),h.Pp,
  cO h.nd hG (λk hk e=>by have:=(h.nd.lt k hk).1;have:=h.hg;omega),cO h.ex hG (λk hk e=>by have:=(h.ex.lt k hk).1;have:=h.hg;omega)⟩
theorem JC.below(h:JC w g Bc A c ts sz u nd vn ex vx now W)(hb:Below W.heap.size W W'):JC w g Bc A c ts sz u nd vn ex vx now W':=h.next (h.eX.below hb) (Gr.ak hb)
theorem gM.far(h:gM W g A c ts now sz){p:EK}(hp:g<p.block)(v:Bn):gM (W.setCell p v) g A c ts now sz:=
 ⟨h.blk.far oz v,h.toks.dn nL λb o hlt=>GV (Below.heap_setCell W p v b qo)⟩
end
def jZ(g:Nat)(w:Al):Nat:=match w.cell? ⟨g,1,Ag⟩with | some (.int _ n)=>n.toNat | _=>0
theorem gM.jZ{w:Al}{g:Nat}{A:Option EK}{c:Nat}{ts:List Tok}{now:Nat}{sz:Int}(h:gM w g A c ts now sz):jZ g w=now:=by
 have:w.cell? ⟨g,1,Ag⟩=Ai (.int .i64 now):=h.blk.cell 1;unfold YtmdgooofdmpcjaaGreatDoor.jZ;rw[this];simp
def vW(w:Al)(f:Nat)(lb:Array Bn)(b:Int)(r:Bool):Prop:=
 ∀W,Below w.heap.size w W->ET pG f (#[.int .u8 b]++lb) W λe w'=>e= .returned (.bool r)/\w'=W
theorem vW.next{w w':Al}{f:Nat}{lb:Array Bn}{b:Int}{r:Bool}(h:vW w f lb b r)(hb:Below w.heap.size w w'):vW w' f lb b r:=
 λW hW=>h W (hb.trans (hW.mono hb.size))
theorem U9(lo hi:Int)(w:Al):ET pG 313 #[.int .u8 lo,.int .u8 hi] w λe w'=>e= .returned (.func (.func 328) #[] #[.pointer (Ai ⟨w.heap.size,0,Ag⟩),.pointer (Ai ⟨w.heap.size+1,0,Ag⟩)])/\w'=(w.alloc (.cells #[.int .u8 lo] 5)).alloc (.cells #[.int .u8 hi] 5):=by
 go_enter func313,ntmps313;go_wp2;go_ret;exact⟨qz,rfl⟩
theorem rO(s:ByteArray)(w:Al):ET pG 314 #[.string s] w λe w'=>e= .returned (.func (.func 329) #[] #[.pointer (Ai ⟨w.heap.size,0,Ag⟩)])/\w'=w.alloc (.cells #[.string s] 9):=by
 go_enter func314,ntmps314;go_wp2;go_ret;exact⟨rfl,rfl⟩
theorem EH(A:Option EK)(n c:Nat)(w:Al):ET pG 312 #[.slice A n c] w λe w'=>e= .returned (.func (.func 327) #[] #[.pointer (Ai ⟨w.heap.size,0,Ag⟩)])/\w'=w.alloc (.cells #[.slice A n c] 347):=by
 go_enter func312,ntmps312;go_wp2;go_ret;exact⟨rfl,rfl⟩
theorem Za(s:ByteArray)(c:Int)(W:Al):(EZ 352 #[.string s,.int .u8 c]).run pG W= .ok (.value (.int .i64 (firstIdx s c.toNat.toUInt8))) W:=by
 rw[run_callFunc_extern func352 kz kz kz (e:=Extern.BytealgIndexByte.indexByte) kz,run_indexByte_string];rfl
theorem Zb(s:ByteArray)(c:Int)(w:Al):ET pG 340 #[.string s,.int .u8 c] w λe w'=>e= .returned (.int .i64 (firstIdx s c.toNat.toUInt8))/\w=w':=by
 have h:=λW=>Za s c W
 generalize firstIdx s c.toNat.toUInt8=q at *;go_enter func340,ntmps340;go_wp2;go_ret;exact⟨rfl,rfl⟩
theorem Zc(s:ByteArray)(c:Int)(w:Al):ET pG 330 #[.string s,.int .u8 c] w λe w'=>e= .returned (.int .i64 (firstIdx s c.toNat.toUInt8))/\w=w':=by
 have h:=Zb s c w;generalize firstIdx s c.toNat.toUInt8=q at *;go_enter func330,ntmps330;go_wp2_with (go_at_call 340;refine h.mono ?_;rintro e w' ⟨rfl,rfl⟩);go_ret;exact⟨rfl,rfl⟩
theorem Zd{s:ByteArray}{b:Int}{r:Bool}{B:Nat}{w:Al}(h:ah w B 9 #[.string s])(hr:decide (firstIdx s b.toNat.toUInt8>=0)=r):
 vW w 329 #[.pointer (Ai ⟨B,0,Ag⟩)] b r:=by
 intro W hW;have c1:=(h.below hW h.lt).cell 0;have hI:=Zc s b W;subst hr;generalize firstIdx s b.toNat.toUInt8=q at *;clear h hW;go_enter func329,ntmps329;go_wp2_with (go_at_call 330;refine hI.mono ?_;rintro e w' ⟨rfl,rfl⟩);go_ret;exact⟨rfl,rfl⟩
def gK(w:Al)(g:Nat)(s:ByteArray)(k:Nat)(v0 v1 v2 v3:Bn):Prop:=ah w g 323 #[.string s,.int .i64 k,v0,v1,v2,v3]
section
variable {g:Nat} {s:ByteArray} {k:Nat} {v0 v1 v2 v3:Bn}
theorem Ow(v:Bn)(w:Al)(h:gK w g s k v0 v1 v2 v3)(hk:s.size<=k):ET pG 332 #[.pointer (Ai ⟨g,0,Ag⟩),v] w λe w'=>e= .returned (.bool Bj)/\∃m,w'=w.drewN m:=by
 have c0:w.cell? ⟨g,0,Ag⟩=Ai (.string s):=ah.cell h 0;have c1:w.cell? ⟨g,1,Ag⟩=Ai (.int .i64 k):=ah.cell h 1;have hd:decide ((k:Int)<(s.size:Int))=false:=by rw[decide_eq_false_iff_not];omega
 generalize (k:Int)=K at *;clear h hk;go_enter func332,ntmps332;go_wp2_with fail;go_quiet (fail);go_wp2;go_ret;exact⟨rfl,_,rfl⟩
theorem kU(f:Nat)(lb:Array Bn)(b:Int)(r:Bool)(w:Al)(h:gK w g s k v0 v1 v2 v3)(hk:k<s.size)(hb:fM s k=b)(eg:∀args w,(EZ f args).run pG w= .ok (.enter f args) w)(ht:vW w f lb b r):
 ET pG 332 #[.pointer (Ai ⟨g,0,Ag⟩),.func (.func f) #[] lb] w λe w'=>e= .returned (.bool r)/\∃m,w'=w.drewN m:=by
 have c0:w.cell? ⟨g,0,Ag⟩=Ai (.string s):=ah.cell h 0;have c1:w.cell? ⟨g,1,Ag⟩=Ai (.int .i64 k):=ah.cell h 1;have ht:=λn=>ht (w.drewN n) (aD (Below.refl _ _))
 rw[<-hb,<-jf hk]at ht;clear h hb;go_enter func332,ntmps332;go_wp2_with fail;go_quiet ((go_at_fn f;exact Calls.quiet_of_same (ht _)));go_wp2;go_ret;exact⟨rfl,_,rfl⟩
end
theorem eU(w:Al)(s:Nat)(t:TypeId)(cs:Array Bn)(h:w.heap.size=s):ah (w.alloc (.cells cs t)) s t cs:=by subst h;exact ah.new w t cs
theorem j9(W:Al)(l:Nat)(o:Obj):Gr (· =l) W (W.putObj l o):=⟨rfl,rfl,rfl,qz,λk hk hn=>World.putObj_heap_other hn⟩
theorem gK.below{w w':Al}{g:Nat}{s:ByteArray}{k:Nat}{v0 v1 v2 v3:Bn}(h:gK w g s k v0 v1 v2 v3)(hb:Below w.heap.size w w'):gK w' g s k v0 v1 v2 v3:=ah.below h hb (ah.lt h)
theorem JD{w:Al}{g:Nat}{s:ByteArray}{k:Nat}{v0 v1 v2 v3:Bn}(h:gK w g s k v0 v1 v2 v3):jZ g w=k:=by
 have:w.cell? ⟨g,1,Ag⟩=Ai (.int .i64 k):=ah.cell h 1;unfold jZ;rw[this];simp
def fO(g:Nat)(w:Al)(f:Nat)(lb:Array Bn)(P:Int->Bool):Prop:=∀W,Gr (· =g) w W->∀b:Int,vW W f lb b (P b)
theorem fO.next{g:Nat}{w w':Al}{f:Nat}{lb:Array Bn}{P:Int->Bool}(h:fO g w f lb P)(hg:Gr (· =g) w w'):fO g w' f lb P:=λW hW=>h W (hg.trans hW)
theorem fO.at_{g:Nat}{w:Al}{f:Nat}{lb:Array Bn}{P:Int->Bool}(h:fO g w f lb P)(b:Int):vW w f lb b (P b):=h w (Gr.refl _ _) b
def Rk(lo hi b:Int):Bool:=decide (b>=lo)&&decide (b<=hi)
theorem Af{g:Nat}{lo hi:Int}{B1 B2:Nat}{w:Al}(h1:ah w B1 5 #[.int .u8 lo])(h2:ah w B2 5 #[.int .u8 hi])(n1:B1≠g)(n2:B2≠g):fO g w 328 #[.pointer (Ai ⟨B1,0,Ag⟩),.pointer (Ai ⟨B2,0,Ag⟩)] (Rk lo hi):=by
 intro W1 hW1 b W hW;have g1:=hW1.blk h1 n1;have g2:=hW1.blk h2 n2;have c1:=(g1.below hW g1.lt).cell 0;have c2:=(g2.below hW g2.lt).cell 0;unfold Rk;clear h1 h2 hW hW1 g1 g2
 cases VY:decide (b>=lo)with
 | true=>
  cases hhi:decide (b<=hi)with
  | true=>
   go_enter func328,ntmps328;go_wp2;go_ret;exact⟨rfl,rfl⟩
  | false=>
   go_enter func328,ntmps328;go_wp2;go_ret;exact⟨rfl,rfl⟩
 | false=>
  go_enter func328,ntmps328;go_wp2;go_ret;exact⟨rfl,rfl⟩
def pR(s:ByteArray)(b:Int):Bool:=decide (firstIdx s b.toNat.toUInt8>=0)
theorem yH{g:Nat}{s:ByteArray}{B:Nat}{w:Al}(h:ah w B 9 #[.string s])(n:B≠g):fO g w 329 #[.pointer (Ai ⟨B,0,Ag⟩)] (pR s):=
 λW1 hW1 b=>Zd (hW1.blk h n) rfl
def aGc(g:Nat)(w:Al)(br:Nat)(fs:List (Nat×Array Bn×(Int->Bool))):Prop:=
 ∀i (h:i<fs.length),w.cell? ⟨br,i,Ag⟩=Ai (.func (.func fs[i].1) #[] fs[i].2.1)/\(∀args w,(EZ fs[i].1 args).run pG w= .ok (.enter fs[i].1 args) w)/\fO g w fs[i].1 fs[i].2.1 fs[i].2.2
def aCu(fs:List (Nat×Array Bn×(Int->Bool)))(b:Int):Bool:=fs.any λx=>x.2.2 b
theorem Va{α:Type}(p:α->Bool)(l:List α){k:Nat}(hk:k<l.length):(l.take (k+1)).any p=((l.take k).any p||p l[k]):=by
 rw[List.take_succ_eq_append_getElem hk,List.any_append];simp
theorem EI{g:Nat}{B br c:Nat}{w:Al}(fs:List (Nat×Array Bn×(Int->Bool)))(h:ah w B 347 #[.slice (Ai ⟨br,0,Ag⟩) fs.length c])(n:B≠g)(nr:br≠g)(I8:br<w.heap.size)(hT:aGc g w br fs)(hl:fs.length<=1000):
 fO g w 327 #[.pointer (Ai ⟨B,0,Ag⟩)] (aCu fs):=by
 intro W1 hW1 b W hW;have g1:=hW1.blk h n;have c1:=(g1.below hW g1.lt).cell 0;have hcell:∀i (hi:i<fs.length),W.cell? ⟨br,i,Ag⟩=Ai (.func (.func fs[i].1) #[] fs[i].2.1):=λi hi=>
  (hW.cell (p:=⟨br,i,Ag⟩) (EU I8 hW1.size)).trans (hW1.cell (hT i hi).1 nr)
 have hen:=λi hi=>(hT i hi).2.1
 have aLb:=λi hi=>(hT i hi).2.2 W1 hW1 b W hW
 have gW:=lz hcell;have Hen:=lz hen;have aP9:=lz aLb;clear h hW hT hW1 g1 hcell hen aLb;go_enter func327,ntmps327;go_wp2;go_loopw [8] (λt wr=>∃k:Nat,k<=fs.length/\t= .int .i64 k/\wr=W/\Hid (((fs.take k).any λx=>x.2.2 b)=Bj)) (λt _=>fs.length-(E8 t).toNat)
 case atStart=>exact⟨0,nZ,rfl,rfl,rfl⟩
 case round=>
  obtain⟨k,hk,rfl,hwr,jT⟩:=hrel;have hwr:=hwr.symm;subst hwr;by_cases hlt:k<fs.length
  .have d:=gW.out k hlt
   have e:=Hen.out k hlt;have t:=aP9.out k hlt;have pE:=Va (λx:Nat×Array Bn×(Int->Bool)=>x.2.2 b) fs hlt;rw[jT.out,Bool.false_or]at pE;have iw:fs[k].2.2 b=BR->aCu fs b=true:=λh=>by
    unfold aCu;rw[List.any_eq_true];exact⟨_,List.getElem_mem hlt,h⟩
   have lg:=lz pE;have fS:=lz iw;have lX:(0:Int)<=(k:Int):=by omega
   have Wq:(k:Int)<(fs.length:Int):=by omega
   clear pE iw jT;obtain⟨⟨f,lb,P⟩,hx⟩:∃x,x=fs[k]:=⟨_,rfl⟩;rw[<-hx]at d e t lg fS;simp only at d e t lg fS
   cases hp:P b with
   | true=>
    have hr:=lz (fS.out hp);rw[hp]at t;have Ht:=lz t;clear fS lg hp t hx;go_wp2_with (go_at_fn f;refine Ht.out.mono ?_;rintro e w' ⟨rfl,rfl⟩);go_ret;exact⟨by rw[hr.out];rfl,rfl⟩
   | false=>
    have hr:=lz (lg.out.trans hp);rw[hp]at t;have Ht:=lz t;clear fS lg hp t hx;go_wp2_with (go_at_fn f;refine Ht.out.mono ?_;rintro e w' ⟨rfl,rfl⟩);go_roundw
    case rel=>exact⟨k+1,oz,by go_num,by first | rfl | trivial,hr⟩
    case measure=>simp[E8];omega
  .obtain rfl:k=fs.length:=by omega
   have hr:=jT.out;rw[List.take_length]at hr;have Hr:=lz (show aCu fs b=Bj from hr);clear jT hr;go_wp2;go_ret;exact⟨by rw[Hr.out];rfl,rfl⟩
def fB(P:Int->Bool)(s:ByteArray):Nat->Nat->Nat
 | 0,k=>k
 | f+1,k=>if k<s.size/\P (fM s k)=BR then fB P s f (k+1)else k
theorem gK.gr{w w':Al}{X:Nat->Prop}{g:Nat}{s:ByteArray}{k:Nat}{v0 v1 v2 v3:Bn}(h:gK w g s k v0 v1 v2 v3)(hg:Gr X w w')(hx:¬X g):gK w' g s k v0 v1 v2 v3:=Gr.blk hg h hx
theorem gK.step{w:Al}{g:Nat}{s:ByteArray}{k:Nat}{v0 v1 v2 v3:Bn}(h:gK w g s k v0 v1 v2 v3)(m:Nat):gK (w.setCell ⟨g,1,Ag⟩ (.int .i64 m)) g s m v0 v1 v2 v3:=by
 have:=ah.bX h 1 (.int .i64 m);simpa [gK]using this
section
variable {g:Nat} {s:ByteArray} {v0 v1 v2 v3:Bn}
theorem Dc(P:Int->Bool)(f:Nat)(lb:Array Bn)(k F:Nat)(w:Al)(h:gK w g s k v0 v1 v2 v3)(hF:s.size<=k+F)(hsz:s.size<=1000000)(hk:k<=s.size)(eg:∀args w,(EZ f args).run pG w= .ok (.enter f args) w)(ht:fO g w f lb P):
 ET pG 331 #[.pointer (Ai ⟨g,0,Ag⟩),.func (.func f) #[] lb] w λe w'=>(∃v,e= .returned v)/\gK w' g s (fB P s F k) v0 v1 v2 v3/\Gr (· =g) w w':=by
 have H:=lz h;have Ht:=lz ht;clear h ht;go_enter func331,ntmps331;go_wp2;go_loopw [] (λwr=>∃(j F':Nat),j<=s.size/\s.size<=j+F'/\gK wr g s j v0 v1 v2 v3/\Gr (· =g) w wr/\Hid (fB P s F' j=fB P s F k)) (λwr=>s.size-jZ g wr)
 case atStart=>exact⟨k,F,hk,hF,H.out,Gr.refl _ _,rfl⟩
 case round=>
  obtain⟨j,F',hj,hF',hS,hG,hE⟩:=hrel;have wW:=JD hS;by_cases hlt:j<s.size
  .have hm:=kU f lb (fM s j) (P (fM s j)) wr hS hlt rfl eg ((Ht.out.next hG).at_ _)
   have Hm:=lz hm;obtain⟨F2,rfl⟩:∃F2,F'=F2+1:=⟨F'-1,oz⟩;have hrun:fB P s (F2+1) j=if P (fM s j)=BR then fB P s F2 (j+1)else j:=by
    rw[fB];by_cases hp:P (fM s j)=BR
    .rw[if_pos ⟨hlt,hp⟩,if_pos hp]
    .rw[if_neg (λhc=>hp hc.2),if_neg hp]
   have Gs:=lz hrun;have HS:=lz hS;have HG:=lz hG;clear hm hrun hS hG
   cases hp:P (fM s j)with
   | false=>
    rw[hp]at Hm Gs;have he:fB P s F k=j:=by rw[<-hE.out,Gs.out];simp
    have He:=lz he;clear he hp;go_wp2_with fail;refine Hm.out.mono ?_;rintro e w' ⟨rfl,m,rfl⟩;have hby:Below wr.heap.size wr (wr.drewN m):=aD (Below.refl _ _);have HR:=lz (ai (gK.below HS.out hby) (HG.out.trans (Gr.ak hby)));clear hby
    go_wp2_with fail;go_end0;exact⟨⟨_,rfl⟩,by rw[He.out];exact HR.out.1,HR.out.2⟩
   | true=>
    rw[hp]at Hm Gs;have he:fB P s F2 (j+1)=fB P s F k:=by rw[<-hE.out,Gs.out];simp
    have He:=lz he;clear he hp;go_wp2_with fail;refine Hm.out.mono ?_;rintro e w' ⟨rfl,m,rfl⟩;have hby:Below wr.heap.size wr (wr.drewN m):=aD (Below.refl _ _);have jY:=gK.below HS.out hby
    have AX:=HG.out.trans (Gr.ak (X:=(· =g)) hby);obtain⟨y,hy⟩:=ez (wr.drewN m);rw[<-hy]at jY AX ⊢;have y1:y.cell? ⟨g,1,Ag⟩=Ai (.int .i64 j):=ah.cell jY 1;have yf:y.frozen? ⟨g,1,Ag⟩=false:=ah.frozen jY 1;have CD:=jY.step (j+1);have wk:=AX.trans (Gr.setCell (X:=(· =g)) y ⟨g,1,Ag⟩ (.int .i64 ((j+1:Nat):Int)) rfl);have aLc:=JD CD;have HR:=lz (ai CD wk);clear hby jY AX hy CD wk HS HG;go_wp2;go_roundw
    case rel=>exact⟨j+1,F2,oz,oz,by simpa using HR.out.1,by simpa using HR.out.2,He⟩
    case measure=>rw[wW];have:=aLc;simp at this ⊢;omega
  .obtain rfl:j=s.size:=by omega
   have hm:=Ow (.func (.func f) #[] lb) wr hS nL;have Hm:=lz hm;have he:fB P s F k=s.size:=by
    rw[<-hE.out]
    cases F' with
    | zero=>rfl
    | succ F'=>rw[fB,if_neg (λhc=>absurd hc.1 (Nat.lt_irrefl _))]
   have He:=lz he;have HS:=lz hS;have HG:=lz hG;clear hm he hS hG;go_wp2_with fail;refine Hm.out.mono ?_;rintro e w' ⟨rfl,m,rfl⟩;have hby:Below wr.heap.size wr (wr.drewN m):=aD (Below.refl _ _);have HR:=lz (ai (gK.below HS.out hby) (HG.out.trans (Gr.ak hby)));clear hby
   go_wp2_with fail;go_end0;exact⟨⟨_,rfl⟩,by rw[He.out];exact HR.out.1,HR.out.2⟩
end
open Go.Act renaming put → zP
open List renaming setIfInBounds_toArray → zA, set_cons_zero → zB, set_cons_succ → zC
theorem jc(P:Int->Bool)(s:ByteArray):∀(f k:Nat),k<=s.size->fB P s f k<=s.size
 | 0,k,h=>h
 | f+1,k,h=>by
  rw[fB];split
  .rename_i hc
   exact jc P s f (k+1) oz
  .exact h
theorem jC(P:Int->Bool)(s:ByteArray):∀(f k:Nat),k<=fB P s f k
 | 0,k=>Nat.le_refl _
 | f+1,k=>by
  rw[fB];split
  .exact nT (Nat.le_succ k) (jC P s f (k+1))
  .exact Nat.le_refl _
theorem Ox{P:Int->Bool}{s:ByteArray}{f k:Nat}(hk:k<s.size)(hp:P (fM s k)=BR):k<fB P s (f+1) k:=by
 rw[fB,if_pos ⟨hk,hp⟩];exact jC P s f (k+1)
def mL:ByteArray:=⟨#[32,9,10,13]⟩
def BJ:ByteArray:=⟨#[35]⟩
def Vb(b:Int):Bool:=b !=10
def uZ(s:ByteArray):Nat->Nat->Nat
 | 0,k=>k
 | f+1,k=>if k<s.size/\pR BJ (fM s k)=BR then uZ s f (fB (pR mL) s s.size (fB Vb s s.size k))else k
def su(s:ByteArray)(k:Nat):Nat:=uZ s s.size (fB (pR mL) s s.size k)
theorem aCv{s:ByteArray}{k:Nat}(hk:k<s.size)(h:pR BJ (fM s k)=BR):Vb (fM s k)=true:=by
 unfold pR at h;rw[<-jf hk]at h ⊢;have hb:(((s[k]'hk).toNat:Int)).toNat.toUInt8=s[k]'hk:=by
  rw[Int.toNat_natCast];exact UInt8.ofNat_toNat
 rw[hb]at h
 replace h:decide (0<=firstIdx BJ (s[k]'hk))=true:=h
 rw[firstIdx_nonneg]at h;have h35:s[k]'hk=35:=by
  simp[BJ]at h;exact h.symm
 rw[h35];rfl
theorem aCw{g:Nat}{w:Al}:fO g w 333 #[] Vb:=by
 intro W1 hW1 b W hW;clear hW1 hW;unfold Vb;go_enter func333,ntmps333;go_wp2;go_ret;exact⟨rfl,rfl⟩
theorem Ze{g:Nat}{s:ByteArray}{v0 v1 v2 v3:Bn}(k:Nat)(w:Al)(h:gK w g s k v0 v1 v2 v3)(hk:k<=s.size)(hsz:s.size<=1000000):
 ET pG 316 #[.pointer (Ai ⟨g,0,Ag⟩)] w λe w'=>(∃v,e= .returned v)/\gK w' g s (su s k) v0 v1 v2 v3/\Gr (· =g) w w':=by
 have wu:g<w.heap.size:=ah.lt h;have egA:∀args w,(EZ 329 args).run pG w= .ok (.enter 329 args) w:=enters_of func329 kz rfl;have egN:∀args w,(EZ 333 args).run pG w= .ok (.enter 333 args) w:=enters_of func333 kz rfl;have rN:∀(j:Nat) (W:Al),g<W.heap.size->j<=s.size->gK W g s j v0 v1 v2 v3->ET pG 331 #[.pointer (Ai ⟨g,0,Ag⟩),.func (.func 329) #[] #[.pointer (Ai ⟨W.heap.size,0,Ag⟩)]] (W.alloc (.cells #[.string ⟨#[32,9,10,13]⟩] 9)) λe w'=>(∃v,e= .returned v)/\gK w' g s (fB (pR mL) s s.size j) v0 v1 v2 v3/\Gr (· =g) (W.alloc (.cells #[.string ⟨#[32,9,10,13]⟩] 9)) w':=λj W Uq hj hS=>
  Dc (pR mL) _ _ j s.size _ (gK.below hS (bN)) oz hsz hj egA (yH (s:=mL) (ah.new W 9 #[.string ⟨#[32,9,10,13]⟩]) oz)
 have gX:∀(j:Nat) (W:Al),g<W.heap.size->j<=s.size->gK W g s j v0 v1 v2 v3->CU 332 #[.pointer (Ai ⟨g,0,Ag⟩),.func (.func 329) #[] #[.pointer (Ai ⟨W.heap.size,0,Ag⟩)]] (W.alloc (.cells #[.string ⟨#[35]⟩] 9)) (.bool (decide (j<s.size)&&pR BJ (fM s j))):=λj W Uq hj hS=>by
  have jY:=gK.below hS ((Below.refl _ W).alloc nL (.cells #[.string ⟨#[35]⟩] 9));by_cases hlt:j<s.size
  .rw[dT hlt,Bool.true_and]
   refine(kU _ _ (fM s j) (pR BJ (fM s j)) _ jY hlt rfl egA ((yH (g:=g) (s:=BJ) (ah.new W 9 #[.string ⟨#[35]⟩]) oz).at_ _)).mono ?_;rintro e w' ⟨he,m,rfl⟩;exact⟨he,aD (Below.refl _ _)⟩
  .rw[dF hlt,Bool.false_and]
   refine(Ow _ _ jY oz).mono ?_;rintro e w' ⟨he,m,rfl⟩;exact⟨he,aD (Below.refl _ _)⟩
 have hnl:∀(j:Nat) (W:Al),j<=s.size->gK W g s j v0 v1 v2 v3->ET pG 331 #[.pointer (Ai ⟨g,0,Ag⟩),.func (.func 333) #[] #[]] W λe w'=>(∃v,e= .returned v)/\gK w' g s (fB Vb s s.size j) v0 v1 v2 v3/\Gr (· =g) W w':=λj W hj hS=>
  Dc Vb _ _ j s.size W hS oz hsz hj egN aCw
 have aGd:=lz rN;have iD:=lz gX;have Hnl:=lz hnl;have H:=lz h;have H1:=lz (rN k w.drew wu hk (gK.below h (Below.refl _ _).drew));clear rN gX hnl h egA egN;go_enter func316,ntmps316;go_wp2_with fail;refine aT (λ_=>True) 4 kz trivial (λ_=> ?_);refine eu (i:=0) (v:= ?_) rfl kz kz kz kz (λc a w h=>h) (Or.inl ⟨by rfl,?_⟩) trivial ?_;rotate_left
 .intro w hSw
  exact gz
 simp only[zP,zA,zB,zC];refine eu (i:=1) (v:= ?_) rfl kz kz kz kz (λc a w h=>h) (Or.inl ⟨by rfl,?_⟩) trivial ?_;rotate_left
 .intro w hSw
  exact gz
 simp only[zP,zA,zB,zC];refine eu (i:=2) (v:= ?_) rfl kz kz kz kz (λc a w h=>h) (Or.inl ⟨by rfl,?_⟩) trivial ?_;rotate_left
 .intro w hSw
  exact gz
 simp only[zP,zA,zB,zC];refine RQ 3 rfl λK hK=> ?_;go_simp;refine(rO _ _).mono ?_;rintro e w' ⟨rfl,rfl⟩;refine hK.out _ _ (λ_=>trivial) ?_;clear hK;refine RQ 4 rfl λK hK=> ?_;go_simp;refine(H1.out).mono ?_;rintro e w1 ⟨⟨v,rfl⟩,hS1,sK⟩;refine hK.out _ _ (λ_=>trivial) ?_;clear hK;refine aL kz ?_ _;have aLd:Gr (· =g) w w1:=(Gr.ak (X:=(· =g)) ((Below.refl w.heap.size w).drew.alloc nL (.cells #[.string ⟨#[32,9,10,13]⟩] 9))).trans sK;have HR:=lz (ai hS1 aLd);clear hS1 sK aLd H1;go_wp2;go_loopw [] (λwr=>∃(j f:Nat),j<=s.size/\s.size<=j+f/\gK wr g s j v0 v1 v2 v3/\Gr (· =g) w wr/\Hid (uZ s f j=su s k)) (λwr=>s.size-jZ g wr)
 case atStart=>exact⟨_,s.size,jc _ s _ _ hk,oz,HR.out.1,HR.out.2,rfl⟩
 case round=>
  obtain⟨j,f,hj,hf,hS,hG,hE⟩:=hrel;clear HR;have wW:=JD hS;have hgr:g<wr.heap.size:=ah.lt hS;have Hm:=lz (iD.out j wr.drew hgr hj (gK.below hS (Below.refl _ _).drew));have HS:=lz hS;have HG:=lz hG;clear hS hG
  cases hc:(decide (j<s.size)&&pR BJ (fM s j))with
  | false=>
   rw[hc]at Hm;have he:su s k=j:=by
    rw[<-hE.out]
    cases f with
    | zero=>rfl
    | succ f=>
     rw[uZ,if_neg];rintro⟨h1,h2⟩;rw[dT h1,h2]at hc
     cases hc
   have He:=lz he;clear he hc;go_wp2_with fail;refine aT (λ_=>True) 4 kz trivial (λ_=> ?_);refine eu (i:=0) (v:= ?_) rfl kz kz kz kz (λc a w h=>h) (Or.inl ⟨by rfl,?_⟩) trivial ?_;rotate_left
   .intro w hSw
    exact gz
   simp only[zP,zA,zB,zC];refine eu (i:=1) (v:= ?_) rfl kz kz kz kz (λc a w h=>h) (Or.inl ⟨by rfl,?_⟩) trivial ?_;rotate_left
   .intro w hSw
    exact gz
   simp only[zP,zA,zB,zC];refine eu (i:=2) (v:= ?_) rfl kz kz kz kz (λc a w h=>h) (Or.inl ⟨by rfl,?_⟩) trivial ?_;rotate_left
   .intro w hSw
    exact gz
   simp only[zP,zA,zB,zC];refine RQ 3 rfl λK hK=> ?_;go_simp;refine(rO _ _).mono ?_;rintro e w' ⟨rfl,rfl⟩;refine hK.out _ _ (λ_=>trivial) ?_;clear hK;refine RQ 4 rfl λK hK=> ?_;go_simp;refine(Hm.out).mono ?_;rintro e w4 ⟨rfl,mF⟩;refine hK.out _ _ (λ_=>trivial) ?_;clear hK;refine aL kz ?_ _;have hby:Below wr.heap.size wr w4:=((Below.refl wr.heap.size wr).drew.alloc nL (.cells #[.string ⟨#[35]⟩] 9)).trans (mF.mono qz);have HR:=lz (ai (gK.below HS.out hby) (HG.out.trans (Gr.ak hby)));clear mF hby Hm;go_wp2_with fail;go_end0;exact⟨⟨_,rfl⟩,by rw[He.out];exact HR.out.1,HR.out.2⟩
  | true=>
   rw[hc]at Hm;rw[Bool.and_eq_true,decide_eq_true_eq]at hc;obtain⟨hlt,Zf⟩:=hc;have aLe:=aCv hlt Zf;obtain⟨f,rfl⟩:∃f',f=f'+1:=⟨f-1,oz⟩;have he:uZ s f (fB (pR mL) s s.size (fB Vb s s.size j))=su s k:=by
    rw[<-hE.out,uZ,if_pos ⟨hlt,Zf⟩]
   obtain⟨n,hn⟩:∃n,s.size=n+1:=⟨s.size-1,oz⟩;have aTe:j<fB Vb s s.size j:=by rw[hn];exact Ox hlt aLe
   have aLf:=jc Vb s s.size j oz;have aXz:=jC (pR mL) s s.size (fB Vb s s.size j);have aQB:=jc (pR mL) s s.size (fB Vb s s.size j) aLf;have He:=lz he;clear he hlt Zf aLe hn;go_wp2_with fail;refine aT (λ_=>True) 4 kz trivial (λ_=> ?_);refine eu (i:=0) (v:= ?_) rfl kz kz kz kz (λc a w h=>h) (Or.inl ⟨by rfl,?_⟩) trivial ?_;rotate_left
   .intro w hSw
    exact gz
   simp only[zP,zA,zB,zC];refine eu (i:=1) (v:= ?_) rfl kz kz kz kz (λc a w h=>h) (Or.inl ⟨by rfl,?_⟩) trivial ?_;rotate_left
   .intro w hSw
    exact gz
   simp only[zP,zA,zB,zC];refine eu (i:=2) (v:= ?_) rfl kz kz kz kz (λc a w h=>h) (Or.inl ⟨by rfl,?_⟩) trivial ?_;rotate_left
   .intro w hSw
    exact gz
   simp only[zP,zA,zB,zC];refine RQ 3 rfl λK hK=> ?_;go_simp;refine(rO _ _).mono ?_;rintro e w' ⟨rfl,rfl⟩;refine hK.out _ _ (λ_=>trivial) ?_;clear hK;refine RQ 4 rfl λK hK=> ?_;go_simp;refine(Hm.out).mono ?_;rintro e w4 ⟨rfl,mF⟩;refine hK.out _ _ (λ_=>trivial) ?_;clear hK;refine aL kz ?_ _;have hby:Below wr.heap.size wr w4:=((Below.refl wr.heap.size wr).drew.alloc nL (.cells #[.string ⟨#[35]⟩] 9)).trans (mF.mono qz);have vw:=gK.below HS.out hby
   have HG4:=lz (HG.out.trans (Gr.ak (X:=(· =g)) hby));have Hw5:=lz (Hnl.out j w4 hj vw);clear mF hby Hm vw HS HG;go_wp2_with fail;refine Hw5.out.mono ?_;rintro e w5 ⟨⟨v,rfl⟩,CF,hG5⟩;have aQC:g<w5.heap.size:=ah.lt CF;have Hw6:=lz (aGd.out _ w5.drew aQC aLf (gK.below CF (Below.refl _ _).drew));have HG5:=lz (HG4.out.trans hG5);clear CF hG5 Hw5 HG4;go_wp2_with fail;refine aT (λ_=>True) 4 kz trivial (λ_=> ?_);refine eu (i:=0) (v:= ?_) rfl kz kz kz kz (λc a w h=>h) (Or.inl ⟨by rfl,?_⟩) trivial ?_;rotate_left
   .intro w hSw
    exact gz
   simp only[zP,zA,zB,zC];refine eu (i:=1) (v:= ?_) rfl kz kz kz kz (λc a w h=>h) (Or.inl ⟨by rfl,?_⟩) trivial ?_;rotate_left
   .intro w hSw
    exact gz
   simp only[zP,zA,zB,zC];refine eu (i:=2) (v:= ?_) rfl kz kz kz kz (λc a w h=>h) (Or.inl ⟨by rfl,?_⟩) trivial ?_;rotate_left
   .intro w hSw
    exact gz
   simp only[zP,zA,zB,zC];refine RQ 3 rfl λK hK=> ?_;go_simp;refine(rO _ _).mono ?_;rintro e w' ⟨rfl,rfl⟩;refine hK.out _ _ (λ_=>trivial) ?_;clear hK;refine RQ 4 rfl λK hK=> ?_;go_simp;refine(Hw6.out).mono ?_;rintro e w6 ⟨⟨v2_,rfl⟩,MF,hG6⟩;refine hK.out _ _ (λ_=>trivial) ?_;clear hK;refine aL kz ?_ _;have aLg:=HG5.out.trans ((Gr.ak (X:=(· =g)) ((Below.refl w5.heap.size w5).drew.alloc nL (.cells #[.string ⟨#[32,9,10,13]⟩] 9))).trans hG6);have Wg:=JD MF;have HR:=lz (ai MF aLg);clear MF hG6 aLg Hw6 HG5;go_wp2;go_roundw
   case rel=>exact⟨_,f,aQB,oz,HR.out.1,HR.out.2,He⟩
   case measure=>rw[wW,Wg];omega
def uq(b:Int):Bool:=Rk 97 122 b||(Rk 65 90 b||false)
def vX(b:Int):Bool:=Rk 48 57 b
def Fg(b:Int):Bool:=pR ⟨#[123,125,59,44,46,58]⟩ b
structure aC5(W:Al)(v1 v2 v3:Bn):Prop where
 ex:∃Be Bd Bd2 Bs,v1= .func (.func 327) #[] #[.pointer (Ai ⟨Be,0,Ag⟩)]/\v2= .func (.func 328) #[] #[.pointer (Ai ⟨Bd,0,Ag⟩),.pointer (Ai ⟨Bd2,0,Ag⟩)]/\v3= .func (.func 329) #[] #[.pointer (Ai ⟨Bs,0,Ag⟩)]/\
  ∀g W',W.heap.size<=g->Below W.heap.size W W'->fO g W' 327 #[.pointer (Ai ⟨Be,0,Ag⟩)] uq/\fO g W' 328 #[.pointer (Ai ⟨Bd,0,Ag⟩),.pointer (Ai ⟨Bd2,0,Ag⟩)] vX/\fO g W' 329 #[.pointer (Ai ⟨Bs,0,Ag⟩)] Fg
theorem Zv(w:Al):ET pG 297 #[] w λe w'=>∃v1 v2 v3,e= .returned (.agg #[.nilFunc,v1,v2,v3])/\aC5 w' v1 v2 v3/\Below w.heap.size w w':=by
 go_enter func297,ntmps297;go_wp2_with (first | (go_at_call 313;refine(U9 _ _ _).mono ?_;rintro e w' ⟨rfl,rfl⟩) | (go_at_call 312;refine(EH _ _ _ _).mono ?_;rintro e w' ⟨rfl,rfl⟩) | (go_at_call 314;refine(rO _ _).mono ?_;rintro e w' ⟨rfl,rfl⟩));have h0:=((((((((((eU w (w.heap.size) 320 #[.nilFunc,.func (.func 327) #[] #[.pointer (Ai ⟨w.heap.size+1+1+1+1+1+1,0,Ag⟩)],.func (.func 328) #[] #[.pointer (Ai ⟨w.heap.size+1+1+1+1+1+1+1,0,Ag⟩),.pointer (Ai ⟨w.heap.size+1+1+1+1+1+1+1+1,0,Ag⟩)],.func (.func 329) #[] #[.pointer (Ai ⟨w.heap.size+1+1+1+1+1+1+1+1+1,0,Ag⟩)]] qz).alloc (.cells #[.int .u8 97] 5)).alloc (.cells #[.int .u8 122] 5)).alloc (.cells #[.int .u8 65] 5)).alloc (.cells #[.int .u8 90] 5)).alloc (.cells #[.func (.func 328) #[] #[.pointer (Ai ⟨w.heap.size+1,0,Ag⟩),.pointer (Ai ⟨w.heap.size+1+1,0,Ag⟩)],.func (.func 328) #[] #[.pointer (Ai ⟨w.heap.size+1+1+1,0,Ag⟩),.pointer (Ai ⟨w.heap.size+1+1+1+1,0,Ag⟩)]] 278)).alloc (.cells #[.slice (Ai ⟨w.heap.size+1+1+1+1+1,0,Ag⟩) 2 2] 347)).alloc (.cells #[.int .u8 48] 5)).alloc (.cells #[.int .u8 57] 5)).alloc (.cells #[.string ⟨#[123,125,59,44,46,58]⟩] 9));have h1:=(((((((((eU (w.alloc (.cells #[.nilFunc,.func (.func 327) #[] #[.pointer (Ai ⟨w.heap.size+1+1+1+1+1+1,0,Ag⟩)],.func (.func 328) #[] #[.pointer (Ai ⟨w.heap.size+1+1+1+1+1+1+1,0,Ag⟩),.pointer (Ai ⟨w.heap.size+1+1+1+1+1+1+1+1,0,Ag⟩)],.func (.func 329) #[] #[.pointer (Ai ⟨w.heap.size+1+1+1+1+1+1+1+1+1,0,Ag⟩)]] 320)) (w.heap.size+1) 5 #[.int .u8 97] qz).alloc (.cells #[.int .u8 122] 5)).alloc (.cells #[.int .u8 65] 5)).alloc (.cells #[.int .u8 90] 5)).alloc (.cells #[.func (.func 328) #[] #[.pointer (Ai ⟨w.heap.size+1,0,Ag⟩),.pointer (Ai ⟨w.heap.size+1+1,0,Ag⟩)],.func (.func 328) #[] #[.pointer (Ai ⟨w.heap.size+1+1+1,0,Ag⟩),.pointer (Ai ⟨w.heap.size+1+1+1+1,0,Ag⟩)]] 278)).alloc (.cells #[.slice (Ai ⟨w.heap.size+1+1+1+1+1,0,Ag⟩) 2 2] 347)).alloc (.cells #[.int .u8 48] 5)).alloc (.cells #[.int .u8 57] 5)).alloc (.cells #[.string ⟨#[123,125,59,44,46,58]⟩] 9));have h2:=((((((((eU ((w.alloc (.cells #[.nilFunc,.func (.func 327) #[] #[.pointer (Ai ⟨w.heap.size+1+1+1+1+1+1,0,Ag⟩)],.func (.func 328) #[] #[.pointer (Ai ⟨w.heap.size+1+1+1+1+1+1+1,0,Ag⟩),.pointer (Ai ⟨w.heap.size+1+1+1+1+1+1+1+1,0,Ag⟩)],.func (.func 329) #[] #[.pointer (Ai ⟨w.heap.size+1+1+1+1+1+1+1+1+1,0,Ag⟩)]] 320)).alloc (.cells #[.int .u8 97] 5)) (w.heap.size+1+1) 5 #[.int .u8 122] qz).alloc (.cells #[.int .u8 65] 5)).alloc (.cells #[.int .u8 90] 5)).alloc (.cells #[.func (.func 328) #[] #[.pointer (Ai ⟨w.heap.size+1,0,Ag⟩),.pointer (Ai ⟨w.heap.size+1+1,0,Ag⟩)],.func (.func 328) #[] #[.pointer (Ai ⟨w.heap.size+1+1+1,0,Ag⟩),.pointer (Ai ⟨w.heap.size+1+1+1+1,0,Ag⟩)]] 278)).alloc (.cells #[.slice (Ai ⟨w.heap.size+1+1+1+1+1,0,Ag⟩) 2 2] 347)).alloc (.cells #[.int .u8 48] 5)).alloc (.cells #[.int .u8 57] 5)).alloc (.cells #[.string ⟨#[123,125,59,44,46,58]⟩] 9));have h3:=(((((((eU (((w.alloc (.cells #[.nilFunc,.func (.func 327) #[] #[.pointer (Ai ⟨w.heap.size+1+1+1+1+1+1,0,Ag⟩)],.func (.func 328) #[] #[.pointer (Ai ⟨w.heap.size+1+1+1+1+1+1+1,0,Ag⟩),.pointer (Ai ⟨w.heap.size+1+1+1+1+1+1+1+1,0,Ag⟩)],.func (.func 329) #[] #[.pointer (Ai ⟨w.heap.size+1+1+1+1+1+1+1+1+1,0,Ag⟩)]] 320)).alloc (.cells #[.int .u8 97] 5)).alloc (.cells #[.int .u8 122] 5)) (w.heap.size+1+1+1) 5 #[.int .u8 65] qz).alloc (.cells #[.int .u8 90] 5)).alloc (.cells #[.func (.func 328) #[] #[.pointer (Ai ⟨w.heap.size+1,0,Ag⟩),.pointer (Ai ⟨w.heap.size+1+1,0,Ag⟩)],.func (.func 328) #[] #[.pointer (Ai ⟨w.heap.size+1+1+1,0,Ag⟩),.pointer (Ai ⟨w.heap.size+1+1+1+1,0,Ag⟩)]] 278)).alloc (.cells #[.slice (Ai ⟨w.heap.size+1+1+1+1+1,0,Ag⟩) 2 2] 347)).alloc (.cells #[.int .u8 48] 5)).alloc (.cells #[.int .u8 57] 5)).alloc (.cells #[.string ⟨#[123,125,59,44,46,58]⟩] 9));have h4:=((((((eU ((((w.alloc (.cells #[.nilFunc,.func (.func 327) #[] #[.pointer (Ai ⟨w.heap.size+1+1+1+1+1+1,0,Ag⟩)],.func (.func 328) #[] #[.pointer (Ai ⟨w.heap.size+1+1+1+1+1+1+1,0,Ag⟩),.pointer (Ai ⟨w.heap.size+1+1+1+1+1+1+1+1,0,Ag⟩)],.func (.func 329) #[] #[.pointer (Ai ⟨w.heap.size+1+1+1+1+1+1+1+1+1,0,Ag⟩)]] 320)).alloc (.cells #[.int .u8 97] 5)).alloc (.cells #[.int .u8 122] 5)).alloc (.cells #[.int .u8 65] 5)) (w.heap.size+1+1+1+1) 5 #[.int .u8 90] qz).alloc (.cells #[.func (.func 328) #[] #[.pointer (Ai ⟨w.heap.size+1,0,Ag⟩),.pointer (Ai ⟨w.heap.size+1+1,0,Ag⟩)],.func (.func 328) #[] #[.pointer (Ai ⟨w.heap.size+1+1+1,0,Ag⟩),.pointer (Ai ⟨w.heap.size+1+1+1+1,0,Ag⟩)]] 278)).alloc (.cells #[.slice (Ai ⟨w.heap.size+1+1+1+1+1,0,Ag⟩) 2 2] 347)).alloc (.cells #[.int .u8 48] 5)).alloc (.cells #[.int .u8 57] 5)).alloc (.cells #[.string ⟨#[123,125,59,44,46,58]⟩] 9));have h5:=(((((eU (((((w.alloc (.cells #[.nilFunc,.func (.func 327) #[] #[.pointer (Ai ⟨w.heap.size+1+1+1+1+1+1,0,Ag⟩)],.func (.func 328) #[] #[.pointer (Ai ⟨w.heap.size+1+1+1+1+1+1+1,0,Ag⟩),.pointer (Ai ⟨w.heap.size+1+1+1+1+1+1+1+1,0,Ag⟩)],.func (.func 329) #[] #[.pointer (Ai ⟨w.heap.size+1+1+1+1+1+1+1+1+1,0,Ag⟩)]] 320)).alloc (.cells #[.int .u8 97] 5)).alloc (.cells #[.int .u8 122] 5)).alloc (.cells #[.int .u8 65] 5)).alloc (.cells #[.int .u8 90] 5)) (w.heap.size+1+1+1+1+1) 278 #[.func (.func 328) #[] #[.pointer (Ai ⟨w.heap.size+1,0,Ag⟩),.pointer (Ai ⟨w.heap.size+1+1,0,Ag⟩)],.func (.func 328) #[] #[.pointer (Ai ⟨w.heap.size+1+1+1,0,Ag⟩),.pointer (Ai ⟨w.heap.size+1+1+1+1,0,Ag⟩)]] qz).alloc (.cells #[.slice (Ai ⟨w.heap.size+1+1+1+1+1,0,Ag⟩) 2 2] 347)).alloc (.cells #[.int .u8 48] 5)).alloc (.cells #[.int .u8 57] 5)).alloc (.cells #[.string ⟨#[123,125,59,44,46,58]⟩] 9));have h6:=((((eU ((((((w.alloc (.cells #[.nilFunc,.func (.func 327) #[] #[.pointer (Ai ⟨w.heap.size+1+1+1+1+1+1,0,Ag⟩)],.func (.func 328) #[] #[.pointer (Ai ⟨w.heap.size+1+1+1+1+1+1+1,0,Ag⟩),.pointer (Ai ⟨w.heap.size+1+1+1+1+1+1+1+1,0,Ag⟩)],.func (.func 329) #[] #[.pointer (Ai ⟨w.heap.size+1+1+1+1+1+1+1+1+1,0,Ag⟩)]] 320)).alloc (.cells #[.int .u8 97] 5)).alloc (.cells #[.int .u8 122] 5)).alloc (.cells #[.int .u8 65] 5)).alloc (.cells #[.int .u8 90] 5)).alloc (.cells #[.func (.func 328) #[] #[.pointer (Ai ⟨w.heap.size+1,0,Ag⟩),.pointer (Ai ⟨w.heap.size+1+1,0,Ag⟩)],.func (.func 328) #[] #[.pointer (Ai ⟨w.heap.size+1+1+1,0,Ag⟩),.pointer (Ai ⟨w.heap.size+1+1+1+1,0,Ag⟩)]] 278)) (w.heap.size+1+1+1+1+1+1) 347 #[.slice (Ai ⟨w.heap.size+1+1+1+1+1,0,Ag⟩) 2 2] qz).alloc (.cells #[.int .u8 48] 5)).alloc (.cells #[.int .u8 57] 5)).alloc (.cells #[.string ⟨#[123,125,59,44,46,58]⟩] 9));have h7:=(((eU (((((((w.alloc (.cells #[.nilFunc,.func (.func 327) #[] #[.pointer (Ai ⟨w.heap.size+1+1+1+1+1+1,0,Ag⟩)],.func (.func 328) #[] #[.pointer (Ai ⟨w.heap.size+1+1+1+1+1+1+1,0,Ag⟩),.pointer (Ai ⟨w.heap.size+1+1+1+1+1+1+1+1,0,Ag⟩)],.func (.func 329) #[] #[.pointer (Ai ⟨w.heap.size+1+1+1+1+1+1+1+1+1,0,Ag⟩)]] 320)).alloc (.cells #[.int .u8 97] 5)).alloc (.cells #[.int .u8 122] 5)).alloc (.cells #[.int .u8 65] 5)).alloc (.cells #[.int .u8 90] 5)).alloc (.cells #[.func (.func 328) #[] #[.pointer (Ai ⟨w.heap.size+1,0,Ag⟩),.pointer (Ai ⟨w.heap.size+1+1,0,Ag⟩)],.func (.func 328) #[] #[.pointer (Ai ⟨w.heap.size+1+1+1,0,Ag⟩),.pointer (Ai ⟨w.heap.size+1+1+1+1,0,Ag⟩)]] 278)).alloc (.cells #[.slice (Ai ⟨w.heap.size+1+1+1+1+1,0,Ag⟩) 2 2] 347)) (w.heap.size+1+1+1+1+1+1+1) 5 #[.int .u8 48] qz).alloc (.cells #[.int .u8 57] 5)).alloc (.cells #[.string ⟨#[123,125,59,44,46,58]⟩] 9));have h8:=((eU ((((((((w.alloc (.cells #[.nilFunc,.func (.func 327) #[] #[.pointer (Ai ⟨w.heap.size+1+1+1+1+1+1,0,Ag⟩)],.func (.func 328) #[] #[.pointer (Ai ⟨w.heap.size+1+1+1+1+1+1+1,0,Ag⟩),.pointer (Ai ⟨w.heap.size+1+1+1+1+1+1+1+1,0,Ag⟩)],.func (.func 329) #[] #[.pointer (Ai ⟨w.heap.size+1+1+1+1+1+1+1+1+1,0,Ag⟩)]] 320)).alloc (.cells #[.int .u8 97] 5)).alloc (.cells #[.int .u8 122] 5)).alloc (.cells #[.int .u8 65] 5)).alloc (.cells #[.int .u8 90] 5)).alloc (.cells #[.func (.func 328) #[] #[.pointer (Ai ⟨w.heap.size+1,0,Ag⟩),.pointer (Ai ⟨w.heap.size+1+1,0,Ag⟩)],.func (.func 328) #[] #[.pointer (Ai ⟨w.heap.size+1+1+1,0,Ag⟩),.pointer (Ai ⟨w.heap.size+1+1+1+1,0,Ag⟩)]] 278)).alloc (.cells #[.slice (Ai ⟨w.heap.size+1+1+1+1+1,0,Ag⟩) 2 2] 347)).alloc (.cells #[.int .u8 48] 5)) (w.heap.size+1+1+1+1+1+1+1+1) 5 #[.int .u8 57] qz).alloc (.cells #[.string ⟨#[123,125,59,44,46,58]⟩] 9));have h9:=(eU (((((((((w.alloc (.cells #[.nilFunc,.func (.func 327) #[] #[.pointer (Ai ⟨w.heap.size+1+1+1+1+1+1,0,Ag⟩)],.func (.func 328) #[] #[.pointer (Ai ⟨w.heap.size+1+1+1+1+1+1+1,0,Ag⟩),.pointer (Ai ⟨w.heap.size+1+1+1+1+1+1+1+1,0,Ag⟩)],.func (.func 329) #[] #[.pointer (Ai ⟨w.heap.size+1+1+1+1+1+1+1+1+1,0,Ag⟩)]] 320)).alloc (.cells #[.int .u8 97] 5)).alloc (.cells #[.int .u8 122] 5)).alloc (.cells #[.int .u8 65] 5)).alloc (.cells #[.int .u8 90] 5)).alloc (.cells #[.func (.func 328) #[] #[.pointer (Ai ⟨w.heap.size+1,0,Ag⟩),.pointer (Ai ⟨w.heap.size+1+1,0,Ag⟩)],.func (.func 328) #[] #[.pointer (Ai ⟨w.heap.size+1+1+1,0,Ag⟩),.pointer (Ai ⟨w.heap.size+1+1+1+1,0,Ag⟩)]] 278)).alloc (.cells #[.slice (Ai ⟨w.heap.size+1+1+1+1+1,0,Ag⟩) 2 2] 347)).alloc (.cells #[.int .u8 48] 5)).alloc (.cells #[.int .u8 57] 5)) (w.heap.size+1+1+1+1+1+1+1+1+1) 9 #[.string ⟨#[123,125,59,44,46,58]⟩] qz);have hB:Below w.heap.size w ((((((((((w.alloc (.cells #[.nilFunc,.func (.func 327) #[] #[.pointer (Ai ⟨w.heap.size+1+1+1+1+1+1,0,Ag⟩)],.func (.func 328) #[] #[.pointer (Ai ⟨w.heap.size+1+1+1+1+1+1+1,0,Ag⟩),.pointer (Ai ⟨w.heap.size+1+1+1+1+1+1+1+1,0,Ag⟩)],.func (.func 329) #[] #[.pointer (Ai ⟨w.heap.size+1+1+1+1+1+1+1+1+1,0,Ag⟩)]] 320)).alloc (.cells #[.int .u8 97] 5)).alloc (.cells #[.int .u8 122] 5)).alloc (.cells #[.int .u8 65] 5)).alloc (.cells #[.int .u8 90] 5)).alloc (.cells #[.func (.func 328) #[] #[.pointer (Ai ⟨w.heap.size+1,0,Ag⟩),.pointer (Ai ⟨w.heap.size+1+1,0,Ag⟩)],.func (.func 328) #[] #[.pointer (Ai ⟨w.heap.size+1+1+1,0,Ag⟩),.pointer (Ai ⟨w.heap.size+1+1+1+1,0,Ag⟩)]] 278)).alloc (.cells #[.slice (Ai ⟨w.heap.size+1+1+1+1+1,0,Ag⟩) 2 2] 347)).alloc (.cells #[.int .u8 48] 5)).alloc (.cells #[.int .u8 57] 5)).alloc (.cells #[.string ⟨#[123,125,59,44,46,58]⟩] 9)):=(((((((((((Below.refl w.heap.size w).alloc (by simp<;>omega) (.cells #[.nilFunc,.func (.func 327) #[] #[.pointer (Ai ⟨w.heap.size+1+1+1+1+1+1,0,Ag⟩)],.func (.func 328) #[] #[.pointer (Ai ⟨w.heap.size+1+1+1+1+1+1+1,0,Ag⟩),.pointer (Ai ⟨w.heap.size+1+1+1+1+1+1+1+1,0,Ag⟩)],.func (.func 329) #[] #[.pointer (Ai ⟨w.heap.size+1+1+1+1+1+1+1+1+1,0,Ag⟩)]] 320)).alloc (by simp<;>omega) (.cells #[.int .u8 97] 5)).alloc (by simp<;>omega) (.cells #[.int .u8 122] 5)).alloc (by simp<;>omega) (.cells #[.int .u8 65] 5)).alloc (by simp<;>omega) (.cells #[.int .u8 90] 5)).alloc (by simp<;>omega) (.cells #[.func (.func 328) #[] #[.pointer (Ai ⟨w.heap.size+1,0,Ag⟩),.pointer (Ai ⟨w.heap.size+1+1,0,Ag⟩)],.func (.func 328) #[] #[.pointer (Ai ⟨w.heap.size+1+1+1,0,Ag⟩),.pointer (Ai ⟨w.heap.size+1+1+1+1,0,Ag⟩)]] 278)).alloc (by simp<;>omega) (.cells #[.slice (Ai ⟨w.heap.size+1+1+1+1+1,0,Ag⟩) 2 2] 347)).alloc (by simp<;>omega) (.cells #[.int .u8 48] 5)).alloc (by simp<;>omega) (.cells #[.int .u8 57] 5)).alloc (by simp<;>omega) (.cells #[.string ⟨#[123,125,59,44,46,58]⟩] 9));have hz:((((((((((w.alloc (.cells #[.nilFunc,.func (.func 327) #[] #[.pointer (Ai ⟨w.heap.size+1+1+1+1+1+1,0,Ag⟩)],.func (.func 328) #[] #[.pointer (Ai ⟨w.heap.size+1+1+1+1+1+1+1,0,Ag⟩),.pointer (Ai ⟨w.heap.size+1+1+1+1+1+1+1+1,0,Ag⟩)],.func (.func 329) #[] #[.pointer (Ai ⟨w.heap.size+1+1+1+1+1+1+1+1+1,0,Ag⟩)]] 320)).alloc (.cells #[.int .u8 97] 5)).alloc (.cells #[.int .u8 122] 5)).alloc (.cells #[.int .u8 65] 5)).alloc (.cells #[.int .u8 90] 5)).alloc (.cells #[.func (.func 328) #[] #[.pointer (Ai ⟨w.heap.size+1,0,Ag⟩),.pointer (Ai ⟨w.heap.size+1+1,0,Ag⟩)],.func (.func 328) #[] #[.pointer (Ai ⟨w.heap.size+1+1+1,0,Ag⟩),.pointer (Ai ⟨w.heap.size+1+1+1+1,0,Ag⟩)]] 278)).alloc (.cells #[.slice (Ai ⟨w.heap.size+1+1+1+1+1,0,Ag⟩) 2 2] 347)).alloc (.cells #[.int .u8 48] 5)).alloc (.cells #[.int .u8 57] 5)).alloc (.cells #[.string ⟨#[123,125,59,44,46,58]⟩] 9)).heap.size=w.heap.size+10:=by simp
 generalize ((((((((((w.alloc (.cells #[.nilFunc,.func (.func 327) #[] #[.pointer (Ai ⟨w.heap.size+1+1+1+1+1+1,0,Ag⟩)],.func (.func 328) #[] #[.pointer (Ai ⟨w.heap.size+1+1+1+1+1+1+1,0,Ag⟩),.pointer (Ai ⟨w.heap.size+1+1+1+1+1+1+1+1,0,Ag⟩)],.func (.func 329) #[] #[.pointer (Ai ⟨w.heap.size+1+1+1+1+1+1+1+1+1,0,Ag⟩)]] 320)).alloc (.cells #[.int .u8 97] 5)).alloc (.cells #[.int .u8 122] 5)).alloc (.cells #[.int .u8 65] 5)).alloc (.cells #[.int .u8 90] 5)).alloc (.cells #[.func (.func 328) #[] #[.pointer (Ai ⟨w.heap.size+1,0,Ag⟩),.pointer (Ai ⟨w.heap.size+1+1,0,Ag⟩)],.func (.func 328) #[] #[.pointer (Ai ⟨w.heap.size+1+1+1,0,Ag⟩),.pointer (Ai ⟨w.heap.size+1+1+1+1,0,Ag⟩)]] 278)).alloc (.cells #[.slice (Ai ⟨w.heap.size+1+1+1+1+1,0,Ag⟩) 2 2] 347)).alloc (.cells #[.int .u8 48] 5)).alloc (.cells #[.int .u8 57] 5)).alloc (.cells #[.string ⟨#[123,125,59,44,46,58]⟩] 9))=W at *;have z0:=h0.cell 0;have z1:=h0.cell 1;have z2:=h0.cell 2;have z3:=h0.cell 3;refine GJ (v:= .agg #[.nilFunc,.func (.func 327) #[] #[.pointer (Ai ⟨w.heap.size+1+1+1+1+1+1,0,Ag⟩)],.func (.func 328) #[] #[.pointer (Ai ⟨w.heap.size+1+1+1+1+1+1+1,0,Ag⟩),.pointer (Ai ⟨w.heap.size+1+1+1+1+1+1+1+1,0,Ag⟩)],.func (.func 329) #[] #[.pointer (Ai ⟨w.heap.size+1+1+1+1+1+1+1+1+1,0,Ag⟩)]]) (by simp[results,results297,go_sem,z0,z1,z2,z3]) rfl ⟨_,_,_,rfl,⟨_,_,_,_,rfl,rfl,rfl,λg W' hg hW=> ?_⟩,hB⟩;have g1:=ah.below h1 hW h1.lt;have g2:=ah.below h2 hW h2.lt;have g3:=ah.below h3 hW h3.lt;have g4:=ah.below h4 hW h4.lt;have g5:=ah.below h5 hW h5.lt;have g6:=ah.below h6 hW h6.lt;have g7:=ah.below h7 hW h7.lt;have g8:=ah.below h8 hW h8.lt;have g9:=ah.below h9 hW h9.lt;have eB:∀args w,(EZ 328 args).run pG w= .ok (.enter 328 args) w:=enters_of func328 kz rfl;refine⟨?_,Af g7 g8 oz oz,yH g9 oz⟩;refine EI [(328,#[.pointer (Ai ⟨w.heap.size+1,0,Ag⟩),.pointer (Ai ⟨w.heap.size+1+1,0,Ag⟩)],Rk 97 122),(328,#[.pointer (Ai ⟨w.heap.size+1+1+1,0,Ag⟩),.pointer (Ai ⟨w.heap.size+1+1+1+1,0,Ag⟩)],Rk 65 90)] g6 oz oz g5.lt (λi hi=> ?_) qz;have uz:i=0\/i=1:=by simp at hi;omega
 rcases uz with rfl | rfl
 .exact⟨g5.cell 0,eB,Af g1 g2 oz oz⟩
 .exact⟨g5.cell 1,eB,Af g3 g4 oz oz⟩
