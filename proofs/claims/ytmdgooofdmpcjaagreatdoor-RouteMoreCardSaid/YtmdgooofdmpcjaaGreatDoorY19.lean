import Derived.Deep.RegionLawGrows
import Derived.Deep.Upon
import Derived.Test.YtmdgooofdmpcjaaGreatDoorY17
set_option maxRecDepth 100000
set_option maxHeartbeats 8000000
set_option linter.unusedSimpArgs false
set_option linter.unusedVariables false
set_option linter.unusedSectionVars false
open Go.Proofs.Tryz renaming prog → pG
open Bool renaming and_eq_true->BW,true->BR
open List renaming all_eq_true->EL,all_map->FH,flatMap_append->Ig,getD_eq_getElem?_getD->E1,getElem?_eq_some_iff->IU,getElem_map->GN,getElem_mem->CS,getElem_of_mem->GU,length_map->FD,length_take->GW,map_map->Ib,mem_append->E2,mem_append_left->BP,mem_append_right->EJ,mem_cons->BU,mem_cons_of_mem->EX,mem_cons_self->BS,mem_flatMap->E6,mem_map->GR,not_mem_nil->Fc,replicate->Fe,setIfInBounds_toArray->Dk,set_cons_succ->ER,set_cons_zero->EP,take_length->GS,take_succ_eq_append_getElem->Dl
open Option renaming bind_eq_some_iff->Hg,isSome_iff_exists->Jr,none->Ag,some->Ai,some->ES
open Go.Proofs.Tryz
namespace Go.Proofs.YtmdgooofdmpcjaaGreatDoor
open Go renaming Addr->EK,Calls->ET,TypeId->E3,Value->Bn,World->Al,bodyPost_ret->GJ,maxLen->EW
open RowKit renaming Below->BD,intOf->E8
open Value renaming int->GL,string->GI
section
open Go.ChangeShapes Go.WideShapes Go.ChangeAt Go.RowKit
attribute [local go_sem] Oper.semAt_some
def RdG{α:Type}(w:Al)(B:Nat)(A:Option EK)(E:α->List Bn)(sz:Nat)(l:List α):Prop:=
 0<l.length->∃b o,A=Ai ⟨b,o,Ag⟩/\b<B/\∀i (hi:i<l.length) k u,(E l[i])[k]?=Ai u->w.cell? ⟨b,o+i*sz+k,Ag⟩=Ai u
theorem aD8{α:Type}(E:α->List Bn)(n:Nat)(hE:∀x,(E x).length=n):∀l:List α,(l.flatMap E).length=l.length*n
 | []=>by simp
 | x :: r=>by rw[List.flatMap_cons,List.length_append,hE,aD8 E n hE r,List.length_cons,Nat.add_mul];omega
theorem RdG.reads{α:Type}{w:Al}{B:Nat}{A:Option EK}{E:α->List Bn}{sz:Nat}{l:List α}(hz:0<sz)(hE:∀x,(E x).length=sz)(h:RdG w B A E sz l):Reads w B sz A l.length (l.flatMap E):=
 ⟨aD8 E sz hE l,λhn=>by
  obtain⟨b,o,hA,hb,hc⟩:=h hn;refine⟨_,hA,hb,λj u hj=> ?_⟩;have hjl:j<l.length*sz:=by rw[<-aD8 E sz hE l];exact(IU.1 hj).1
  have hi:j/sz<l.length:=Nat.div_lt_of_lt_mul (by rw[Nat.mul_comm];exact hjl);have hm:=Nat.mod_lt j hz;have he:j/sz*sz+j%sz=j:=by rw[Nat.mul_comm];exact Nat.div_add_mod j sz
  have h1:=aS E sz hE l (j/sz) (j%sz) hi hm;rw[he,hj]at h1;have h2:=hc (j/sz) hi (j%sz) u h1.symm;rw[add_plain,<-he,<-Nat.add_assoc];exact h2⟩
theorem RdG.Pw{α:Type}{W:Al}{base cp:Nat}{A:Option EK}{t:E3}{E:α->List Bn}{sz:Nat}{l:List α}(hE:∀x,(E x).length=sz)(h:W.ownsRow base t sz (.slice A l.length cp) l.length (l.flatMap E)):RdG W W.heap.size A E sz l:=λhn=>by
 obtain⟨b,cap,hv,_,hlt⟩:=h.form hn;have hA:A=Ai ⟨b,0,Ag⟩:=by injection hv
 subst hA;refine⟨b,0,rfl,hlt,λi hi k u hk=> ?_⟩;have hks:k<sz:=by rw[<-hE l[i]];exact(IU.1 hk).1
 have c:=h.cells (g:=b) rfl (i*sz+k) u ((aS E sz hE l i k hi hks).trans hk);rw[add_plain]at c;rw[Nat.zero_add];simpa using c
abbrev aDT{α:Type}(e sz:Nat)(E:α->List Bn)(s:Sl α):jK:=⟨e,sz,s.val,s.l.length,s.l.flatMap E⟩
def aDr(e sz b:Nat):Prop:=(pG.info? e).bind (λi=>i.zero.map λz=>(i.size,i.bytes,z.cells.size))=Ai (sz,b,sz)
theorem aEc{e sz b:Nat}(h:(pG.info? e).bind (λi=>i.zero.map λz=>(i.size,i.bytes,z.cells.size))=Ai (sz,b,sz):=by kernel_rfl):aDr e sz b:=h
theorem aDr.parts{e sz b:Nat}(h:aDr e sz b):∃i z,pG.info? e=Ai i/\i.zero=Ai z/\i.size=sz/\i.bytes=b/\z.cells.size=sz:=by
 obtain⟨i,hi,h⟩:=Hg.1 h;obtain⟨z,hz,h⟩:=Option.map_eq_some_iff.1 h;simp only[Prod.mk.injEq]at h;exact⟨i,z,hi,hz,h.1,h.2.1,h.2.2⟩
theorem aD5{ops:Array Oper}{rest:List Oper}{o:Oper}{a:Act}{w:Al}{Q:Exit->Act->Al->Prop}(hgd:o.guard=Ag)(s x:Operand)(t:E3)
 (ho:o.op= .call {callee:= .builtin .append,args:= #[s,x],argTypes:= #[t,t]}) (e sz b:Nat) (ht:pG.underlying t=Ai (.slice e)) (hi:aDr e sz b) (hz:0<sz) (hb:b<=1000)
 (hs:a.eval s= .slice Ag 0 0) {A:Option EK} {m c:Nat} (news:List Bn) (hx:a.eval x= .slice A m c) (hr:Reads w w.heap.size sz A m news) (h1:∀u∈news,u.oneCell'=BR) (hm:m<=100000)
 (h:∀A' c' w',m<=c'->c'<=EW->w'.ownsRow w.heap.size e sz (.slice A' m c') m news->BD w.heap.size w w'->wpList pG ops Q rest (a.put o.dst (.slice A' m c')) w'):wpList pG ops Q (o :: rest) a w:=by
 obtain⟨i,z,g1,g2,g3,g4,g5⟩:=hi.parts;refine wpList_plain hgd λK hK=>uw w s x t ho w.heap.size e i z sz b ht g1 g2 g3 g4 g5 hz (.slice Ag 0 0) 0 [] hs (World.ownsRow_nil _ _ _ _) w.heap.size A m c news hx hr h1 (by unfold EW;omega) ?_ nL λv' w' ho hg _=> ?_
 .have:(0+m)*b<=100000*1000:=Nat.mul_le_mul oz hb
  omega
 .have dI:BD w.heap.size w w':=(Below.refl _ w).grown hg nL (λk hk=>by simp[Value.ownBlock]at hk)
  have ho2:w'.ownsRow w.heap.size e sz v' m news:=by simpa using ho
  obtain⟨A',c',rfl,k1,k2⟩:=bp ho2;exact hK _ _ (h A' c' w' k1 k2 ho2 dI)
def gu.cells(x:gu):List Value:= [.int .u8 x.op,.int .i64 x.a,.int .i64 x.b,.int .i64 x.d]
def cT.cells(x:cT):List Value:= [.string x.nm,.int .i64 x.pr,.int .i64 x.pe,.int .i64 x.li,x.code.val]
def gq.cells(x:gq):List Value:= [.string x.src.m,.string x.src.p,.string x.src.o,x.dst.val]
def iK.cells(x:iK):List Value:= [.string x.m,.string x.p,.int .u8 x.yV,.int .u8 x.lv,.int .u8 x.dd]
def lF.cells(x:lF):List Value:= [.string x.a,.int .i64 x.va,.string x.b,.int .i64 x.vb]
theorem aL7{w:Al}{B:Nat}{A:Option EK}{l:List Int}(h:fV w B A l):RdG w B A (λk:Int=> [GL .i64 k]) 1 l:=λhn=>by
 obtain⟨b,o,hA,hb,hc⟩:=h hn;exact⟨b,o,hA,hb,λi hi k u hk=>by
  cases k with
  | zero=>obtain rfl:=ES.inj hk;rw[Nat.mul_one];exact hc i hi
  | succ k=>cases hk⟩
theorem aL8(l:List Int):∀u∈l.flatMap (λk:Int=> [GL .i64 k]),u.oneCell'=true:=λu hu=>by
 obtain⟨x,_,hx⟩:=E6.1 hu;rw[List.mem_singleton.1 hx];rfl
theorem aIu(l:List Int)(A:Option EK)(c:Nat)(w:Al)(h:fV w w.heap.size A l)(hl:l.length<=100000):
 ET pG 289 #[.slice A l.length c] w λe w'=>∃s:Sl Int,e= .returned s.val/\s.l=l/\dA w' w.heap.size [aDT 3 1 (λk:Int=> [GL .i64 k]) s]/\BD w.heap.size w w':=by
 have Hr:=lz (RdG.reads (E:=(λk:Int=> [GL .i64 k])) (sz:=1) dz (λ_=>rfl) (aL7 h));clear h;go_enter func289,ntmps289;go_wp2_with (at_builtin;refine aD5 rfl _ _ 36 rfl 3 1 _ underlying36 (aEc:aDr 3 1 8) dz dz rfl _ rfl Hr.out (aL8 l) hl ?_);intro A' c' w2 k1 k2 ho hb;have HR:=lz (ai ho hb);clear ho hb;go_wp2;go_ret;exact⟨⟨A',c',l⟩,rfl,rfl,dA.one HR.out.1,HR.out.2⟩
theorem aL9{w:Al}{B:Nat}{A:Option EK}{l:List ByteArray}(h:iB w B A l):RdG w B A (λk:ByteArray=> [GI k]) 1 l:=λhn=>by
 obtain⟨b,o,hA,hb,hc⟩:=h hn;exact⟨b,o,hA,hb,λi hi k u hk=>by
  cases k with
  | zero=>obtain rfl:=ES.inj hk;rw[Nat.mul_one];exact hc i hi
  | succ k=>cases hk⟩
theorem aMA(l:List ByteArray):∀u∈l.flatMap (λk:ByteArray=> [GI k]),u.oneCell'=true:=λu hu=>by
 obtain⟨x,_,hx⟩:=E6.1 hu;rw[List.mem_singleton.1 hx];rfl
theorem aMk(l:List ByteArray)(A:Option EK)(c:Nat)(w:Al)(h:iB w w.heap.size A l)(hl:l.length<=100000):
 ET pG 193 #[.slice A l.length c] w λe w'=>∃s:Sl ByteArray,e= .returned s.val/\s.l=l/\dA w' w.heap.size [aDT 9 1 (λk:ByteArray=> [GI k]) s]/\BD w.heap.size w w':=by
 have Hr:=lz (RdG.reads (E:=(λk:ByteArray=> [GI k])) (sz:=1) dz (λ_=>rfl) (aL9 h));clear h;go_enter func193,ntmps193;go_wp2_with (at_builtin;refine aD5 rfl _ _ 81 rfl 9 1 _ underlying81 (aEc:aDr 9 1 16) dz dz rfl _ rfl Hr.out (aMA l) hl ?_);intro A' c' w2 k1 k2 ho hb;have HR:=lz (ai ho hb);clear ho hb;go_wp2;go_ret;exact⟨⟨A',c',l⟩,rfl,rfl,dA.one HR.out.1,HR.out.2⟩
theorem aMB{w:Al}{B:Nat}{A:Option EK}{l:List gu}(h:ku w B A l):RdG w B A gu.cells 4 l:=λhn=>by
 obtain⟨b,o,hA,hb,hc⟩:=h hn;refine⟨b,o,hA,hb,λi hi k u hk=> ?_⟩;obtain⟨c0,c1,c2,c3,-⟩:=hc i hi
 match k,hk with
 | 0,hk=>obtain rfl:=ES.inj hk;exact c0
 | 1,hk=>obtain rfl:=ES.inj hk;exact c1
 | 2,hk=>obtain rfl:=ES.inj hk;exact c2
 | 3,hk=>obtain rfl:=ES.inj hk;exact c3
 | k+4,hk=>cases hk
theorem aMD(l:List gu):∀u∈l.flatMap gu.cells,u.oneCell'=true:=λu hu=>by
 obtain⟨x,_,hx⟩:=E6.1 hu;simp only[gu.cells,BU,Fc,or_false]at hx;rcases hx with rfl | rfl | rfl | rfl<;>rfl
theorem aMl(l:List gu)(A:Option EK)(c:Nat)(w:Al)(h:ku w w.heap.size A l)(hl:l.length<=100000):
 ET pG 325 #[.slice A l.length c] w λe w'=>∃s:Sl gu,e= .returned s.val/\s.l=l/\dA w' w.heap.size [aDT 169 4 gu.cells s]/\BD w.heap.size w w':=by
 have Hr:=lz (RdG.reads (E:=gu.cells) (sz:=4) dz (λ_=>rfl) (aMB h));clear h;go_enter func325,ntmps325;go_wp2_with (at_builtin;refine aD5 rfl _ _ 74 rfl 169 4 _ underlying74 (aEc:aDr 169 4 32) dz dz rfl _ rfl Hr.out (aMD l) hl ?_);intro A' c' w2 k1 k2 ho hb;have HR:=lz (ai ho hb);clear ho hb;go_wp2;go_ret;exact⟨⟨A',c',l⟩,rfl,rfl,dA.one HR.out.1,HR.out.2⟩
theorem aMI{w:Al}{B:Nat}{A:Option EK}{l:List bw}(h:jo w B A l):RdG w B A bw.cells 3 l:=λhn=>by
 obtain⟨b,o,hA,hb,hc⟩:=h hn;refine⟨b,o,hA,hb,λi hi k u hk=> ?_⟩;obtain⟨c0,c1,c2⟩:=hc i hi
 match k,hk with
 | 0,hk=>obtain rfl:=ES.inj hk;exact c0
 | 1,hk=>obtain rfl:=ES.inj hk;exact c1
 | 2,hk=>obtain rfl:=ES.inj hk;exact c2
 | k+3,hk=>cases hk
theorem aH9(l:List bw):∀u∈l.flatMap bw.cells,u.oneCell'=true:=λu hu=>by
 obtain⟨x,_,hx⟩:=E6.1 hu;simp only[bw.cells,BU,Fc,or_false]at hx;rcases hx with rfl | rfl | rfl<;>rfl
theorem aIv(l:List bw)(A:Option EK)(c:Nat)(w:Al)(h:jo w w.heap.size A l)(hl:l.length<=100000):
 ET pG 191 #[.slice A l.length c] w λe w'=>∃s:Sl bw,e= .returned s.val/\s.l=l/\dA w' w.heap.size [aDT 41 3 bw.cells s]/\BD w.heap.size w w':=by
 have Hr:=lz (RdG.reads (E:=bw.cells) (sz:=3) dz (λ_=>rfl) (aMI h));clear h;go_enter func191,ntmps191;go_wp2_with (at_builtin;refine aD5 rfl _ _ 42 rfl 41 3 _ underlying42 (aEc:aDr 41 3 48) dz dz rfl _ rfl Hr.out (aH9 l) hl ?_);intro A' c' w2 k1 k2 ho hb;have HR:=lz (ai ho hb);clear ho hb;go_wp2;go_ret;exact⟨⟨A',c',l⟩,rfl,rfl,dA.one HR.out.1,HR.out.2⟩
theorem aI3{w:Al}{B:Nat}{A:Option EK}{l:List aM}(h:fu w B A l):RdG w B A aM.cells 6 l:=λhn=>by
 obtain⟨b,o,hA,hb,hc⟩:=h hn;refine⟨b,o,hA,hb,λi hi k u hk=> ?_⟩;obtain⟨c0,c1,c2,c3,c4,c5,-⟩:=hc i hi
 match k,hk with
 | 0,hk=>obtain rfl:=ES.inj hk;exact c0
 | 1,hk=>obtain rfl:=ES.inj hk;exact c1
 | 2,hk=>obtain rfl:=ES.inj hk;exact c2
 | 3,hk=>obtain rfl:=ES.inj hk;exact c3
 | 4,hk=>obtain rfl:=ES.inj hk;exact c4
 | 5,hk=>obtain rfl:=ES.inj hk;exact c5
 | k+6,hk=>cases hk
theorem aI4(l:List aM):∀u∈l.flatMap aM.cells,u.oneCell'=true:=λu hu=>by
 obtain⟨x,_,hx⟩:=E6.1 hu;simp only[aM.cells,BU,Fc,or_false]at hx;rcases hx with rfl | rfl | rfl | rfl | rfl | rfl<;>rfl
theorem aMK(l:List aM)(A:Option EK)(c:Nat)(w:Al)(h:fu w w.heap.size A l)(hl:l.length<=100000):
 ET pG 290 #[.slice A l.length c] w λe w'=>∃s:Sl aM,e= .returned s.val/\s.l=l/\dA w' w.heap.size [aDT 73 6 aM.cells s]/\BD w.heap.size w w':=by
 have Hr:=lz (RdG.reads (E:=aM.cells) (sz:=6) dz (λ_=>rfl) (aI3 h));clear h;go_enter func290,ntmps290;go_wp2_with (at_builtin;refine aD5 rfl _ _ 68 rfl 73 6 _ underlying68 (aEc:aDr 73 6 48) dz dz rfl _ rfl Hr.out (aI4 l) hl ?_);intro A' c' w2 k1 k2 ho hb;have HR:=lz (ai ho hb);clear ho hb;go_wp2;go_ret;exact⟨⟨A',c',l⟩,rfl,rfl,dA.one HR.out.1,HR.out.2⟩
theorem aHi{w:Al}{B:Nat}{A:Option EK}{l:List iI}(h:dL w B A l):RdG w B A iI.cells 4 l:=λhn=>by
 obtain⟨b,o,hA,hb,hc⟩:=h hn;refine⟨b,o,hA,hb,λi hi k u hk=> ?_⟩;obtain⟨c0,c1,c2,c3⟩:=hc i hi
 match k,hk with
 | 0,hk=>obtain rfl:=ES.inj hk;exact c0
 | 1,hk=>obtain rfl:=ES.inj hk;exact c1
 | 2,hk=>obtain rfl:=ES.inj hk;exact c2
 | 3,hk=>obtain rfl:=ES.inj hk;exact c3
 | k+4,hk=>cases hk
theorem aHj(l:List iI):∀u∈l.flatMap iI.cells,u.oneCell'=true:=λu hu=>by
 obtain⟨x,_,hx⟩:=E6.1 hu;simp only[iI.cells,BU,Fc,or_false]at hx;rcases hx with rfl | rfl | rfl | rfl<;>rfl
theorem aIC(l:List iI)(A:Option EK)(c:Nat)(w:Al)(h:dL w w.heap.size A l)(hl:l.length<=100000):
 ET pG 44 #[.slice A l.length c] w λe w'=>∃s:Sl iI,e= .returned s.val/\s.l=l/\dA w' w.heap.size [aDT 87 4 iI.cells s]/\BD w.heap.size w w':=by
 have Hr:=lz (RdG.reads (E:=iI.cells) (sz:=4) dz (λ_=>rfl) (aHi h));clear h;go_enter func44,ntmps44;go_wp2_with (at_builtin;refine aD5 rfl _ _ 24 rfl 87 4 _ underlying24 (aEc:aDr 87 4 40) dz dz rfl _ rfl Hr.out (aHj l) hl ?_);intro A' c' w2 k1 k2 ho hb;have HR:=lz (ai ho hb);clear ho hb;go_wp2;go_ret;exact⟨⟨A',c',l⟩,rfl,rfl,dA.one HR.out.1,HR.out.2⟩
theorem aFR{w:Al}{B:Nat}{A:Option EK}{l:List aO}(h:fZ w B A l):RdG w B A aO.cells 4 l:=λhn=>by
 obtain⟨b,o,hA,hb,hc⟩:=h hn;refine⟨b,o,hA,hb,λi hi k u hk=> ?_⟩;obtain⟨c0,c1,c2,c3⟩:=hc i hi
 match k,hk with
 | 0,hk=>obtain rfl:=ES.inj hk;exact c0
 | 1,hk=>obtain rfl:=ES.inj hk;exact c1
 | 2,hk=>obtain rfl:=ES.inj hk;exact c2
 | 3,hk=>obtain rfl:=ES.inj hk;exact c3
 | k+4,hk=>cases hk
theorem aFC(l:List aO):∀u∈l.flatMap aO.cells,u.oneCell'=true:=λu hu=>by
 obtain⟨x,_,hx⟩:=E6.1 hu;simp only[aO.cells,BU,Fc,or_false]at hx;rcases hx with rfl | rfl | rfl | rfl<;>rfl
theorem aML(l:List aO)(A:Option EK)(c:Nat)(w:Al)(h:fZ w w.heap.size A l)(hl:l.length<=100000):
 ET pG 45 #[.slice A l.length c] w λe w'=>∃s:Sl aO,e= .returned s.val/\s.l=l/\dA w' w.heap.size [aDT 46 4 aO.cells s]/\BD w.heap.size w w':=by
 have Hr:=lz (RdG.reads (E:=aO.cells) (sz:=4) dz (λ_=>rfl) (aFR h));clear h;go_enter func45,ntmps45;go_wp2_with (at_builtin;refine aD5 rfl _ _ 25 rfl 46 4 _ underlying25 (aEc:aDr 46 4 48) dz dz rfl _ rfl Hr.out (aFC l) hl ?_);intro A' c' w2 k1 k2 ho hb;have HR:=lz (ai ho hb);clear ho hb;go_wp2;go_ret;exact⟨⟨A',c',l⟩,rfl,rfl,dA.one HR.out.1,HR.out.2⟩
theorem aHk{w:Al}{B:Nat}{A:Option EK}{l:List iK}(h:fA w B A l):RdG w B A iK.cells 5 l:=λhn=>by
 obtain⟨b,o,hA,hb,hc⟩:=h hn;refine⟨b,o,hA,hb,λi hi k u hk=> ?_⟩;obtain⟨c0,c1,c2,c3,c4,-⟩:=hc i hi
 match k,hk with
 | 0,hk=>obtain rfl:=ES.inj hk;exact c0
 | 1,hk=>obtain rfl:=ES.inj hk;exact c1
 | 2,hk=>obtain rfl:=ES.inj hk;exact c2
 | 3,hk=>obtain rfl:=ES.inj hk;exact c3
 | 4,hk=>obtain rfl:=ES.inj hk;exact c4
 | k+5,hk=>cases hk
theorem aHl(l:List iK):∀u∈l.flatMap iK.cells,u.oneCell'=true:=λu hu=>by
 obtain⟨x,_,hx⟩:=E6.1 hu;simp only[iK.cells,BU,Fc,or_false]at hx;rcases hx with rfl | rfl | rfl | rfl | rfl<;>rfl
theorem aIE(l:List iK)(A:Option EK)(c:Nat)(w:Al)(h:fA w w.heap.size A l)(hl:l.length<=100000):
 ET pG 47 #[.slice A l.length c] w λe w'=>∃s:Sl iK,e= .returned s.val/\s.l=l/\dA w' w.heap.size [aDT 89 5 iK.cells s]/\BD w.heap.size w w':=by
 have Hr:=lz (RdG.reads (E:=iK.cells) (sz:=5) dz (λ_=>rfl) (aHk h));clear h;go_enter func47,ntmps47;go_wp2_with (at_builtin;refine aD5 rfl _ _ 27 rfl 89 5 _ underlying27 (aEc:aDr 89 5 40) dz dz rfl _ rfl Hr.out (aHl l) hl ?_);intro A' c' w2 k1 k2 ho hb;have HR:=lz (ai ho hb);clear ho hb;go_wp2;go_ret;exact⟨⟨A',c',l⟩,rfl,rfl,dA.one HR.out.1,HR.out.2⟩
theorem aHU{w:Al}{B:Nat}{A:Option EK}{l:List lF}(h:dS w B A l):RdG w B A lF.cells 4 l:=λhn=>by
 obtain⟨b,o,hA,hb,hc⟩:=h hn;refine⟨b,o,hA,hb,λi hi k u hk=> ?_⟩;obtain⟨c0,c1,c2,c3⟩:=hc i hi
 match k,hk with
 | 0,hk=>obtain rfl:=ES.inj hk;exact c0
 | 1,hk=>obtain rfl:=ES.inj hk;exact c1
 | 2,hk=>obtain rfl:=ES.inj hk;exact c2
 | 3,hk=>obtain rfl:=ES.inj hk;exact c3
 | k+4,hk=>cases hk
theorem aHV(l:List lF):∀u∈l.flatMap lF.cells,u.oneCell'=true:=λu hu=>by
 obtain⟨x,_,hx⟩:=E6.1 hu;simp only[lF.cells,BU,Fc,or_false]at hx;rcases hx with rfl | rfl | rfl | rfl<;>rfl
theorem aHm(l:List lF)(A:Option EK)(c:Nat)(w:Al)(h:dS w w.heap.size A l)(hl:l.length<=100000):
 ET pG 49 #[.slice A l.length c] w λe w'=>∃s:Sl lF,e= .returned s.val/\s.l=l/\dA w' w.heap.size [aDT 91 4 lF.cells s]/\BD w.heap.size w w':=by
 have Hr:=lz (RdG.reads (E:=lF.cells) (sz:=4) dz (λ_=>rfl) (aHU h));clear h;go_enter func49,ntmps49;go_wp2_with (at_builtin;refine aD5 rfl _ _ 29 rfl 91 4 _ underlying29 (aEc:aDr 91 4 48) dz dz rfl _ rfl Hr.out (aHV l) hl ?_);intro A' c' w2 k1 k2 ho hb;have HR:=lz (ai ho hb);clear ho hb;go_wp2;go_ret;exact⟨⟨A',c',l⟩,rfl,rfl,dA.one HR.out.1,HR.out.2⟩
theorem aHn{w:Al}{B:Nat}{A:Option EK}{l:List jI}(h:jE w B A l):RdG w B A jI.cells 2 l:=λhn=>by
 obtain⟨b,o,hA,hb,hc⟩:=h hn;refine⟨b,o,hA,hb,λi hi k u hk=> ?_⟩;obtain⟨c0,c1⟩:=hc i hi
 match k,hk with
 | 0,hk=>obtain rfl:=ES.inj hk;exact c0
 | 1,hk=>obtain rfl:=ES.inj hk;exact c1
 | k+2,hk=>cases hk
theorem aHo(l:List jI):∀u∈l.flatMap jI.cells,u.oneCell'=true:=λu hu=>by
 obtain⟨x,_,hx⟩:=E6.1 hu;simp only[jI.cells,BU,Fc,or_false]at hx;rcases hx with rfl | rfl<;>rfl
theorem aIF(l:List jI)(A:Option EK)(c:Nat)(w:Al)(h:jE w w.heap.size A l)(hl:l.length<=100000):
 ET pG 192 #[.slice A l.length c] w λe w'=>∃s:Sl jI,e= .returned s.val/\s.l=l/\dA w' w.heap.size [aDT 85 2 jI.cells s]/\BD w.heap.size w w':=by
 have Hr:=lz (RdG.reads (E:=jI.cells) (sz:=2) dz (λ_=>rfl) (aHn h));clear h;go_enter func192,ntmps192;go_wp2_with (at_builtin;refine aD5 rfl _ _ 80 rfl 85 2 _ underlying80 (aEc:aDr 85 2 24) dz dz rfl _ rfl Hr.out (aHo l) hl ?_);intro A' c' w2 k1 k2 ho hb;have HR:=lz (ai ho hb);clear ho hb;go_wp2;go_ret;exact⟨⟨A',c',l⟩,rfl,rfl,dA.one HR.out.1,HR.out.2⟩
section
variable {α β:Type} {w0 w W W':Al} {base b1 b2:Nat} {e:E3} {cs zs:Array Bn} {Q R:List jK}
structure EcS(w0 W:Al)(base b1:Nat)(e:E3)(cs:Array Bn)(b2:Nat)(zs:Array Bn)(Q:List jK):Prop where
 box:ah W b1 e cs
 res:ah W b2 e zs
 own:dA W base Q
 lE:BD base w0 W
 sz:base<=W.heap.size
 h1:base<=b1
 h2:b1<b2
 ty:∀r∈Q,r.t≠e
theorem EcS.start(w:Al)(e:E3)(cs zs:Array Bn):EcS w ((w.alloc (.cells cs e)).alloc (.cells zs e)) w.heap.size w.heap.size e cs (w.heap.size+1) zs []:=
 ⟨(ah.new w e cs).alloc _,by have:=ah.new (w.alloc (.cells cs e)) e zs;rwa[World.size_alloc]at this,dA.nil,(bN).alloc qz _,qo,nL,Nat.lt_succ_self _,λr hr=>by cases hr⟩
theorem EcS.call(h:EcS w0 W base b1 e cs b2 zs Q)(hb:BD W.heap.size W W')(hR:dA W' W.heap.size R)(ht:∀r∈R,r.t≠e):EcS w0 W' base b1 e cs b2 zs (Q++R):=
 ⟨h.box.below hb h.box.lt,h.res.below hb h.res.lt,(h.own.below hb).app (hR.aMM h.sz),h.lE.trans (hb.mono h.sz),nT h.sz hb.size,h.h1,h.h2,λr hr=>(E2.1 hr).elim (h.ty r) (ht r)⟩
theorem EcS.set(h:EcS w0 W base b1 e cs b2 zs Q)(i:Nat)(v:Bn):EcS w0 (W.setCell ⟨b1,i,Ag⟩ v) base b1 e (cs.setIfInBounds i v) b2 zs Q:=
 ⟨h.box.bX i v,Gr.blk (X:=(· =b1)) (Gr.setCell _ _ _ rfl) h.res (λe=>by have:=h.h2;omega),h.own.set h.box h.ty v,h.lE.setCell h.h1 _,by simpa [World.setCell]using h.sz,h.h1,h.h2,h.ty⟩
theorem EcS.put(h:EcS w0 W base b1 e cs b2 zs Q)(i:Nat)(v:Bn):EcS w0 (W.setCell ⟨b2,i,Ag⟩ v) base b1 e cs b2 (zs.setIfInBounds i v) Q:=
 ⟨Gr.blk (X:=(· =b2)) (Gr.setCell _ _ _ rfl) h.box (λe=>by have:=h.h2;omega),h.res.bX i v,h.own.set h.res h.ty v,h.lE.setCell (nT h.h1 (Nat.le_of_lt h.h2)) _,by simpa [World.setCell]using h.sz,h.h1,h.h2,h.ty⟩
theorem EcS.nm(h:EcS w0 W base b1 e cs b2 zs Q):∃W',W'=W/\EcS w0 W' base b1 e cs b2 zs Q:=⟨W,rfl,h⟩
def Cel(W:Al)(b:Nat)(cs:Array Bn):List Nat->Prop
 | []=>True
 | i :: l=>W.cell? ⟨b,i,Ag⟩=cs[i]?/\Cel W b cs l
theorem ah.many(h:ah W b1 e cs):∀l,Cel W b1 cs l
 | []=>trivial
 | i :: l=>⟨h.cell i,h.many l⟩
def Tri(W:Al)(b1:Nat)(cs:Array Bn)(b2:Nat)(zs:Array Bn):List Nat->Prop
 | []=>True
 | i :: l=>(W.cell? ⟨b1,i,Ag⟩=cs[i]?/\W.cell? ⟨b2,i,Ag⟩=zs[i]?/\W.frozen? ⟨b2,i,Ag⟩=false)/\Tri W b1 cs b2 zs l
theorem EcS.tri(h:EcS w0 W base b1 e cs b2 zs Q):∀l,Tri W b1 cs b2 zs l
 | []=>trivial
 | i :: l=>⟨⟨h.box.cell i,h.res.cell i,h.res.frozen i⟩,h.tri l⟩
theorem nbx(W:Al)(e:E3)(cs:Array Bn)(l:List Nat):∃W',W'=W.alloc (.cells cs e)/\BD W.heap.size W W'/\Cel (W.alloc (.cells cs e)) W.heap.size cs l:=⟨_,rfl,bN,(ah.new W e cs).many l⟩
structure CpS(E:α->List Bn)(e sz:Nat)(rows:α->List jK)(er:α->β)(w0 W:Al)(l:List α)(s:Sl α):Prop where
 er:s.l.map er=l.map er
 own:dA W w0.heap.size (aDT e sz E s :: s.l.flatMap rows)
 lE:BD w0.heap.size w0 W
theorem CpS.start(E:α->List Bn)(e sz:Nat)(rows:α->List jK)(er:α->β)(w:Al):CpS E e sz rows er w w [] ⟨Ag,0,[]⟩:=
 ⟨rfl,dA.one (World.ownsRow_nil _ _ _ _),Below.refl _ _⟩
theorem CpS.ext{E:α->List Bn}{sz:Nat}{rows:α->List jK}{er:α->β}{l:List α}{s:Sl α}{W2 W3:Al}(h:CpS E e sz rows er w0 W l s)(hb:BD W.heap.size W W2)(hc:BD W2.heap.size W2 W3):CpS E e sz rows er w0 W3 l s:=
 ⟨h.er,(h.own.below hb).below hc,(h.lE.trans (hb.mono h.lE.size)).trans (hc.mono (nT h.lE.size hb.size))⟩
theorem aF3{E:α->List Bn}{sz:Nat}{rows:α->List jK}{er:α->β}{l:List α}{ops:Array Oper}{rest:List Oper}{o:Oper}{a:Act}{Q:Exit->Act->Al->Prop}(hgd:o.guard=Ag)(s x:Operand)(t:E3)
 (ho:o.op= .call {callee:= .builtin .append,args:= #[s,x],argTypes:= #[t,t]}) (e b:Nat) (ht:pG.underlying t=Ai (.slice e)) (hi:aDr e sz b) (hz:0<sz) (hb:b<=1000)
 {S:Sl α} (hS:CpS E e sz rows er w0 w l S) {y y0:α} (hW:W=w.alloc (.cells (E y).toArray e)) (hs:a.eval s=S.val) {g:Nat} (hg0:g=w.heap.size) (hx:a.eval x= .slice (Ai ⟨g,0,Ag⟩) 1 1) (hE:∀z,(E z).length=sz) (Vj:∀z,∀u∈E z,u.oneCell'=BR) (hne:∀z,∀r∈rows z,r.t≠e)
 (hy:dA w w0.heap.size (rows y)) (her:er y=er y0) (hl:l.length<=100000)
 (h:∀(S':Sl α) w',CpS E e sz rows er w0 w' (l++ [y0]) S'->wpList pG ops Q rest (a.put o.dst S'.val) w'):wpList pG ops Q (o :: rest) a W:=by
 obtain⟨i,z,g1,g2,g3,g4,g5⟩:=hi.parts;subst hg0;have Qc:S.l.length=l.length:=by have:=congrArg List.length hS.er;simpa using this
 have hB:BD w.heap.size w W:=by rw[hW];exact bN
 have DH:ah W w.heap.size e (E y).toArray:=by rw[hW];exact ah.new w _ _
 have hQ:=hS.own.below hB;have KT:=hy.below hB;have iO:=hQ _ (BS ..);refine wpList_plain hgd λK hK=>uw W s x t ho w0.heap.size e i z sz b ht g1 g2 g3 g4 g5 hz S.val S.l.length (S.l.flatMap E) hs iO W.heap.size (Ai ⟨w.heap.size,0,Ag⟩) 1 1 (E y) hx ⟨by rw[hE];omega,λ_=>⟨_,rfl,DH.lt,λj u hj=> ?_⟩⟩ (Vj y) (by unfold EW;omega) ?_ (nT hS.lE.size hB.size) λv' w' hown hg _=> ?_
 .rw[add_plain,Nat.zero_add,DH.cell j];simpa using hj
 .have:(S.l.length+1)*b<=100001*1000:=Nat.mul_le_mul oz hb
  omega
 .obtain⟨A',c',rfl,k1,k2⟩:=bp hown
  have aJ:dA w' w0.heap.size (S.l.flatMap rows++rows y):=by
   refine(dA.app (λr hr=>hQ r (EX _ hr)) KT).grown hg iO λr hr=> ?_
   rcases E2.1 hr with hr | hr
   .obtain⟨q,_,hr⟩:=E6.1 hr
    exact hne q r hr
   .exact hne y r hr
  have Cb:(S.l++ [y]).length=S.l.length+1:=by simp
  rw[<-Cb];refine hK _ _ (h ⟨A',c',S.l++ [y]⟩ w' ⟨by simp[hS.er,her],?_,(hS.lE.trans (hB.mono hS.lE.size)).grown hg (nT hS.lE.size hB.size) λj e=>(iO.lt j e).1⟩);intro r hr;rcases BU.1 hr with rfl | hr
  .show w'.ownsRow w0.heap.size e sz (.slice A' (S.l++ [y]).length c') (S.l++ [y]).length ((S.l++ [y]).flatMap E)
   rw[Cb,Ig];simpa using hown
  .exact aJ r (by simpa [Ig]using hr)
end
theorem aE4{Q:List jK}{r:jK}(hr:r∈Q):r.t∈Q.map (·.t):=GR.2 ⟨r,hr,rfl⟩
theorem aMO{α:Type}{l:List α}{f:α->List jK}{T:List Nat}(h:∀y,∀r∈f y,r.t∈T){r:jK}(hr:r∈l.flatMap f):r.t∈T:=by
 obtain⟨y,_,hy⟩:=E6.1 hr;exact h y r hy
theorem aFN{T:List Nat}:∀r∈([]:List jK),r.t∈T:=λr h=>by cases h
theorem aDk{P Q:List jK}{T:List Nat}(h:∀r∈P,r.t∈T)(k:∀r∈Q,r.t∈T):∀r∈P++Q,r.t∈T:=λr hr=>(E2.1 hr).elim (h r) (k r)
theorem aDm{Q:List jK}{T U:List Nat}(h:∀r∈Q,r.t∈T)(hs:∀t∈T,t∈U):∀r∈Q,r.t∈U:=λr hr=>hs _ (h r hr)
theorem aDn(e:Nat){r0:jK}(he:r0.t=e):∀r∈ [r0],r.t∈ [e]:=λr hr=>by rw[List.mem_singleton.1 hr,he];exact BS ..
theorem aD4{α:Type}{e sz:Nat}{E:α->List Bn}{s:Sl α}{f:α->List jK}{T:List Nat}(h:∀y,∀r∈f y,r.t∈T):∀r∈aDT e sz E s :: s.l.flatMap f,r.t∈e :: T:=λr hr=>
 (BU.1 hr).elim (λe=>by rw[e];exact BS ..) λhr=>EX _ (aMO h hr)
theorem aC3{T:List Nat}{n e:Nat}(h:n∈T)(he:e∉T):n≠e:=λc=>he (c▸h)
def cT.fq(x:cT):List jK:=([]++ [aDT 169 4 gu.cells x.code])
def cT.er(x:cT):cT:={x with code:=⟨Ag,0,x.code.l⟩}
def cT.small(x:cT):Prop:=x.code.l.length<=100000
theorem aGs(x:cT):∀r∈x.fq,r.t∈([169]:List Nat):=aDk (aFN) (aDm (aDn 169 rfl) dz)
theorem aI5(x:cT)(w:Al)(hr:x.rd w w.heap.size)(hs:x.small):ET pG 309 #[x.val] w λe w'=>∃x':cT,e= .returned x'.val/\x'.er=x.er/\dA w' w.heap.size x'.fq/\BD w.heap.size w w':=by
 obtain⟨w1,cN,h1⟩:=(EcS.start w 76 #[.string x.nm,.int .i64 x.pr,.int .i64 x.pe,.int .i64 x.li,.slice x.code.a x.code.l.length x.code.c] #[.string ⟨#[]⟩,.int .i64 0,.int .i64 0,.int .i64 0,.slice Ag 0 0]).nm;have lH:=lz cN;have Hr:=lz hr;have Hs:=lz hs;have H1:=lz h1;have c0:=h1.box.cell 4;clear cN hr hs h1;go_enter func309,ntmps309;rw[lH.out]at c0;go_wp2_with fail;rw[<-lH.out];clear c0;refine(aMl x.code.l x.code.a x.code.c w1 (Hr.out.code.below H1.out.lE) Hs.out).mono ?_;rintro e v1 ⟨s0,rfl,l0,ha,hb⟩;have L0:=lz l0;have g:=H1.out.call hb ha (λr hr=>aC3 (T:= [169]) (aE4 hr) dz);have f0:=g.box.frozen 4;have d0:=g.box.cell 4;have q:=g.set 4 s0.val;simp only[Dk,EP,ER]at q;obtain⟨⟨n0,r0,k0⟩,⟨n1,r1,k1⟩,⟨n2,r2,k2⟩,⟨n3,r3,k3⟩,⟨n4,r4,k4⟩,-⟩:=q.tri [0,1,2,3,4];obtain⟨wz,hwz,hF⟩:=(((((q.put 0 (.string x.nm)).put 1 (.int .i64 x.pr)).put 2 (.int .i64 x.pe)).put 3 (.int .i64 x.li)).put 4 (.slice s0.a s0.l.length s0.c)).nm;have hR:=hF.res;simp only[Dk,EP,ER]at hR;obtain⟨z0,z1,z2,z3,z4,-⟩:=hR.many [0,1,2,3,4];have HF:=lz (ai hF.own hF.lE);have Hwz:=lz hwz;clear g q ha hb l0 hF hwz hR;go_wp2_with fail;rw[<-Hwz.out];refine GJ (v:= .agg #[.string x.nm,.int .i64 x.pr,.int .i64 x.pe,.int .i64 x.li,.slice s0.a s0.l.length s0.c]) (by simp[results,results309,go_sem,z0,z1,z2,z3,z4]) rfl ?_;exact⟨⟨x.nm,x.pr,x.pe,x.li,s0⟩,rfl,by simp only[cT.er,L0.out],HF.out.1,HF.out.2⟩
theorem aI7(x:cT):∀u∈x.cells,u.oneCell'=true:=λu hu=>by
 simp only[cT.cells,BU,Fc,or_false]at hu;rcases hu with rfl | rfl | rfl | rfl | rfl<;>rfl
theorem aJB(l:List cT)(A:Option EK)(c:Nat)(w:Al)(h:gI w w.heap.size A l)(hl:l.length<=100000)(hs:∀x∈l,x.small):
 ET pG 291 #[.slice A l.length c] w λe w'=>∃s:Sl cT,e= .returned s.val/\s.l.map cT.er=l.map cT.er/\dA w' w.heap.size (aDT 76 5 cT.cells s :: s.l.flatMap cT.fq)/\BD w.heap.size w w':=by
 have H:=lz h;have Hs:=lz hs;clear h hs;go_enter func291,ntmps291;go_wp2;go_loopw [3,4] (λv t wr=>∃(k:Nat) (s:Sl cT),k<=l.length/\t= .int .i64 k/\v=s.val/\CpS cT.cells 76 5 cT.fq cT.er w wr (l.take k) s) (λ_ t wr=>l.length-(E8 t).toNat)
 case atStart=>exact⟨0,⟨Ag,0,[]⟩,nZ,rfl,rfl,CpS.start _ _ _ _ _ w⟩
 case round=>
  obtain⟨k,s,hk,rfl,rfl,hS⟩:=hrel;by_cases hlt:k<l.length
  .obtain⟨bo,oo,rfl,hb,hc⟩:=(H.out.keep hS.lE) oz
   obtain⟨d0,d1,d2,d3,d4,hx⟩:=hc k hlt;obtain⟨x,hxe⟩:=ez (l[k]);rw[<-hxe]at d0 d1 d2 d3 d4 hx;have WY:l.take (k+1)=l.take k++ [x]:=by rw[hxe];exact Dl hlt
   have KQ:=aI5 x wr (hx.more hS.lE.size) (Hs.out x (by rw[hxe];exact CS hlt));have Xy:=lz KQ;have HS:=lz hS;have Htk:=lz WY;have hki:(k:Int)<(l.length:Int):=by omega
   clear hc hx KQ hS WY hxe;go_wp2_with fail;refine Xy.out.mono ?_;rintro e W2 ⟨x',rfl,her,iO,dI⟩;obtain⟨W3,Bv,Pn,m0,m1,m2,m3,m4,-⟩:=nbx W2 76 #[.string x'.nm,.int .i64 x'.pr,.int .i64 x'.pe,.int .i64 x'.li,.slice x'.code.a x'.code.l.length x'.code.c] [0,1,2,3,4];have pP:=lz (HS.out.ext dI Pn);have HR3:=lz ((iO.aMM HS.out.lE.size).below Pn);have yY:=lz Bv;have Her:=lz her;clear her iO dI Pn Bv HS Xy;go_wp2_with (at_builtin;rw[<-yY.out];go_loud (refine aF3 rfl _ _ 69 rfl 76 _ underlying69 (aEc:aDr 76 5 64) dz dz pP.out (y:=x') rfl rfl (by rw[yY.out];simp) rfl (λ_=>rfl) aI7 (λz r hr=>aC3 (aGs z r hr) dz) HR3.out Her.out (by rw[GW];omega) ?_));intro s' W5 CF;rw[<-Htk.out]at CF;have qu:=lz CF;clear CF;go_wp2;go_roundw
   case rel=>exact⟨k+1,s',oz,by go_num,rfl,qu.out⟩
   case measure=>simp[E8];omega
  .obtain rfl:k=l.length:=by omega
   rw[GS]at hS;have HS:=lz hS;clear hS;go_wp2;go_ret;exact⟨s,rfl,HS.out.er,HS.out.own,HS.out.lE⟩
def aC.fq(x:aC):List jK:=(((([]++ [aDT 3 1 (λk:Int=> [GL .i64 k]) x.aG])++ [aDT 3 1 (λk:Int=> [GL .i64 k]) x.aX])++ [aDT 73 6 aM.cells x.aq])++(aDT 76 5 cT.cells x.procs :: x.procs.l.flatMap cT.fq))
def aC.er(x:aC):aC:={x with aG:=⟨Ag,0,x.aG.l⟩,aX:=⟨Ag,0,x.aX.l⟩,aq:=⟨Ag,0,x.aq.l⟩,procs:=⟨Ag,0,x.procs.l.map cT.er⟩}
def aC.small(x:aC):Prop:=x.aG.l.length<=100000/\x.aX.l.length<=100000/\x.aq.l.length<=100000/\x.procs.l.length<=100000/\(∀y∈x.procs.l,y.small)
theorem aGu(x:aC):∀r∈x.fq,r.t∈([3,73,76,169]:List Nat):=aDk (aDk (aDk (aDk (aFN) (aDm (aDn 3 rfl) dz)) (aDm (aDn 3 rfl) dz)) (aDm (aDn 73 rfl) dz)) (aDm (aD4 aGs) dz)
theorem aJG(x:aC)(w:Al)(hr:x.rd w w.heap.size)(hs:x.small):ET pG 252 #[x.val] w λe w'=>∃x':aC,e= .returned x'.val/\x'.er=x.er/\dA w' w.heap.size x'.fq/\BD w.heap.size w w':=by
 obtain⟨w1,cN,h1⟩:=(EcS.start w 71 #[.string x.nm,.int .i64 x.pe,.int .i64 x.le,.int .i64 x.mem,.slice x.aG.a x.aG.l.length x.aG.c,.int .i64 x.ev,.int .i64 x.bo,.slice x.aX.a x.aX.l.length x.aX.c,.slice x.aq.a x.aq.l.length x.aq.c,.slice x.procs.a x.procs.l.length x.procs.c] #[.string ⟨#[]⟩,.int .i64 0,.int .i64 0,.int .i64 0,.slice Ag 0 0,.int .i64 0,.int .i64 0,.slice Ag 0 0,.slice Ag 0 0,.slice Ag 0 0]).nm;have lH:=lz cN;have Hr:=lz hr;have Hs:=lz hs;have H1:=lz h1;have c0:=h1.box.cell 4;clear cN hr hs h1;go_enter func252,ntmps252;rw[lH.out]at c0;go_wp2_with fail;rw[<-lH.out];clear c0;refine(aIu x.aG.l x.aG.a x.aG.c w1 (Hr.out.aG.below H1.out.lE) Hs.out.1).mono ?_;rintro e v1 ⟨s0,rfl,l0,ha,hb⟩;have L0:=lz l0;have g:=H1.out.call hb ha (λr hr=>aC3 (T:= [3]) (aE4 hr) dz);have f0:=g.box.frozen 4;have d0:=g.box.cell 4;have q:=g.set 4 s0.val;simp only[Dk,EP,ER]at q;have c0:=q.box.cell 7;obtain⟨w2,hw2,h2⟩:=q.nm;have Hw2:=lz hw2;have H2:=lz h2;clear g q ha hb l0 hw2 h2;go_wp2_with fail;rw[<-Hw2.out];clear c0 f0 d0;refine(aIu x.aX.l x.aX.a x.aX.c w2 (Hr.out.aX.below H2.out.lE) Hs.out.2.1).mono ?_;rintro e v2 ⟨s1,rfl,l1,ha,hb⟩;have L1:=lz l1;have g:=H2.out.call hb ha (λr hr=>aC3 (T:= [3]) (aE4 hr) dz);have f0:=g.box.frozen 7;have d0:=g.box.cell 7;have q:=g.set 7 s1.val;simp only[Dk,EP,ER]at q;have c0:=q.box.cell 8;obtain⟨w3,hw3,h3⟩:=q.nm;have Hw3:=lz hw3;have H3:=lz h3;clear g q ha hb l1 hw3 h3;go_wp2_with fail;rw[<-Hw3.out];clear c0 f0 d0;refine(aMK x.aq.l x.aq.a x.aq.c w3 (Hr.out.aq.below H3.out.lE) Hs.out.2.2.1).mono ?_;rintro e v3 ⟨s2,rfl,l2,ha,hb⟩;have L2:=lz l2;have g:=H3.out.call hb ha (λr hr=>aC3 (T:= [73]) (aE4 hr) dz);have f0:=g.box.frozen 8;have d0:=g.box.cell 8;have q:=g.set 8 s2.val;simp only[Dk,EP,ER]at q;have c0:=q.box.cell 9;obtain⟨w4,hw4,h4⟩:=q.nm;have Hw4:=lz hw4;have H4:=lz h4;clear g q ha hb l2 hw4 h4;go_wp2_with fail;rw[<-Hw4.out];clear c0 f0 d0;refine(aJB x.procs.l x.procs.a x.procs.c w4 (Hr.out.procs.below H4.out.lE) Hs.out.2.2.2.1 (Hs.out.2.2.2.2)).mono ?_;rintro e v4 ⟨s3,rfl,l3,ha,hb⟩;have L3:=lz l3;have g:=H4.out.call hb ha (λr hr=>aC3 (aD4 aGs r hr) dz);have f0:=g.box.frozen 9;have d0:=g.box.cell 9;have q:=g.set 9 s3.val;simp only[Dk,EP,ER]at q;obtain⟨⟨n0,r0,k0⟩,⟨n1,r1,k1⟩,⟨n2,r2,k2⟩,⟨n3,r3,k3⟩,⟨n4,r4,k4⟩,⟨n5,r5,k5⟩,⟨n6,r6,k6⟩,⟨n7,r7,k7⟩,⟨n8,r8,k8⟩,⟨n9,r9,k9⟩,-⟩:=q.tri [0,1,2,3,4,5,6,7,8,9];obtain⟨wz,hwz,hF⟩:=((((((((((q.put 0 (.string x.nm)).put 1 (.int .i64 x.pe)).put 2 (.int .i64 x.le)).put 3 (.int .i64 x.mem)).put 4 (.slice s0.a s0.l.length s0.c)).put 5 (.int .i64 x.ev)).put 6 (.int .i64 x.bo)).put 7 (.slice s1.a s1.l.length s1.c)).put 8 (.slice s2.a s2.l.length s2.c)).put 9 (.slice s3.a s3.l.length s3.c)).nm;have hR:=hF.res;simp only[Dk,EP,ER]at hR;obtain⟨z0,z1,z2,z3,z4,z5,z6,z7,z8,z9,-⟩:=hR.many [0,1,2,3,4,5,6,7,8,9];have HF:=lz (ai hF.own hF.lE);have Hwz:=lz hwz;clear g q ha hb l3 hF hwz hR;go_wp2_with fail;rw[<-Hwz.out];refine GJ (v:= .agg #[.string x.nm,.int .i64 x.pe,.int .i64 x.le,.int .i64 x.mem,.slice s0.a s0.l.length s0.c,.int .i64 x.ev,.int .i64 x.bo,.slice s1.a s1.l.length s1.c,.slice s2.a s2.l.length s2.c,.slice s3.a s3.l.length s3.c]) (by simp[results,results252,go_sem,z0,z1,z2,z3,z4,z5,z6,z7,z8,z9]) rfl ?_;exact⟨⟨x.nm,x.pe,x.le,x.mem,s0,x.ev,x.bo,s1,s2,s3⟩,rfl,by simp only[aC.er,L0.out,L1.out,L2.out,L3.out],HF.out.1,HF.out.2⟩
theorem aJH(x:aC):∀u∈x.cells,u.oneCell'=true:=λu hu=>by
 simp only[aC.cells,BU,Fc,or_false]at hu;rcases hu with rfl | rfl | rfl | rfl | rfl | rfl | rfl | rfl | rfl | rfl<;>rfl
theorem aJI(l:List aC)(A:Option EK)(c:Nat)(w:Al)(h:fW w w.heap.size A l)(hl:l.length<=100000)(hs:∀x∈l,x.small):
 ET pG 190 #[.slice A l.length c] w λe w'=>∃s:Sl aC,e= .returned s.val/\s.l.map aC.er=l.map aC.er/\dA w' w.heap.size (aDT 71 10 aC.cells s :: s.l.flatMap aC.fq)/\BD w.heap.size w w':=by
 have H:=lz h;have Hs:=lz hs;clear h hs;go_enter func190,ntmps190;go_wp2;go_loopw [3,4] (λv t wr=>∃(k:Nat) (s:Sl aC),k<=l.length/\t= .int .i64 k/\v=s.val/\CpS aC.cells 71 10 aC.fq aC.er w wr (l.take k) s) (λ_ t wr=>l.length-(E8 t).toNat)
 case atStart=>exact⟨0,⟨Ag,0,[]⟩,nZ,rfl,rfl,CpS.start _ _ _ _ _ w⟩
 case round=>
  obtain⟨k,s,hk,rfl,rfl,hS⟩:=hrel;by_cases hlt:k<l.length
  .obtain⟨bo,oo,rfl,hb,hc⟩:=(H.out.keep hS.lE) oz
   obtain⟨d0,d1,d2,d3,d4,d5,d6,d7,d8,d9,hx⟩:=hc k hlt;obtain⟨x,hxe⟩:=ez (l[k]);rw[<-hxe]at d0 d1 d2 d3 d4 d5 d6 d7 d8 d9 hx;have WY:l.take (k+1)=l.take k++ [x]:=by rw[hxe];exact Dl hlt
   have KQ:=aJG x wr (hx.more hS.lE.size) (Hs.out x (by rw[hxe];exact CS hlt));have Xy:=lz KQ;have HS:=lz hS;have Htk:=lz WY;have hki:(k:Int)<(l.length:Int):=by omega
   clear hc hx KQ hS WY hxe;go_wp2_with fail;refine Xy.out.mono ?_;rintro e W2 ⟨x',rfl,her,iO,dI⟩;obtain⟨W3,Bv,Pn,m0,m1,m2,m3,m4,m5,m6,m7,m8,m9,-⟩:=nbx W2 71 #[.string x'.nm,.int .i64 x'.pe,.int .i64 x'.le,.int .i64 x'.mem,.slice x'.aG.a x'.aG.l.length x'.aG.c,.int .i64 x'.ev,.int .i64 x'.bo,.slice x'.aX.a x'.aX.l.length x'.aX.c,.slice x'.aq.a x'.aq.l.length x'.aq.c,.slice x'.procs.a x'.procs.l.length x'.procs.c] [0,1,2,3,4,5,6,7,8,9];have pP:=lz (HS.out.ext dI Pn);have HR3:=lz ((iO.aMM HS.out.lE.size).below Pn);have yY:=lz Bv;have Her:=lz her;clear her iO dI Pn Bv HS Xy;go_wp2_with (at_builtin;rw[<-yY.out];go_loud (refine aF3 rfl _ _ 65 rfl 71 _ underlying65 (aEc:aDr 71 10 152) dz dz pP.out (y:=x') rfl rfl (by rw[yY.out];simp) rfl (λ_=>rfl) aJH (λz r hr=>aC3 (aGu z r hr) dz) HR3.out Her.out (by rw[GW];omega) ?_));intro s' W5 CF;rw[<-Htk.out]at CF;have qu:=lz CF;clear CF;go_wp2;go_roundw
   case rel=>exact⟨k+1,s',oz,by go_num,rfl,qu.out⟩
   case measure=>simp[E8];omega
  .obtain rfl:k=l.length:=by omega
   rw[GS]at hS;have HS:=lz hS;clear hS;go_wp2;go_ret;exact⟨s,rfl,HS.out.er,HS.out.own,HS.out.lE⟩
def bT.fq(x:bT):List jK:=([]++(aDT 71 10 aC.cells x.parts :: x.parts.l.flatMap aC.fq))
def bT.er(x:bT):bT:={x with parts:=⟨Ag,0,x.parts.l.map aC.er⟩}
def bT.small(x:bT):Prop:=x.parts.l.length<=100000/\(∀y∈x.parts.l,y.small)
theorem aFG(x:bT):∀r∈x.fq,r.t∈([71,3,73,76,169]:List Nat):=aDk (aFN) (aDm (aD4 aGu) dz)
theorem aHp(x:bT)(w:Al)(hr:x.rd w w.heap.size)(hs:x.small):ET pG 111 #[x.val] w λe w'=>∃x':bT,e= .returned x'.val/\x'.er=x.er/\dA w' w.heap.size x'.fq/\BD w.heap.size w w':=by
 obtain⟨w1,cN,h1⟩:=(EcS.start w 67 #[.string x.nm,.int .i64 x.mem,.int .i64 x.fr,.slice x.parts.a x.parts.l.length x.parts.c] #[.string ⟨#[]⟩,.int .i64 0,.int .i64 0,.slice Ag 0 0]).nm;have lH:=lz cN;have Hr:=lz hr;have Hs:=lz hs;have H1:=lz h1;have c0:=h1.box.cell 3;clear cN hr hs h1;go_enter func111,ntmps111;rw[lH.out]at c0;go_wp2_with fail;rw[<-lH.out];clear c0;refine(aJI x.parts.l x.parts.a x.parts.c w1 (Hr.out.parts.below H1.out.lE) Hs.out.1 (Hs.out.2)).mono ?_;rintro e v1 ⟨s0,rfl,l0,ha,hb⟩;have L0:=lz l0;have g:=H1.out.call hb ha (λr hr=>aC3 (aD4 aGu r hr) dz);have f0:=g.box.frozen 3;have d0:=g.box.cell 3;have q:=g.set 3 s0.val;simp only[Dk,EP,ER]at q;obtain⟨⟨n0,r0,k0⟩,⟨n1,r1,k1⟩,⟨n2,r2,k2⟩,⟨n3,r3,k3⟩,-⟩:=q.tri [0,1,2,3];obtain⟨wz,hwz,hF⟩:=((((q.put 0 (.string x.nm)).put 1 (.int .i64 x.mem)).put 2 (.int .i64 x.fr)).put 3 (.slice s0.a s0.l.length s0.c)).nm;have hR:=hF.res;simp only[Dk,EP,ER]at hR;obtain⟨z0,z1,z2,z3,-⟩:=hR.many [0,1,2,3];have HF:=lz (ai hF.own hF.lE);have Hwz:=lz hwz;clear g q ha hb l0 hF hwz hR;go_wp2_with fail;rw[<-Hwz.out];refine GJ (v:= .agg #[.string x.nm,.int .i64 x.mem,.int .i64 x.fr,.slice s0.a s0.l.length s0.c]) (by simp[results,results111,go_sem,z0,z1,z2,z3]) rfl ?_;exact⟨⟨x.nm,x.mem,x.fr,s0⟩,rfl,by simp only[bT.er,L0.out],HF.out.1,HF.out.2⟩
theorem aHq(x:bT):∀u∈x.cells,u.oneCell'=true:=λu hu=>by
 simp only[bT.cells,BU,Fc,or_false]at hu;rcases hu with rfl | rfl | rfl | rfl<;>rfl
theorem aHr(l:List bT)(A:Option EK)(c:Nat)(w:Al)(h:dK w w.heap.size A l)(hl:l.length<=100000)(hs:∀x∈l,x.small):
 ET pG 42 #[.slice A l.length c] w λe w'=>∃s:Sl bT,e= .returned s.val/\s.l.map bT.er=l.map bT.er/\dA w' w.heap.size (aDT 67 4 bT.cells s :: s.l.flatMap bT.fq)/\BD w.heap.size w w':=by
 have H:=lz h;have Hs:=lz hs;clear h hs;go_enter func42,ntmps42;go_wp2;go_loopw [3,4] (λv t wr=>∃(k:Nat) (s:Sl bT),k<=l.length/\t= .int .i64 k/\v=s.val/\CpS bT.cells 67 4 bT.fq bT.er w wr (l.take k) s) (λ_ t wr=>l.length-(E8 t).toNat)
 case atStart=>exact⟨0,⟨Ag,0,[]⟩,nZ,rfl,rfl,CpS.start _ _ _ _ _ w⟩
 case round=>
  obtain⟨k,s,hk,rfl,rfl,hS⟩:=hrel;by_cases hlt:k<l.length
  .obtain⟨bo,oo,rfl,hb,hc⟩:=(H.out.keep hS.lE) oz
   obtain⟨d0,d1,d2,d3,hx⟩:=hc k hlt;obtain⟨x,hxe⟩:=ez (l[k]);rw[<-hxe]at d0 d1 d2 d3 hx;have WY:l.take (k+1)=l.take k++ [x]:=by rw[hxe];exact Dl hlt
   have KQ:=aHp x wr (hx.more hS.lE.size) (Hs.out x (by rw[hxe];exact CS hlt));have Xy:=lz KQ;have HS:=lz hS;have Htk:=lz WY;have hki:(k:Int)<(l.length:Int):=by omega
   clear hc hx KQ hS WY hxe;go_wp2_with fail;refine Xy.out.mono ?_;rintro e W2 ⟨x',rfl,her,iO,dI⟩;obtain⟨W3,Bv,Pn,m0,m1,m2,m3,-⟩:=nbx W2 67 #[.string x'.nm,.int .i64 x'.mem,.int .i64 x'.fr,.slice x'.parts.a x'.parts.l.length x'.parts.c] [0,1,2,3];have pP:=lz (HS.out.ext dI Pn);have HR3:=lz ((iO.aMM HS.out.lE.size).below Pn);have yY:=lz Bv;have Her:=lz her;clear her iO dI Pn Bv HS Xy;go_wp2_with (at_builtin;rw[<-yY.out];go_loud (refine aF3 rfl _ _ 22 rfl 67 _ underlying22 (aEc:aDr 67 4 56) dz dz pP.out (y:=x') rfl rfl (by rw[yY.out];simp) rfl (λ_=>rfl) aHq (λz r hr=>aC3 (aFG z r hr) dz) HR3.out Her.out (by rw[GW];omega) ?_));intro s' W5 CF;rw[<-Htk.out]at CF;have qu:=lz CF;clear CF;go_wp2;go_roundw
   case rel=>exact⟨k+1,s',oz,by go_num,rfl,qu.out⟩
   case measure=>simp[E8];omega
  .obtain rfl:k=l.length:=by omega
   rw[GS]at hS;have HS:=lz hS;clear hS;go_wp2;go_ret;exact⟨s,rfl,HS.out.er,HS.out.own,HS.out.lE⟩
def gq.fq(x:gq):List jK:=([]++ [aDT 41 3 bw.cells x.dst])
def gq.er(x:gq):gq:={x with dst:=⟨Ag,0,x.dst.l⟩}
def gq.small(x:gq):Prop:=x.dst.l.length<=100000
theorem aEw(x:gq):∀r∈x.fq,r.t∈([41]:List Nat):=aDk (aFN) (aDm (aDn 41 rfl) dz)
theorem aHW(x:gq)(w:Al)(hr:x.rd w w.heap.size)(hs:x.small):ET pG 112 #[x.val] w λe w'=>∃x':gq,e= .returned x'.val/\x'.er=x.er/\dA w' w.heap.size x'.fq/\BD w.heap.size w w':=by
 obtain⟨w1,cN,h1⟩:=(EcS.start w 78 #[.string x.src.m,.string x.src.p,.string x.src.o,.slice x.dst.a x.dst.l.length x.dst.c] #[.string ⟨#[]⟩,.string ⟨#[]⟩,.string ⟨#[]⟩,.slice Ag 0 0]).nm;have lH:=lz cN;have Hr:=lz hr;have Hs:=lz hs;have H1:=lz h1;have c0:=h1.box.cell 3;clear cN hr hs h1;go_enter func112,ntmps112;rw[lH.out]at c0;go_wp2_with fail;rw[<-lH.out];clear c0;refine(aIv x.dst.l x.dst.a x.dst.c w1 (Hr.out.dst.below H1.out.lE) Hs.out).mono ?_;rintro e v1 ⟨s0,rfl,l0,ha,hb⟩;have L0:=lz l0;have g:=H1.out.call hb ha (λr hr=>aC3 (T:= [41]) (aE4 hr) dz);have f0:=g.box.frozen 3;have d0:=g.box.cell 3;have q:=g.set 3 s0.val;simp only[Dk,EP,ER]at q;obtain⟨⟨n0,r0,k0⟩,⟨n1,r1,k1⟩,⟨n2,r2,k2⟩,⟨n3,r3,k3⟩,-⟩:=q.tri [0,1,2,3];obtain⟨wz,hwz,hF⟩:=((((q.put 0 (.string x.src.m)).put 1 (.string x.src.p)).put 2 (.string x.src.o)).put 3 (.slice s0.a s0.l.length s0.c)).nm;have hR:=hF.res;simp only[Dk,EP,ER]at hR;obtain⟨z0,z1,z2,z3,-⟩:=hR.many [0,1,2,3];have HF:=lz (ai hF.own hF.lE);have Hwz:=lz hwz;clear g q ha hb l0 hF hwz hR;go_wp2_with fail;rw[<-Hwz.out];refine GJ (v:= .agg #[.string x.src.m,.string x.src.p,.string x.src.o,.slice s0.a s0.l.length s0.c]) (by simp[results,results112,go_sem,z0,z1,z2,z3]) rfl ?_;exact⟨⟨x.src,s0⟩,rfl,by simp only[gq.er,L0.out],HF.out.1,HF.out.2⟩
theorem aHX(x:gq):∀u∈x.cells,u.oneCell'=true:=λu hu=>by
 simp only[gq.cells,BU,Fc,or_false]at hu;rcases hu with rfl | rfl | rfl | rfl<;>rfl
theorem aHY(l:List gq)(A:Option EK)(c:Nat)(w:Al)(h:dY w w.heap.size A l)(hl:l.length<=100000)(hs:∀x∈l,x.small):
 ET pG 43 #[.slice A l.length c] w λe w'=>∃s:Sl gq,e= .returned s.val/\s.l.map gq.er=l.map gq.er/\dA w' w.heap.size (aDT 78 4 gq.cells s :: s.l.flatMap gq.fq)/\BD w.heap.size w w':=by
 have H:=lz h;have Hs:=lz hs;clear h hs;go_enter func43,ntmps43;go_wp2;go_loopw [3,4] (λv t wr=>∃(k:Nat) (s:Sl gq),k<=l.length/\t= .int .i64 k/\v=s.val/\CpS gq.cells 78 4 gq.fq gq.er w wr (l.take k) s) (λ_ t wr=>l.length-(E8 t).toNat)
 case atStart=>exact⟨0,⟨Ag,0,[]⟩,nZ,rfl,rfl,CpS.start _ _ _ _ _ w⟩
 case round=>
  obtain⟨k,s,hk,rfl,rfl,hS⟩:=hrel;by_cases hlt:k<l.length
  .obtain⟨bo,oo,rfl,hb,hc⟩:=(H.out.keep hS.lE) oz
   obtain⟨d0,d1,d2,d3,hx⟩:=hc k hlt;obtain⟨x,hxe⟩:=ez (l[k]);rw[<-hxe]at d0 d1 d2 d3 hx;have WY:l.take (k+1)=l.take k++ [x]:=by rw[hxe];exact Dl hlt
   have KQ:=aHW x wr (hx.more hS.lE.size) (Hs.out x (by rw[hxe];exact CS hlt));have Xy:=lz KQ;have HS:=lz hS;have Htk:=lz WY;have hki:(k:Int)<(l.length:Int):=by omega
   clear hc hx KQ hS WY hxe;go_wp2_with fail;refine Xy.out.mono ?_;rintro e W2 ⟨x',rfl,her,iO,dI⟩;obtain⟨W3,Bv,Pn,m0,m1,m2,m3,-⟩:=nbx W2 78 #[.string x'.src.m,.string x'.src.p,.string x'.src.o,.slice x'.dst.a x'.dst.l.length x'.dst.c] [0,1,2,3];have pP:=lz (HS.out.ext dI Pn);have HR3:=lz ((iO.aMM HS.out.lE.size).below Pn);have yY:=lz Bv;have Her:=lz her;clear her iO dI Pn Bv HS Xy;go_wp2_with (at_builtin;rw[<-yY.out];go_loud (refine aF3 rfl _ _ 23 rfl 78 _ underlying23 (aEc:aDr 78 4 72) dz dz pP.out (y:=x') rfl rfl (by rw[yY.out];simp) rfl (λ_=>rfl) aHX (λz r hr=>aC3 (aEw z r hr) dz) HR3.out Her.out (by rw[GW];omega) ?_));intro s' W5 CF;rw[<-Htk.out]at CF;have qu:=lz CF;clear CF;go_wp2;go_roundw
   case rel=>exact⟨k+1,s',oz,by go_num,rfl,qu.out⟩
   case measure=>simp[E8];omega
  .obtain rfl:k=l.length:=by omega
   rw[GS]at hS;have HS:=lz hS;clear hS;go_wp2;go_ret;exact⟨s,rfl,HS.out.er,HS.out.own,HS.out.lE⟩
def fU.fq(x:fU):List jK:=([]++ [aDT 41 3 bw.cells x.dst])
def fU.er(x:fU):fU:={x with dst:=⟨Ag,0,x.dst.l⟩}
def fU.small(x:fU):Prop:=x.dst.l.length<=100000
theorem aIA(x:fU):∀r∈x.fq,r.t∈([41]:List Nat):=aDk (aFN) (aDm (aDn 41 rfl) dz)
theorem aMm(x:fU)(w:Al)(hr:x.rd w w.heap.size)(hs:x.small):ET pG 113 #[x.val] w λe w'=>∃x':fU,e= .returned x'.val/\x'.er=x.er/\dA w' w.heap.size x'.fq/\BD w.heap.size w w':=by
 obtain⟨w1,cN,h1⟩:=(EcS.start w 44 #[.string x.nm,.string x.src.m,.string x.src.p,.string x.src.o,.int .i64 x.lQ,.int .i64 x.mx,.slice x.dst.a x.dst.l.length x.dst.c] #[.string ⟨#[]⟩,.string ⟨#[]⟩,.string ⟨#[]⟩,.string ⟨#[]⟩,.int .i64 0,.int .i64 0,.slice Ag 0 0]).nm;have lH:=lz cN;have Hr:=lz hr;have Hs:=lz hs;have H1:=lz h1;have c0:=h1.box.cell 6;clear cN hr hs h1;go_enter func113,ntmps113;rw[lH.out]at c0;go_wp2_with fail;rw[<-lH.out];clear c0;refine(aIv x.dst.l x.dst.a x.dst.c w1 (Hr.out.dst.below H1.out.lE) Hs.out).mono ?_;rintro e v1 ⟨s0,rfl,l0,ha,hb⟩;have L0:=lz l0;have g:=H1.out.call hb ha (λr hr=>aC3 (T:= [41]) (aE4 hr) dz);have f0:=g.box.frozen 6;have d0:=g.box.cell 6;have q:=g.set 6 s0.val;simp only[Dk,EP,ER]at q;obtain⟨⟨n0,r0,k0⟩,⟨n1,r1,k1⟩,⟨n2,r2,k2⟩,⟨n3,r3,k3⟩,⟨n4,r4,k4⟩,⟨n5,r5,k5⟩,⟨n6,r6,k6⟩,-⟩:=q.tri [0,1,2,3,4,5,6];obtain⟨wz,hwz,hF⟩:=(((((((q.put 0 (.string x.nm)).put 1 (.string x.src.m)).put 2 (.string x.src.p)).put 3 (.string x.src.o)).put 4 (.int .i64 x.lQ)).put 5 (.int .i64 x.mx)).put 6 (.slice s0.a s0.l.length s0.c)).nm;have hR:=hF.res;simp only[Dk,EP,ER]at hR;obtain⟨z0,z1,z2,z3,z4,z5,z6,-⟩:=hR.many [0,1,2,3,4,5,6];have HF:=lz (ai hF.own hF.lE);have Hwz:=lz hwz;clear g q ha hb l0 hF hwz hR;go_wp2_with fail;rw[<-Hwz.out];refine GJ (v:= .agg #[.string x.nm,.string x.src.m,.string x.src.p,.string x.src.o,.int .i64 x.lQ,.int .i64 x.mx,.slice s0.a s0.l.length s0.c]) (by simp[results,results113,go_sem,z0,z1,z2,z3,z4,z5,z6]) rfl ?_;exact⟨⟨x.nm,x.src,x.lQ,x.mx,s0⟩,rfl,by simp only[fU.er,L0.out],HF.out.1,HF.out.2⟩
theorem aMn(x:fU):∀u∈x.cells,u.oneCell'=true:=λu hu=>by
 simp only[fU.cells,BU,Fc,or_false]at hu;rcases hu with rfl | rfl | rfl | rfl | rfl | rfl | rfl<;>rfl
theorem aMo(l:List fU)(A:Option EK)(c:Nat)(w:Al)(h:mV w w.heap.size A l)(hl:l.length<=100000)(hs:∀x∈l,x.small):
 ET pG 46 #[.slice A l.length c] w λe w'=>∃s:Sl fU,e= .returned s.val/\s.l.map fU.er=l.map fU.er/\dA w' w.heap.size (aDT 44 7 fU.cells s :: s.l.flatMap fU.fq)/\BD w.heap.size w w':=by
 have H:=lz h;have Hs:=lz hs;clear h hs;go_enter func46,ntmps46;go_wp2;go_loopw [3,4] (λv t wr=>∃(k:Nat) (s:Sl fU),k<=l.length/\t= .int .i64 k/\v=s.val/\CpS fU.cells 44 7 fU.fq fU.er w wr (l.take k) s) (λ_ t wr=>l.length-(E8 t).toNat)
 case atStart=>exact⟨0,⟨Ag,0,[]⟩,nZ,rfl,rfl,CpS.start _ _ _ _ _ w⟩
 case round=>
  obtain⟨k,s,hk,rfl,rfl,hS⟩:=hrel;by_cases hlt:k<l.length
  .obtain⟨bo,oo,rfl,hb,hc⟩:=(H.out.keep hS.lE) oz
   obtain⟨d0,d1,d2,d3,d4,d5,d6,hx⟩:=hc k hlt;obtain⟨x,hxe⟩:=ez (l[k]);rw[<-hxe]at d0 d1 d2 d3 d4 d5 d6 hx;have WY:l.take (k+1)=l.take k++ [x]:=by rw[hxe];exact Dl hlt
   have KQ:=aMm x wr (hx.more hS.lE.size) (Hs.out x (by rw[hxe];exact CS hlt));have Xy:=lz KQ;have HS:=lz hS;have Htk:=lz WY;have hki:(k:Int)<(l.length:Int):=by omega
   clear hc hx KQ hS WY hxe;go_wp2_with fail;refine Xy.out.mono ?_;rintro e W2 ⟨x',rfl,her,iO,dI⟩;obtain⟨W3,Bv,Pn,m0,m1,m2,m3,m4,m5,m6,-⟩:=nbx W2 44 #[.string x'.nm,.string x'.src.m,.string x'.src.p,.string x'.src.o,.int .i64 x'.lQ,.int .i64 x'.mx,.slice x'.dst.a x'.dst.l.length x'.dst.c] [0,1,2,3,4,5,6];have pP:=lz (HS.out.ext dI Pn);have HR3:=lz ((iO.aMM HS.out.lE.size).below Pn);have yY:=lz Bv;have Her:=lz her;clear her iO dI Pn Bv HS Xy;go_wp2_with (at_builtin;rw[<-yY.out];go_loud (refine aF3 rfl _ _ 26 rfl 44 _ underlying26 (aEc:aDr 44 7 104) dz dz pP.out (y:=x') rfl rfl (by rw[yY.out];simp) rfl (λ_=>rfl) aMn (λz r hr=>aC3 (aIA z r hr) dz) HR3.out Her.out (by rw[GW];omega) ?_));intro s' W5 CF;rw[<-Htk.out]at CF;have qu:=lz CF;clear CF;go_wp2;go_roundw
   case rel=>exact⟨k+1,s',oz,by go_num,rfl,qu.out⟩
   case measure=>simp[E8];omega
  .obtain rfl:k=l.length:=by omega
   rw[GS]at hS;have HS:=lz hS;clear hS;go_wp2;go_ret;exact⟨s,rfl,HS.out.er,HS.out.own,HS.out.lE⟩
def fC.fq(x:fC):List jK:=(([]++ [⟨85,2,x.n.val,x.c.needs.length,x.c.needs.flatMap jI.cells⟩])++ [⟨9,1,x.x.val,x.c.excl.length,x.c.excl.flatMap (λk:ByteArray=> [GI k])⟩])
def fC.er(x:fC):fC:=⟨x.c,⟨Ag,x.n.n,0⟩,⟨Ag,x.x.n,0⟩⟩
def fC.small(x:fC):Prop:=x.c.needs.length<=100000/\x.c.excl.length<=100000
theorem aFT(x:fC):∀r∈x.fq,r.t∈([85,9]:List Nat):=aDk (aDk (aFN) (aDm (aDn 85 rfl) dz)) (aDm (aDn 9 rfl) dz)
theorem aIH(x:fC)(w:Al)(hr:x.rd w w.heap.size)(hs:x.small):ET pG 114 #[x.val] w λe w'=>∃x':fC,e= .returned x'.val/\x'.er=x.er/\dA w' w.heap.size x'.fq/\BD w.heap.size w w':=by
 obtain⟨⟨u,nd,ex⟩,⟨An,nn,cn⟩,⟨Ax,nx,cx⟩⟩:=x;obtain rfl:nn=nd.length:=hr.nl;obtain rfl:nx=ex.length:=hr.xl;obtain⟨w1,cN,h1⟩:=(EcS.start w 83 #[.string u,.slice An nd.length cn,.slice Ax ex.length cx] #[.string ⟨#[]⟩,.slice Ag 0 0,.slice Ag 0 0]).nm;have lH:=lz cN;have Hr:=lz hr;have Hs:=lz hs;have H1:=lz h1;have c0:=h1.box.cell 1;clear cN hr hs h1;go_enter func114,ntmps114;rw[lH.out]at c0;go_wp2_with fail;rw[<-lH.out];clear c0;refine(aIF nd An cn w1 (Hr.out.n.below H1.out.lE) Hs.out.1).mono ?_;rintro e v1 ⟨s0,rfl,l0,ha,hb⟩;have L0:=lz l0;have g:=H1.out.call hb ha (λr hr=>aC3 (T:= [85]) (aE4 hr) dz);have f0:=g.box.frozen 1;have d0:=g.box.cell 1;have q:=g.set 1 s0.val;simp only[Dk,EP,ER]at q;have c0:=q.box.cell 2;obtain⟨w2,hw2,h2⟩:=q.nm;have Hw2:=lz hw2;have H2:=lz h2;clear g q ha hb l0 hw2 h2;go_wp2_with fail;rw[<-Hw2.out];clear c0 f0 d0;refine(aMk ex Ax cx w2 (Hr.out.x.below H2.out.lE) Hs.out.2).mono ?_;rintro e v2 ⟨s1,rfl,l1,ha,hb⟩;have L1:=lz l1;have g:=H2.out.call hb ha (λr hr=>aC3 (T:= [9]) (aE4 hr) dz);have f0:=g.box.frozen 2;have d0:=g.box.cell 2;have q:=g.set 2 s1.val;simp only[Dk,EP,ER]at q;obtain⟨⟨n0,r0,k0⟩,⟨n1,r1,k1⟩,⟨n2,r2,k2⟩,-⟩:=q.tri [0,1,2];obtain⟨wz,hwz,hF⟩:=(((q.put 0 (.string u)).put 1 (.slice s0.a s0.l.length s0.c)).put 2 (.slice s1.a s1.l.length s1.c)).nm;have hR:=hF.res;simp only[Dk,EP,ER]at hR;obtain⟨z0,z1,z2,-⟩:=hR.many [0,1,2];have HF:=lz (ai hF.own hF.lE);have Hwz:=lz hwz;clear g q ha hb l1 hF hwz hR;go_wp2_with fail;rw[<-Hwz.out];refine GJ (v:= .agg #[.string u,.slice s0.a s0.l.length s0.c,.slice s1.a s1.l.length s1.c]) (by simp[results,results114,go_sem,z0,z1,z2]) rfl ?_;exact⟨⟨⟨u,s0.l,s1.l⟩,⟨s0.a,s0.l.length,s0.c⟩,⟨s1.a,s1.l.length,s1.c⟩⟩,rfl,by simp only[fC.er,L0.out,L1.out],HF.out.1,HF.out.2⟩
theorem aII(x:fC):∀u∈x.cells,u.oneCell'=true:=λu hu=>by
 simp only[fC.cells,BU,Fc,or_false]at hu;rcases hu with rfl | rfl | rfl<;>rfl
theorem aIM(l:List fC)(A:Option EK)(c:Nat)(w:Al)(h:kr w w.heap.size A l)(hl:l.length<=100000)(hs:∀x∈l,x.small):
 ET pG 48 #[.slice A l.length c] w λe w'=>∃s:Sl fC,e= .returned s.val/\s.l.map fC.er=l.map fC.er/\dA w' w.heap.size (aDT 83 3 fC.cells s :: s.l.flatMap fC.fq)/\BD w.heap.size w w':=by
 have H:=lz h;have Hs:=lz hs;clear h hs;go_enter func48,ntmps48;go_wp2;go_loopw [3,4] (λv t wr=>∃(k:Nat) (s:Sl fC),k<=l.length/\t= .int .i64 k/\v=s.val/\CpS fC.cells 83 3 fC.fq fC.er w wr (l.take k) s) (λ_ t wr=>l.length-(E8 t).toNat)
 case atStart=>exact⟨0,⟨Ag,0,[]⟩,nZ,rfl,rfl,CpS.start _ _ _ _ _ w⟩
 case round=>
  obtain⟨k,s,hk,rfl,rfl,hS⟩:=hrel;by_cases hlt:k<l.length
  .obtain⟨bo,oo,rfl,hb,hc⟩:=(H.out.keep hS.lE) oz
   obtain⟨d0,d1,d2,hx⟩:=hc k hlt;obtain⟨x,hxe⟩:=ez (l[k]);rw[<-hxe]at d0 d1 d2 hx;have WY:l.take (k+1)=l.take k++ [x]:=by rw[hxe];exact Dl hlt
   have KQ:=aIH x wr (hx.more hS.lE.size) (Hs.out x (by rw[hxe];exact CS hlt));have Xy:=lz KQ;have HS:=lz hS;have Htk:=lz WY;have hki:(k:Int)<(l.length:Int):=by omega
   clear hc hx KQ hS WY hxe;go_wp2_with fail;refine Xy.out.mono ?_;rintro e W2 ⟨x',rfl,her,iO,dI⟩;obtain⟨W3,Bv,Pn,m0,m1,m2,-⟩:=nbx W2 83 #[.string x'.c.unit,.slice x'.n.a x'.n.n x'.n.c,.slice x'.x.a x'.x.n x'.x.c] [0,1,2];have pP:=lz (HS.out.ext dI Pn);have HR3:=lz ((iO.aMM HS.out.lE.size).below Pn);have yY:=lz Bv;have Her:=lz her;clear her iO dI Pn Bv HS Xy;go_wp2_with (at_builtin;rw[<-yY.out];go_loud (refine aF3 rfl _ _ 28 rfl 83 _ underlying28 (aEc:aDr 83 3 64) dz dz pP.out (y:=x') rfl rfl (by rw[yY.out];simp) rfl (λ_=>rfl) aII (λz r hr=>aC3 (aFT z r hr) dz) HR3.out Her.out (by rw[GW];omega) ?_));intro s' W5 CF;rw[<-Htk.out]at CF;have qu:=lz CF;clear CF;go_wp2;go_roundw
   case rel=>exact⟨k+1,s',oz,by go_num,rfl,qu.out⟩
   case measure=>simp[E8];omega
  .obtain rfl:k=l.length:=by omega
   rw[GS]at hS;have HS:=lz hS;clear hS;go_wp2;go_ret;exact⟨s,rfl,HS.out.er,HS.out.own,HS.out.lE⟩
def ay.fq(x:ay):List jK:=(((((((([]++(aDT 67 4 bT.cells x.mods :: x.mods.l.flatMap bT.fq))++(aDT 78 4 gq.cells x.aj :: x.aj.l.flatMap gq.fq))++ [aDT 87 4 iI.cells x.aP])++ [aDT 46 4 aO.cells x.links])++(aDT 44 7 fU.cells x.aF :: x.aF.l.flatMap fU.fq))++ [aDT 89 5 iK.cells x.bQ])++(aDT 83 3 fC.cells x.causes :: x.causes.l.flatMap fC.fq))++ [aDT 91 4 lF.cells x.aA])
def ay.er(x:ay):ay:={x with mods:=⟨Ag,0,x.mods.l.map bT.er⟩,aj:=⟨Ag,0,x.aj.l.map gq.er⟩,aP:=⟨Ag,0,x.aP.l⟩,links:=⟨Ag,0,x.links.l⟩,aF:=⟨Ag,0,x.aF.l.map fU.er⟩,bQ:=⟨Ag,0,x.bQ.l⟩,causes:=⟨Ag,0,x.causes.l.map fC.er⟩,aA:=⟨Ag,0,x.aA.l⟩}
def ay.small(x:ay):Prop:=x.mods.l.length<=100000/\x.aj.l.length<=100000/\x.aP.l.length<=100000/\x.links.l.length<=100000/\x.aF.l.length<=100000/\x.bQ.l.length<=100000/\x.causes.l.length<=100000/\x.aA.l.length<=100000/\(∀y∈x.mods.l,y.small)/\(∀y∈x.aj.l,y.small)/\(∀y∈x.aF.l,y.small)/\(∀y∈x.causes.l,y.small)
theorem aIN(x:ay):∀r∈x.fq,r.t∈([67,71,3,73,76,169,78,41,87,46,44,89,83,85,9,91]:List Nat):=aDk (aDk (aDk (aDk (aDk (aDk (aDk (aDk (aFN) (aDm (aD4 aFG) dz)) (aDm (aD4 aEw) dz)) (aDm (aDn 87 rfl) dz)) (aDm (aDn 46 rfl) dz)) (aDm (aD4 aIA) dz)) (aDm (aDn 89 rfl) dz)) (aDm (aD4 aFT) dz)) (aDm (aDn 91 rfl) dz)
theorem aHs(x:ay)(w:Al)(hr:x.rd w w.heap.size)(hs:x.small):ET pG 15 #[x.val] w λe w'=>∃x':ay,e= .returned x'.val/\x'.er=x.er/\dA w' w.heap.size x'.fq/\BD w.heap.size w w':=by
 obtain⟨w1,cN,h1⟩:=(EcS.start w 31 #[.slice x.mods.a x.mods.l.length x.mods.c,.slice x.aj.a x.aj.l.length x.aj.c,.slice x.aP.a x.aP.l.length x.aP.c,.slice x.links.a x.links.l.length x.links.c,.slice x.aF.a x.aF.l.length x.aF.c,.slice x.bQ.a x.bQ.l.length x.bQ.c,.slice x.causes.a x.causes.l.length x.causes.c,.slice x.aA.a x.aA.l.length x.aA.c] #[.slice Ag 0 0,.slice Ag 0 0,.slice Ag 0 0,.slice Ag 0 0,.slice Ag 0 0,.slice Ag 0 0,.slice Ag 0 0,.slice Ag 0 0]).nm;have lH:=lz cN;have Hr:=lz hr;have Hs:=lz hs;have H1:=lz h1;have c0:=h1.box.cell 0;clear cN hr hs h1;go_enter func15,ntmps15;rw[lH.out]at c0;go_wp2_with fail;rw[<-lH.out];clear c0;refine(aHr x.mods.l x.mods.a x.mods.c w1 (Hr.out.mods.below H1.out.lE) Hs.out.1 (Hs.out.2.2.2.2.2.2.2.2.1)).mono ?_;rintro e v1 ⟨s0,rfl,l0,ha,hb⟩;have L0:=lz l0;have g:=H1.out.call hb ha (λr hr=>aC3 (aD4 aFG r hr) dz);have f0:=g.box.frozen 0;have d0:=g.box.cell 0;have q:=g.set 0 s0.val;simp only[Dk,EP,ER]at q;have c0:=q.box.cell 1;obtain⟨w2,hw2,h2⟩:=q.nm;have Hw2:=lz hw2;have H2:=lz h2;clear g q ha hb l0 hw2 h2;go_wp2_with fail;rw[<-Hw2.out];clear c0 f0 d0;refine(aHY x.aj.l x.aj.a x.aj.c w2 (Hr.out.aj.below H2.out.lE) Hs.out.2.1 (Hs.out.2.2.2.2.2.2.2.2.2.1)).mono ?_;rintro e v2 ⟨s1,rfl,l1,ha,hb⟩;have L1:=lz l1;have g:=H2.out.call hb ha (λr hr=>aC3 (aD4 aEw r hr) dz);have f0:=g.box.frozen 1;have d0:=g.box.cell 1;have q:=g.set 1 s1.val;simp only[Dk,EP,ER]at q;have c0:=q.box.cell 2;obtain⟨w3,hw3,h3⟩:=q.nm;have Hw3:=lz hw3;have H3:=lz h3;clear g q ha hb l1 hw3 h3;go_wp2_with fail;rw[<-Hw3.out];clear c0 f0 d0;refine(aIC x.aP.l x.aP.a x.aP.c w3 (Hr.out.aP.below H3.out.lE) Hs.out.2.2.1).mono ?_;rintro e v3 ⟨s2,rfl,l2,ha,hb⟩;have L2:=lz l2;have g:=H3.out.call hb ha (λr hr=>aC3 (T:= [87]) (aE4 hr) dz);have f0:=g.box.frozen 2;have d0:=g.box.cell 2;have q:=g.set 2 s2.val;simp only[Dk,EP,ER]at q;have c0:=q.box.cell 3;obtain⟨w4,hw4,h4⟩:=q.nm;have Hw4:=lz hw4;have H4:=lz h4;clear g q ha hb l2 hw4 h4;go_wp2_with fail;rw[<-Hw4.out];clear c0 f0 d0;refine(aML x.links.l x.links.a x.links.c w4 (Hr.out.links.below H4.out.lE) Hs.out.2.2.2.1).mono ?_;rintro e v4 ⟨s3,rfl,l3,ha,hb⟩;have L3:=lz l3;have g:=H4.out.call hb ha (λr hr=>aC3 (T:= [46]) (aE4 hr) dz);have f0:=g.box.frozen 3;have d0:=g.box.cell 3;have q:=g.set 3 s3.val;simp only[Dk,EP,ER]at q;have c0:=q.box.cell 4;obtain⟨w5,hw5,h5⟩:=q.nm;have Hw5:=lz hw5;have H5:=lz h5;clear g q ha hb l3 hw5 h5;go_wp2_with fail;rw[<-Hw5.out];clear c0 f0 d0;refine(aMo x.aF.l x.aF.a x.aF.c w5 (Hr.out.aF.below H5.out.lE) Hs.out.2.2.2.2.1 (Hs.out.2.2.2.2.2.2.2.2.2.2.1)).mono ?_;rintro e v5 ⟨s4,rfl,l4,ha,hb⟩;have L4:=lz l4;have g:=H5.out.call hb ha (λr hr=>aC3 (aD4 aIA r hr) dz);have f0:=g.box.frozen 4;have d0:=g.box.cell 4;have q:=g.set 4 s4.val;simp only[Dk,EP,ER]at q;have c0:=q.box.cell 5;obtain⟨w6,hw6,h6⟩:=q.nm;have Hw6:=lz hw6;have H6:=lz h6;clear g q ha hb l4 hw6 h6;go_wp2_with fail;rw[<-Hw6.out];clear c0 f0 d0;refine(aIE x.bQ.l x.bQ.a x.bQ.c w6 (Hr.out.bQ.below H6.out.lE) Hs.out.2.2.2.2.2.1).mono ?_;rintro e v6 ⟨s5,rfl,l5,ha,hb⟩;have L5:=lz l5;have g:=H6.out.call hb ha (λr hr=>aC3 (T:= [89]) (aE4 hr) dz);have f0:=g.box.frozen 5;have d0:=g.box.cell 5;have q:=g.set 5 s5.val;simp only[Dk,EP,ER]at q;have c0:=q.box.cell 6;obtain⟨w7,hw7,h7⟩:=q.nm;have Hw7:=lz hw7;have H7:=lz h7;clear g q ha hb l5 hw7 h7;go_wp2_with fail;rw[<-Hw7.out];clear c0 f0 d0;refine(aIM x.causes.l x.causes.a x.causes.c w7 (Hr.out.causes.below H7.out.lE) Hs.out.2.2.2.2.2.2.1 (Hs.out.2.2.2.2.2.2.2.2.2.2.2)).mono ?_;rintro e v7 ⟨s6,rfl,l6,ha,hb⟩;have L6:=lz l6;have g:=H7.out.call hb ha (λr hr=>aC3 (aD4 aFT r hr) dz);have f0:=g.box.frozen 6;have d0:=g.box.cell 6;have q:=g.set 6 s6.val;simp only[Dk,EP,ER]at q;have c0:=q.box.cell 7;obtain⟨w8,hw8,h8⟩:=q.nm;have Hw8:=lz hw8;have H8:=lz h8;clear g q ha hb l6 hw8 h8;go_wp2_with fail;rw[<-Hw8.out];clear c0 f0 d0;refine(aHm x.aA.l x.aA.a x.aA.c w8 (Hr.out.aA.below H8.out.lE) Hs.out.2.2.2.2.2.2.2.1).mono ?_;rintro e v8 ⟨s7,rfl,l7,ha,hb⟩;have L7:=lz l7;have g:=H8.out.call hb ha (λr hr=>aC3 (T:= [91]) (aE4 hr) dz);have f0:=g.box.frozen 7;have d0:=g.box.cell 7;have q:=g.set 7 s7.val;simp only[Dk,EP,ER]at q;obtain⟨⟨n0,r0,k0⟩,⟨n1,r1,k1⟩,⟨n2,r2,k2⟩,⟨n3,r3,k3⟩,⟨n4,r4,k4⟩,⟨n5,r5,k5⟩,⟨n6,r6,k6⟩,⟨n7,r7,k7⟩,-⟩:=q.tri [0,1,2,3,4,5,6,7];obtain⟨wz,hwz,hF⟩:=((((((((q.put 0 (.slice s0.a s0.l.length s0.c)).put 1 (.slice s1.a s1.l.length s1.c)).put 2 (.slice s2.a s2.l.length s2.c)).put 3 (.slice s3.a s3.l.length s3.c)).put 4 (.slice s4.a s4.l.length s4.c)).put 5 (.slice s5.a s5.l.length s5.c)).put 6 (.slice s6.a s6.l.length s6.c)).put 7 (.slice s7.a s7.l.length s7.c)).nm;have hR:=hF.res;simp only[Dk,EP,ER]at hR;obtain⟨z0,z1,z2,z3,z4,z5,z6,z7,-⟩:=hR.many [0,1,2,3,4,5,6,7];have HF:=lz (ai hF.own hF.lE);have Hwz:=lz hwz;clear g q ha hb l7 hF hwz hR;go_wp2_with fail;rw[<-Hwz.out];refine GJ (v:= .agg #[.slice s0.a s0.l.length s0.c,.slice s1.a s1.l.length s1.c,.slice s2.a s2.l.length s2.c,.slice s3.a s3.l.length s3.c,.slice s4.a s4.l.length s4.c,.slice s5.a s5.l.length s5.c,.slice s6.a s6.l.length s6.c,.slice s7.a s7.l.length s7.c]) (by simp[results,results15,go_sem,z0,z1,z2,z3,z4,z5,z6,z7]) rfl ?_;exact⟨⟨s0,s1,s2,s3,s4,s5,s6,s7⟩,rfl,by simp only[ay.er,L0.out,L1.out,L2.out,L3.out,L4.out,L5.out,L6.out,L7.out],HF.out.1,HF.out.2⟩
theorem aHZ{α β:Type}(f:α->β)(p:β->Bool)(l:List α):cV p (l.map f)=cV (λy=>p (f y)) l:=by
 unfold cV;rw[List.findIdx?_map];rfl
theorem aEy{x z:ay}(h:∀y met,gA z y met=gA x y met):∀l met,fJ z l met=fJ x l met
 | [],_=>rfl
 | y :: r,met=>by
  unfold fJ;rw[h]
  cases gA x y met with
  | none=>rfl
  | some m=>exact aEy h r m
section
variable (x:ay)
theorem aFU(s:ByteArray):iM x.er s=iM x s:=aHZ bT.er _ x.mods.l
theorem aGB(s:ByteArray):bg x.er s=bg x s:=by
 have h:cV (λy:bT=>seqB y.nm s) x.er.mods.l=cV (λy:bT=>seqB y.nm s) x.mods.l:=aFU x s;have h2:x.er.mods.l.length=x.mods.l.length:=FD _;unfold bg;rw[h,h2];rfl
theorem aHa(m:Int):fN x.er m=(fN x m).map aC.er:=by
 unfold fN;have h:x.er.mods.l[m.toNat]?=(x.mods.l[m.toNat]?).map bT.er:=List.getElem?_map ..;rw[h]
 cases x.mods.l[m.toNat]?<;>rfl
theorem aHb(l:List aC)(p:Int):jQ (l.map aC.er) p=jQ l p:=by
 unfold jQ;rw[List.getElem?_map]
 cases l[p.toNat]?<;>rfl
theorem aJJ(l:List aC)(s:ByteArray):sj (l.map aC.er) s=sj l s:=aHZ aC.er _ l
theorem aJK(r:bw):mQ x.er r=mQ x r:=by
 unfold mQ;simp only[aFU,aHa,aJJ,aHb]
theorem aGD(r:bw):fD x.er r=fD x r:=by
 unfold fD;simp only[aJK,aHa,aHb]
theorem aFL:fE x.er=(fE x).map λy=>(y.1.er,y.2.er):=by
 have h:x.er.mods.l=x.mods.l.map bT.er:=rfl;unfold fE;rw[h,List.flatMap_map,List.map_flatMap];congr 1;funext m;have h2:m.er.parts.l=m.parts.l.map aC.er:=rfl;unfold D7;rw[h2,Ib,Ib];rfl
theorem aJP(p:aC):xT p.er=xT p:=by
 have h:p.er.procs.l=p.procs.l.map cT.er:=rfl;unfold xT;rw[h,FH];rfl
theorem aMP(m:bT):Ku m.er=Ku m:=by
 have h:m.er.parts.l=m.parts.l.map aC.er:=rfl;have h2:xT∘aC.er=xT:=funext aJP;unfold Ku;rw[h,FH,h2];rfl
theorem aJQ:mG x.er=mG x:=by
 have h1:x.er.mods.l=x.mods.l.map bT.er:=rfl;have h2:x.er.aj.l=x.aj.l.map gq.er:=rfl;have h3:x.er.aF.l=x.aF.l.map fU.er:=rfl;have h4:x.er.causes.l=x.causes.l.map fC.er:=rfl;have g1:Ku∘bT.er=Ku:=funext aMP;unfold mG;rw[h1,h2,h3,h4,FH,FH,FH,FH,g1];rfl
theorem aHt(p:aC):kP p.er=kP p:=by
 have h:p.er.procs.l=p.procs.l.map cT.er:=rfl;unfold kP;rw[h,FH,FD];rfl
theorem aIO(m:bT):mZ m.er=mZ m:=by
 have h:m.er.parts.l=m.parts.l.map aC.er:=rfl;have h2:kP∘aC.er=kP:=funext aHt;unfold mZ;rw[h,FH,h2,FD];rfl
theorem aHc:gi x.er=(gi x).map λy=>⟨y.src,⟨Ag,0,y.dst.l⟩,y.vl⟩:=by
 have h2:x.er.aj.l=x.aj.l.map gq.er:=rfl;have h3:x.er.aF.l=x.aF.l.map fU.er:=rfl;unfold gi;rw[h2,h3,List.map_append,Ib,Ib,Ib,Ib];rfl
theorem aIQ:iV x.er=iV x:=by
 have h1:x.er.mods.l=x.mods.l.map bT.er:=rfl;have h2:x.er.aj.l=x.aj.l.map gq.er:=rfl;have h3:x.er.aF.l=x.aF.l.map fU.er:=rfl;have h4:x.er.causes.l=x.causes.l.map fC.er:=rfl;have g1:mZ∘bT.er=mZ:=funext aIO;unfold iV gU;rw[aHc,h1,h2,h3,h4,FH,FH,FH,g1,FD,FD,FD,FD];rfl
theorem aJR:zR x.er=zR x:=by
 have h1:x.er.mods.l=x.mods.l.map bT.er:=rfl;have h3:x.er.aF.l=x.aF.l.map fU.er:=rfl;have g:(nmB∘λy:WM=>(y.1.er,y.2.er))=nmB:=funext λy=>by
  have a1:y.1.er.parts.l=y.1.parts.l.map aC.er:=rfl;have a2:y.2.er.procs.l=y.2.procs.l.map cT.er:=rfl;show nmB (y.1.er,y.2.er)=nmB y;unfold nmB;rw[a1,a2,Ib,Ib];rfl
 unfold zR;rw[aFL,h1,h3,FH,FH,Ib,Ib,g];rfl
theorem aJS:KG x.er=KG x:=by
 have g:(Bw∘λy:WM=>(y.1.er,y.2.er))=Bw:=funext λy=>by
  have a2:y.2.er.procs.l=y.2.procs.l.map cT.er:=rfl;show Bw (y.1.er,y.2.er)=Bw y;unfold Bw;rw[a2,FH];rfl
 unfold KG;rw[aFL,FH,g]
theorem aJW:K0 x.er=K0 x:=by
 have g:(Bz∘λy:WM=>(y.1.er,y.2.er))=Bz:=funext λy=>by
  have a2:y.2.er.procs.l=y.2.procs.l.map cT.er:=rfl;show Bz (y.1.er,y.2.er)=Bz y;unfold Bz;rw[a2,FH];rfl
 unfold K0;rw[aFL,FH,g]
theorem aKH:tC x.er=tC x:=by
 have h2:x.er.mods.l.length=x.mods.l.length:=FD _;have g:∀y met,gA x.er y met=gA x y met:=λy met=>by
  have e:∀net n st,iP x.er net n st=iP x net n st:=λnet n st=>by
   unfold iP;rw[h2];rfl
  unfold gA;simp only[e,aGB]
 unfold tC;rw[aEy g];rfl
theorem aMp:aFF x.er=aFF x:=by
 have h3:x.er.aF.l=x.aF.l.map fU.er:=rfl;have g:vlB x.er∘fU.er=vlB x:=funext λy=>by
  show vlB x.er y.er=vlB x y;unfold vlB;rw[aGD];rfl
 unfold aFF;rw[h3,FH,g]
theorem aMR:XF x.er=XF x:=by
 have g:Qy x.er=Qy x:=funext λy=>by
  have e:qh y (fE x.er)=qh y (fE x):=by
   rw[aFL];unfold qh;simp only[List.any_map];rfl
  unfold Qy;rw[e,aFU]
 have g2:KU x.er=KU x:=funext λy=>by
  unfold KU;rw[aFU,aFU]
 unfold XF;rw[g,g2];rfl
end
theorem aHu{x z:ay}(h:∀r,fD z r=fD x r)(q:aM)(m:Int)(vl:Bool)(u:List bw)(r:bw):oN z q m vl u r=oN x q m vl u r:=by
 unfold oN;rw[h]
theorem aF5{x z:ay}(h:∀r,fD z r=fD x r)(q:aM)(m:Int)(vl:Bool):∀l u,jl z q m vl l u=jl x q m vl l u
 | [],_=>rfl
 | r :: t,u=>by
  unfold jl;rw[aHu h];exact congrArg _ (funext (aF5 h q m vl t))
def aGS(y z:dZ):Prop:=z.src=y.src/\z.vl=y.vl/\z.dst.l.Sublist y.dst.l
theorem aMS{x:ay}{q:aM}{m:Int}{vl:Bool}{u u' v:List bw}{r:bw}(h:oN x q m vl u r=Ai v)(hu:∀a∈u',a∈u):∃v',oN x q m vl u' r=Ai v'/\∀a∈v',a∈v:=by
 unfold oN at h ⊢;repeat' split at h
 all_goals first | (cases h;done) | skip
 rename_i h1 h2 h3 h4 h5 h6;have h7:¬fP r u'=true:=λc=>h6 (nS.2 (hu r (nS.1 c)))
 injection h with h
 rw[if_neg h1,if_neg h2,if_neg h3,if_neg h4,if_neg h5,if_neg h7];refine⟨_,rfl,λa ha=> ?_⟩;rw[<-h];rcases E2.1 ha with ha | ha
 .exact BP _ (hu a ha)
 .exact EJ _ ha
theorem aKK{x:ay}{q:aM}{m:Int}{vl:Bool}{u v:List bw}{r:bw}(h:oN x q m vl u r=Ai v):∀a∈u,a∈v:=λa ha=>by
 unfold oN at h;repeat' split at h
 all_goals first | (cases h;done) | skip
 injection h with h
 rw[<-h];exact BP _ ha
theorem aKL{x:ay}{q:aM}{m:Int}{vl:Bool}{l l':List bw}(hl:l'.Sublist l):∀{u u' v:List bw},jl x q m vl l u=Ai v->(∀a∈u',a∈u)->∃v',jl x q m vl l' u'=Ai v'/\∀a∈v',a∈v:=by
 induction hl with
 | slnil=>intro u u' v h hu;injection h with h;exact⟨u',rfl,by rw[<-h];exact hu⟩
 | cons r hs ih=>
  intro u u' v h hu;obtain⟨w,h1,h2⟩:=Hg.1 h;exact ih h2 (λa ha=>aKK h1 a (hu a ha))
 | cons_cons r hs ih=>
  intro u u' v h hu;obtain⟨w,h1,h2⟩:=Hg.1 h;obtain⟨w',k1,k2⟩:=aMS h1 hu;obtain⟨v',k3,k4⟩:=ih h2 k2;exact⟨v',Hg.2 ⟨w',k1,k3⟩,k4⟩
theorem aMT{x z:ay}(hc:∀r,fD z r=fD x r){y y':dZ}(hy:aGS y y'){u u' v:List bw}(h:lu x u y=Ai v)(hu:∀a∈u',a∈u):∃v',lu z u' y'=Ai v'/\∀a∈v',a∈v:=by
 obtain⟨e1,e2,e3⟩:=hy;unfold lu at h ⊢;repeat' split at h
 all_goals first | (cases h;done) | skip
 rename_i h1 h2 h3;have h4:¬fP y.src u'=true:=λc=>h3 (nS.2 (hu _ (nS.1 c)))
 rw[e1,e2,hc,if_neg h1,if_neg h2,if_neg h4,aF5 hc];refine aKL e3 h (λa ha=> ?_);rcases E2.1 ha with ha | ha
 .exact BP _ (hu a ha)
 .exact EJ _ ha
theorem aFo{x z:ay}(hc:∀r,fD z r=fD x r):∀{l l':List dZ},iC (λy' y=>aGS y y') l' l->∀{u u' v:List bw},jq x l u=Ai v->(∀a∈u',a∈u)->(jq z l' u').isSome=BR
 | [],[],_,_,_,_,_,_=>rfl
 | [],_ :: _,h,_,_,_,_,_=>h.elim
 | _ :: _,[],h,_,_,_,_,_=>h.elim
 | y :: r,y' :: r',hh,u,u',v,h,hu=>by
  obtain⟨w,h1,h2⟩:=Hg.1 h;obtain⟨w',k1,k2⟩:=aMT hc hh.1 h1 hu;show((lu z u' y').bind (jq z r')).isSome=BR;rw[k1];exact aFo hc hh.2 h2 k2
theorem aGT{α β:Type}{R:β->α->Prop}(f:α->β)(h:∀y,R (f y) y):∀l:List α,iC R (l.map f) l
 | []=>trivial
 | y :: r=>⟨h y,aGT f h r⟩
theorem aGE{α β:Type}{R:β->α->Prop}(f:α->β)(h:∀y,R (f y) y){S:α->β->Prop}(hS:∀y,S y (f y)):∀l:List α,iC S l (l.map f)
 | []=>trivial
 | y :: r=>⟨hS y,aGE f h hS r⟩
section
variable (x:ay)
theorem aIR:oO x.er=oO x:=by
 unfold oO;rw[aHc,Bool.eq_iff_iff];constructor
 .intro h
  obtain⟨v,hv⟩:=Jr.1 h;exact aFo (λr=>(aGD x r).symm) (aGE (R:=λ_ _=>True) (λy:dZ=>⟨y.src,⟨Ag,0,y.dst.l⟩,y.vl⟩) (λ_=>trivial) (λy=>⟨rfl,rfl,List.Sublist.refl _⟩) _) hv (λa ha=>ha)
 .intro h
  obtain⟨v,hv⟩:=Jr.1 h;exact aFo (aGD x) (aGT _ (λy=>⟨rfl,rfl,List.Sublist.refl _⟩) _) hv (λa ha=>ha)
theorem aKd(L R:List fC):iW (L.map fC.er) (R.map fC.er)∘fC.er=iW L R:=funext λy=>by
 have e:∀(Q:List fC) u,yt (Q.map fC.er) u=yt Q u:=λQ u=>by unfold yt;rw[List.any_map];rfl
 show iW (L.map fC.er) (R.map fC.er) y.er=iW L R y;unfold iW;rw[List.any_map];congr 1;funext z;show SE (L.map fC.er) (R.map fC.er) y.er z.er=SE L R y z;unfold SE Yd;simp only[e];rfl
theorem aKg(L:List fC):∀f n (R:List fC),Cy (L.map fC.er) f n (R.map fC.er)=Cy L f n R
 | 0,_,_=>rfl
 | f+1,n,R=>by
  unfold Cy;rw[FD,List.filter_map,aKd,aKg L f]
theorem aIW:C9 x.er=C9 x:=by
 have h:x.er.causes.l=x.causes.l.map fC.er:=rfl;unfold C9;rw[h,FD,aKg]
theorem aKn:cW x.er=cW x:=by
 have h:∀i,aR x.er i=aR x i:=λi=>by
  match i with
  | 0=>exact aJQ x
  | 1=>exact aIQ x
  | 2=>exact aJR x
  | 3=>exact aJS x
  | 4=>exact aJW x
  | 5=>exact aKH x
  | 6=>exact aIR x
  | 7=>exact aMp x
  | 8=>exact aMR x
  | k+9=>exact aIW x
 unfold cW;simp only[h]
end
theorem aDj{α:Type}{W:Al}{b:Nat}{Q:List jK}{e sz:Nat}{E:α->List Bn}{s:Sl α}(hE:∀x,(E x).length=sz)(h:dA W b Q)(hm:aDT e sz E s∈Q):s.l.length<=s.c/\s.c<=EW/\RdG W W.heap.size s.a E sz s.l:=by
 have ho:=h _ hm;obtain⟨A,c,hv,h1,h2⟩:=bp ho;injection hv with _ _ e2
 exact⟨by rw[e2];exact h1,by rw[e2];exact h2,RdG.Pw hE (cp:=s.c) ho⟩
theorem aE2{α β:Type}{f:α->β}{a b:List α}(h:a.map f=b.map f){y:α}(hy:y∈a):∃z∈b,y∈a/\f y=f z:=by
 have h1:f y∈b.map f:=h▸GR.2 ⟨y,hy,rfl⟩;obtain⟨z,hz,e⟩:=GR.1 h1;exact⟨z,hz,hy,e.symm⟩
theorem aIB{W:Al}{B:Nat}{A:Option EK}{l:List Int}(h:RdG W B A (λk:Int=> [GL .i64 k]) 1 l):fV W B A l:=λhn=>by
 obtain⟨b,o,hA,hb,hc⟩:=h hn;exact⟨b,o,hA,hb,λi hi=>by have:=hc i hi 0 _ rfl;rwa[Nat.mul_one]at this⟩
theorem aMU{W:Al}{B:Nat}{A:Option EK}{l:List ByteArray}(h:RdG W B A (λk:ByteArray=> [GI k]) 1 l):iB W B A l:=λhn=>by
 obtain⟨b,o,hA,hb,hc⟩:=h hn;exact⟨b,o,hA,hb,λi hi=>by have:=hc i hi 0 _ rfl;rwa[Nat.mul_one]at this⟩
theorem aHv{W:Al}{B:Nat}{A:Option EK}{l:List jI}(h:RdG W B A jI.cells 2 l):jE W B A l:=λhn=>by
 obtain⟨b,o,hA,hb,hc⟩:=h hn;exact⟨b,o,hA,hb,λi hi=>⟨hc i hi 0 _ rfl,hc i hi 1 _ rfl⟩⟩
theorem aMV{W:Al}{B:Nat}{A:Option EK}{l:List gu}(h:RdG W B A gu.cells 4 l)(hr:∀y∈l,y.rd W B):ku W B A l:=λhn=>by
 obtain⟨b,o,hA,hb,hc⟩:=h hn;exact⟨b,o,hA,hb,λi hi=>⟨hc i hi 0 _ rfl,hc i hi 1 _ rfl,hc i hi 2 _ rfl,hc i hi 3 _ rfl,hr _ (CS hi)⟩⟩
theorem aMW{w:Al}{B:Nat}{A:Option EK}{l:List gu}(h:ku w B A l):∀y∈l,y.rd w B:=λy hy=>by
 obtain⟨i,hi,rfl⟩:=GU hy;obtain⟨b,o,_,_,hc⟩:=h oz;exact(hc i hi).2.2.2.2
theorem aG0{W:Al}{B:Nat}{A:Option EK}{l:List bw}(h:RdG W B A bw.cells 3 l):jo W B A l:=λhn=>by
 obtain⟨b,o,hA,hb,hc⟩:=h hn;exact⟨b,o,hA,hb,λi hi=>⟨hc i hi 0 _ rfl,hc i hi 1 _ rfl,hc i hi 2 _ rfl⟩⟩
theorem aKo{W:Al}{B:Nat}{A:Option EK}{l:List aM}(h:RdG W B A aM.cells 6 l)(hr:∀y∈l,y.rd W B):fu W B A l:=λhn=>by
 obtain⟨b,o,hA,hb,hc⟩:=h hn;exact⟨b,o,hA,hb,λi hi=>⟨hc i hi 0 _ rfl,hc i hi 1 _ rfl,hc i hi 2 _ rfl,hc i hi 3 _ rfl,hc i hi 4 _ rfl,hc i hi 5 _ rfl,hr _ (CS hi)⟩⟩
theorem aKr{w:Al}{B:Nat}{A:Option EK}{l:List aM}(h:fu w B A l):∀y∈l,y.rd w B:=λy hy=>by
 obtain⟨i,hi,rfl⟩:=GU hy;obtain⟨b,o,_,_,hc⟩:=h oz;exact(hc i hi).2.2.2.2.2.2
theorem aKw{W:Al}{B:Nat}{A:Option EK}{l:List cT}(h:RdG W B A cT.cells 5 l)(hr:∀y∈l,y.rd W B):gI W B A l:=λhn=>by
 obtain⟨b,o,hA,hb,hc⟩:=h hn;exact⟨b,o,hA,hb,λi hi=>⟨hc i hi 0 _ rfl,hc i hi 1 _ rfl,hc i hi 2 _ rfl,hc i hi 3 _ rfl,hc i hi 4 _ rfl,hr _ (CS hi)⟩⟩
theorem aKx{w:Al}{B:Nat}{A:Option EK}{l:List cT}(h:gI w B A l):∀y∈l,y.rd w B:=λy hy=>by
 obtain⟨i,hi,rfl⟩:=GU hy;obtain⟨b,o,_,_,hc⟩:=h oz;exact(hc i hi).2.2.2.2.2
theorem aKz{W:Al}{B:Nat}{A:Option EK}{l:List aC}(h:RdG W B A aC.cells 10 l)(hr:∀y∈l,y.rd W B):fW W B A l:=λhn=>by
 obtain⟨b,o,hA,hb,hc⟩:=h hn;exact⟨b,o,hA,hb,λi hi=>⟨hc i hi 0 _ rfl,hc i hi 1 _ rfl,hc i hi 2 _ rfl,hc i hi 3 _ rfl,hc i hi 4 _ rfl,hc i hi 5 _ rfl,hc i hi 6 _ rfl,hc i hi 7 _ rfl,hc i hi 8 _ rfl,hc i hi 9 _ rfl,hr _ (CS hi)⟩⟩
theorem aK3{w:Al}{B:Nat}{A:Option EK}{l:List aC}(h:fW w B A l):∀y∈l,y.rd w B:=λy hy=>by
 obtain⟨i,hi,rfl⟩:=GU hy;obtain⟨b,o,_,_,hc⟩:=h oz;exact(hc i hi).2.2.2.2.2.2.2.2.2.2
theorem aHw{W:Al}{B:Nat}{A:Option EK}{l:List bT}(h:RdG W B A bT.cells 4 l)(hr:∀y∈l,y.rd W B):dK W B A l:=λhn=>by
 obtain⟨b,o,hA,hb,hc⟩:=h hn;exact⟨b,o,hA,hb,λi hi=>⟨hc i hi 0 _ rfl,hc i hi 1 _ rfl,hc i hi 2 _ rfl,hc i hi 3 _ rfl,hr _ (CS hi)⟩⟩
theorem aHx{w:Al}{B:Nat}{A:Option EK}{l:List bT}(h:dK w B A l):∀y∈l,y.rd w B:=λy hy=>by
 obtain⟨i,hi,rfl⟩:=GU hy;obtain⟨b,o,_,_,hc⟩:=h oz;exact(hc i hi).2.2.2.2
theorem aHd{W:Al}{B:Nat}{A:Option EK}{l:List gq}(h:RdG W B A gq.cells 4 l)(hr:∀y∈l,y.rd W B):dY W B A l:=λhn=>by
 obtain⟨b,o,hA,hb,hc⟩:=h hn;exact⟨b,o,hA,hb,λi hi=>⟨hc i hi 0 _ rfl,hc i hi 1 _ rfl,hc i hi 2 _ rfl,hc i hi 3 _ rfl,hr _ (CS hi)⟩⟩
theorem aHe{w:Al}{B:Nat}{A:Option EK}{l:List gq}(h:dY w B A l):∀y∈l,y.rd w B:=λy hy=>by
 obtain⟨i,hi,rfl⟩:=GU hy;obtain⟨b,o,_,_,hc⟩:=h oz;exact(hc i hi).2.2.2.2
theorem aHy{W:Al}{B:Nat}{A:Option EK}{l:List iI}(h:RdG W B A iI.cells 4 l):dL W B A l:=λhn=>by
 obtain⟨b,o,hA,hb,hc⟩:=h hn;exact⟨b,o,hA,hb,λi hi=>⟨hc i hi 0 _ rfl,hc i hi 1 _ rfl,hc i hi 2 _ rfl,hc i hi 3 _ rfl⟩⟩
theorem aK5{W:Al}{B:Nat}{A:Option EK}{l:List aO}(h:RdG W B A aO.cells 4 l):fZ W B A l:=λhn=>by
 obtain⟨b,o,hA,hb,hc⟩:=h hn;exact⟨b,o,hA,hb,λi hi=>⟨hc i hi 0 _ rfl,hc i hi 1 _ rfl,hc i hi 2 _ rfl,hc i hi 3 _ rfl⟩⟩
theorem aK7{W:Al}{B:Nat}{A:Option EK}{l:List fU}(h:RdG W B A fU.cells 7 l)(hr:∀y∈l,y.rd W B):mV W B A l:=λhn=>by
 obtain⟨b,o,hA,hb,hc⟩:=h hn;exact⟨b,o,hA,hb,λi hi=>⟨hc i hi 0 _ rfl,hc i hi 1 _ rfl,hc i hi 2 _ rfl,hc i hi 3 _ rfl,hc i hi 4 _ rfl,hc i hi 5 _ rfl,hc i hi 6 _ rfl,hr _ (CS hi)⟩⟩
theorem aMq{w:Al}{B:Nat}{A:Option EK}{l:List fU}(h:mV w B A l):∀y∈l,y.rd w B:=λy hy=>by
 obtain⟨i,hi,rfl⟩:=GU hy;obtain⟨b,o,_,_,hc⟩:=h oz;exact(hc i hi).2.2.2.2.2.2.2
theorem aHz{W:Al}{B:Nat}{A:Option EK}{l:List iK}(h:RdG W B A iK.cells 5 l)(hr:∀y∈l,y.rd W B):fA W B A l:=λhn=>by
 obtain⟨b,o,hA,hb,hc⟩:=h hn;exact⟨b,o,hA,hb,λi hi=>⟨hc i hi 0 _ rfl,hc i hi 1 _ rfl,hc i hi 2 _ rfl,hc i hi 3 _ rfl,hc i hi 4 _ rfl,hr _ (CS hi)⟩⟩
theorem aH0{w:Al}{B:Nat}{A:Option EK}{l:List iK}(h:fA w B A l):∀y∈l,y.rd w B:=λy hy=>by
 obtain⟨i,hi,rfl⟩:=GU hy;obtain⟨b,o,_,_,hc⟩:=h oz;exact(hc i hi).2.2.2.2.2
theorem aHf{W:Al}{B:Nat}{A:Option EK}{l:List lF}(h:RdG W B A lF.cells 4 l):dS W B A l:=λhn=>by
 obtain⟨b,o,hA,hb,hc⟩:=h hn;exact⟨b,o,hA,hb,λi hi=>⟨hc i hi 0 _ rfl,hc i hi 1 _ rfl,hc i hi 2 _ rfl,hc i hi 3 _ rfl⟩⟩
theorem aIX{W:Al}{B:Nat}{A:Option EK}{l:List fC}(h:RdG W B A fC.cells 3 l)(hr:∀y∈l,y.rd W B):kr W B A l:=λhn=>by
 obtain⟨b,o,hA,hb,hc⟩:=h hn;exact⟨b,o,hA,hb,λi hi=>⟨hc i hi 0 _ rfl,hc i hi 1 _ rfl,hc i hi 2 _ rfl,hr _ (CS hi)⟩⟩
theorem aIY{w:Al}{B:Nat}{A:Option EK}{l:List fC}(h:kr w B A l):∀y∈l,y.rd w B:=λy hy=>by
 obtain⟨i,hi,rfl⟩:=GU hy;obtain⟨b,o,_,_,hc⟩:=h oz;exact(hc i hi).2.2.2
theorem aK8{w W:Al}{B b:Nat}(x' x:cT)(her:x'.er=x.er)(hr:x.rd w B)(ho:dA W b x'.fq):x'.rd W W.heap.size:=by
 obtain⟨a0,b0,r0⟩:=aDj (e:=169) (E:=gu.cells) (sz:=4) (s:=x'.code) (λ_=>rfl) ho (EJ _ (BS ..));have L0:x'.code.l=x.code.l:=by have e:=congrArg (λz:cT=>z.code.l) her;exact e
 exact⟨a0,b0,aMV r0 (λy hy=>have h:=aMW hr.code y (L0▸hy);⟨h.op0⟩)⟩
theorem aLC{w W:Al}{B b:Nat}(x' x:aC)(her:x'.er=x.er)(hr:x.rd w B)(ho:dA W b x'.fq):x'.rd W W.heap.size:=by
 obtain⟨a0,b0,r0⟩:=aDj (e:=3) (E:=(λk:Int=> [GL .i64 k])) (sz:=1) (s:=x'.aG) (λ_=>rfl) ho (BP _ (BP _ (BP _ (EJ _ (BS ..)))));obtain⟨a1,b1,r1⟩:=aDj (e:=3) (E:=(λk:Int=> [GL .i64 k])) (sz:=1) (s:=x'.aX) (λ_=>rfl) ho (BP _ (BP _ (EJ _ (BS ..))));obtain⟨a2,b2,r2⟩:=aDj (e:=73) (E:=aM.cells) (sz:=6) (s:=x'.aq) (λ_=>rfl) ho (BP _ (EJ _ (BS ..)));have L2:x'.aq.l=x.aq.l:=by have e:=congrArg (λz:aC=>z.aq.l) her;exact e
 obtain⟨a3,b3,r3⟩:=aDj (e:=76) (E:=cT.cells) (sz:=5) (s:=x'.procs) (λ_=>rfl) ho (EJ _ (BS ..));have L3:x'.procs.l.map cT.er=x.procs.l.map cT.er:=by have e:=congrArg (λz:aC=>z.procs.l) her;exact e
 exact⟨a0,b0,aIB r0,a1,b1,aIB r1,a2,b2,aKo r2 (λy hy=>have h:=aKr hr.aq y (L2▸hy);⟨h.kd0⟩),a3,b3,aKw r3 (λy hy=>by
  obtain⟨z,hz,_,e⟩:=aE2 L3 hy;exact aK8 y z e (aKx hr.procs z hz) (λr hr=>ho r (EJ _ (EX _ (E6.2 ⟨y,hy,hr⟩)))))⟩
theorem aH1{w W:Al}{B b:Nat}(x' x:bT)(her:x'.er=x.er)(hr:x.rd w B)(ho:dA W b x'.fq):x'.rd W W.heap.size:=by
 obtain⟨a0,b0,r0⟩:=aDj (e:=71) (E:=aC.cells) (sz:=10) (s:=x'.parts) (λ_=>rfl) ho (EJ _ (BS ..));have L0:x'.parts.l.map aC.er=x.parts.l.map aC.er:=by have e:=congrArg (λz:bT=>z.parts.l) her;exact e
 exact⟨a0,b0,aKz r0 (λy hy=>by
  obtain⟨z,hz,_,e⟩:=aE2 L0 hy;exact aLC y z e (aK3 hr.parts z hz) (λr hr=>ho r (EJ _ (EX _ (E6.2 ⟨y,hy,hr⟩)))))⟩
theorem aHg{w W:Al}{B b:Nat}(x' x:gq)(her:x'.er=x.er)(hr:x.rd w B)(ho:dA W b x'.fq):x'.rd W W.heap.size:=by
 obtain⟨a0,b0,r0⟩:=aDj (e:=41) (E:=bw.cells) (sz:=3) (s:=x'.dst) (λ_=>rfl) ho (EJ _ (BS ..));exact⟨a0,b0,aG0 r0⟩
theorem aMr{w W:Al}{B b:Nat}(x' x:fU)(her:x'.er=x.er)(hr:x.rd w B)(ho:dA W b x'.fq):x'.rd W W.heap.size:=by
 obtain⟨a0,b0,r0⟩:=aDj (e:=41) (E:=bw.cells) (sz:=3) (s:=x'.dst) (λ_=>rfl) ho (EJ _ (BS ..));exact⟨a0,b0,aG0 r0⟩
theorem aIZ{w W:Al}{B b:Nat}(x' x:fC)(her:x'.er=x.er)(hr:x.rd w B)(ho:dA W b x'.fq):x'.rd W W.heap.size:=by
 obtain⟨⟨u,nd,ex⟩,⟨An,nn,cn⟩,⟨Ax,nx,cx⟩⟩:=x';have h0:W.ownsRow b 85 2 (.slice An nn cn) nd.length (nd.flatMap jI.cells):=ho _ (BP _ (EJ _ (BS ..)));have h1:W.ownsRow b 9 1 (.slice Ax nx cx) ex.length (ex.flatMap λk:ByteArray=> [GI k]):=ho _ (EJ _ (BS ..));clear her ho;obtain⟨A0,c0,hv,k1,k2⟩:=bp h0;obtain⟨A1,c1,Me,k3,k4⟩:=bp h1;injection hv with e0 e1 e2
 injection Me with e3 e4 e5
 subst e0 e1 e2 e3 e4 e5;exact⟨rfl,k1,k2,aHv (RdG.Pw (λ_=>rfl) h0),rfl,k3,k4,aMU (RdG.Pw (λ_=>rfl) h1)⟩
theorem aH2{w W:Al}{B b:Nat}(x' x:ay)(her:x'.er=x.er)(hr:x.rd w B)(ho:dA W b x'.fq):x'.rd W W.heap.size:=by
 obtain⟨a0,b0,r0⟩:=aDj (e:=67) (E:=bT.cells) (sz:=4) (s:=x'.mods) (λ_=>rfl) ho (BP _ (BP _ (BP _ (BP _ (BP _ (BP _ (BP _ (EJ _ (BS ..)))))))));have L0:x'.mods.l.map bT.er=x.mods.l.map bT.er:=by have e:=congrArg (λz:ay=>z.mods.l) her;exact e
 obtain⟨a1,b1,r1⟩:=aDj (e:=78) (E:=gq.cells) (sz:=4) (s:=x'.aj) (λ_=>rfl) ho (BP _ (BP _ (BP _ (BP _ (BP _ (BP _ (EJ _ (BS ..))))))));have L1:x'.aj.l.map gq.er=x.aj.l.map gq.er:=by have e:=congrArg (λz:ay=>z.aj.l) her;exact e
 obtain⟨a2,b2,r2⟩:=aDj (e:=87) (E:=iI.cells) (sz:=4) (s:=x'.aP) (λ_=>rfl) ho (BP _ (BP _ (BP _ (BP _ (BP _ (EJ _ (BS ..)))))));obtain⟨a3,b3,r3⟩:=aDj (e:=46) (E:=aO.cells) (sz:=4) (s:=x'.links) (λ_=>rfl) ho (BP _ (BP _ (BP _ (BP _ (EJ _ (BS ..))))));obtain⟨a4,b4,r4⟩:=aDj (e:=44) (E:=fU.cells) (sz:=7) (s:=x'.aF) (λ_=>rfl) ho (BP _ (BP _ (BP _ (EJ _ (BS ..)))));have L4:x'.aF.l.map fU.er=x.aF.l.map fU.er:=by have e:=congrArg (λz:ay=>z.aF.l) her;exact e
 obtain⟨a5,b5,r5⟩:=aDj (e:=89) (E:=iK.cells) (sz:=5) (s:=x'.bQ) (λ_=>rfl) ho (BP _ (BP _ (EJ _ (BS ..))));have L5:x'.bQ.l=x.bQ.l:=by have e:=congrArg (λz:ay=>z.bQ.l) her;exact e
 obtain⟨a6,b6,r6⟩:=aDj (e:=83) (E:=fC.cells) (sz:=3) (s:=x'.causes) (λ_=>rfl) ho (BP _ (EJ _ (BS ..)));have L6:x'.causes.l.map fC.er=x.causes.l.map fC.er:=by have e:=congrArg (λz:ay=>z.causes.l) her;exact e
 obtain⟨a7,b7,r7⟩:=aDj (e:=91) (E:=lF.cells) (sz:=4) (s:=x'.aA) (λ_=>rfl) ho (EJ _ (BS ..));exact⟨a0,b0,aHw r0 (λy hy=>by
  obtain⟨z,hz,_,e⟩:=aE2 L0 hy;exact aH1 y z e (aHx hr.mods z hz) (λr hr=>ho r (BP _ (BP _ (BP _ (BP _ (BP _ (BP _ (BP _ (EJ _ (EX _ (E6.2 ⟨y,hy,hr⟩)))))))))))),a1,b1,aHd r1 (λy hy=>by
  obtain⟨z,hz,_,e⟩:=aE2 L1 hy;exact aHg y z e (aHe hr.aj z hz) (λr hr=>ho r (BP _ (BP _ (BP _ (BP _ (BP _ (BP _ (EJ _ (EX _ (E6.2 ⟨y,hy,hr⟩))))))))))),a2,b2,aHy r2,a3,b3,aK5 r3,a4,b4,aK7 r4 (λy hy=>by
  obtain⟨z,hz,_,e⟩:=aE2 L4 hy;exact aMr y z e (aMq hr.aF z hz) (λr hr=>ho r (BP _ (BP _ (BP _ (EJ _ (EX _ (E6.2 ⟨y,hy,hr⟩)))))))),a5,b5,aHz r5 (λy hy=>have h:=aH0 hr.bQ y (L5▸hy);⟨h.aEl,h.lv0,h.dd0⟩),a6,b6,aIX r6 (λy hy=>by
  obtain⟨z,hz,_,e⟩:=aE2 L6 hy;exact aIZ y z e (aIY hr.causes z hz) (λr hr=>ho r (BP _ (EJ _ (EX _ (E6.2 ⟨y,hy,hr⟩)))))),a7,b7,aHf r7⟩
structure iN(s:aQ)(cnt:List Int)(n:Nat)(E:List aI)(B:Nat):Prop where
 len:cnt.length=n
 lo:∀t,0<=cnt.getD t 0
 hi:∀t,cnt.getD t 0<=B
 met:∀e∈E,e.t<n->0<=s.at e.f->s.at e.t=s.at e.f+1->0<cnt.getD e.t 0
theorem iN.start(s:aQ)(n:Nat):iN s (Fe n 0) n [] 0:=by
 have h:∀t,(Fe n (0:Int)).getD t 0=0:=λt=>by
  rw[E1,List.getElem?_replicate];split<;>rfl
 exact⟨qz,λt=>by rw[h];exact Int.le_refl _,λt=>by rw[h];exact Int.le_refl _,λe he=>absurd he qz⟩
section
variable {s:aQ} {cnt:List Int} {n B:Nat} {E:List aI}
theorem iN.mono(h:iN s cnt n E B){E':List aI}{B':Nat}(hB:B<=B')(hE:∀e∈E',e∈E\/¬(0<=s.at e.f/\s.at e.t=s.at e.f+1)):iN s cnt n E' B':=
 ⟨h.len,h.lo,λt=>by have:=h.hi t;omega,λe he ht h0 h1=>by
  rcases hE e he with k | k
  .exact h.met e k ht h0 h1
  .exact absurd ⟨h0,h1⟩ k⟩
theorem iN.mark(h:iN s cnt n E B){t:Nat}(ht:t<n){E':List aI}(hE:∀e∈E',e∈E\/e.t=t\/¬(0<=s.at e.f/\s.at e.t=s.at e.f+1)):iN s (cnt.set t (cnt.getD t 0+1)) n E' (B+1):=by
 have hg:∀j,(cnt.set t (cnt.getD t 0+1)).getD j 0=if j=t then cnt.getD t 0+1 else cnt.getD j 0:=λj=>gQ _ _ _ _ _ (by rw[h.len];exact ht)
 have h1:=h.lo t;have h2:=h.hi t;refine⟨by simpa using h.len,λj=> ?_,λj=> ?_,λe he hj h0 h1'=> ?_⟩
 .rw[hg];split
  .omega
  .exact h.lo j
 .rw[hg];split
  .omega
  .have:=h.hi j;omega
 .rw[hg];split
  .omega
  .rename_i hne
   rcases hE e he with k | k | k
   .exact h.met e k hj h0 h1'
   .exact absurd k hne
   .exact absurd ⟨h0,h1'⟩ k
end
theorem JF{x:ay}(hc:cW x=0)(net:Int){y:fU}(hy:y∈x.aF.l):(mh x net y).length=x.mods.l.length+x.aP.l.length:=by
 have h1:=(jw hc net hy).inv.len;have h2:=Eo hc;unfold mh;rw[GW,h1];have h2:x.mods.l.length+x.aP.l.length<=12:=h2;omega
theorem Zg{x:ay}(hc:cW x=0)(net:Int){y:fU}(hy:y∈x.aF.l)(k:Nat)(hk:k<(mh x net y).length):(mh x net y)[k]=(dW x net y).at k:=by
 have h0:=JF hc net hy;unfold mh at hk ⊢;rw[List.getElem_take];unfold aQ.at;rw[E1,List.getElem?_eq_getElem];rfl
theorem aHA{α β:Type}(f:α->β)(l:List α)(k:Nat)(hk:k<l.length)(v:α)(h:f v=f l[k]):(l.set k v).map f=l.map f:=by
 have:= @List.set_getElem_self _ (l.map f) k (by simpa using hk);rw[GN]at this;rw[List.map_set,h,this]
theorem aHQ{α:Type}{p:α->Bool}{l:List α}{k:Nat}{v:α}(h:l.all p=BR)(hv:p v=BR):(l.set k v).all p=true:=by
 rw[EL]at h ⊢;intro a ha;rcases List.mem_or_eq_of_mem_set ha with ha | rfl
 .exact h a ha
 .exact hv
theorem aFQ{α:Type}{R:α->α->Prop}(hr:∀y,R y y):∀l:List α,iC R l l
 | []=>trivial
 | y :: r=>⟨hr y,aFQ hr r⟩
theorem aGY{α β:Type}{R:α->β->Prop}:∀{a:List α} {b:List β} {c:List α} {d:List β},iC R a b->iC R c d->iC R (a++c) (b++d)
 | [],[],_,_,_,h=>h
 | [],_ :: _,_,_,h,_=>h.elim
 | _ :: _,[],_,_,h,_=>h.elim
 | _ :: _,_ :: _,_,_,h,h'=>⟨h.1,aGY h.2 h'⟩
theorem aGa{α:Type}{R:α->α->Prop}(hr:∀y,R y y):∀(l:List α) (k:Nat) (hk:k<l.length) (v:α),R v l[k]->iC R (l.set k v) l
 | [],k,hk,_,_=>by simp at hk
 | y :: r,0,_,v,h=>⟨h,aFQ hr r⟩
 | y :: r,k+1,hk,v,h=>⟨hr y,aGa hr r k (by simpa using hk) v (by simpa using h)⟩
section
variable {x:ay}
theorem aLF(hc:cW x=0){k:Nat}(hk:k<x.aF.l.length)(d:Sl bw)(hd:d.l.Sublist x.aF.l[k].dst.l)(h0:0<d.l.length)(V:Sl fU)(hV:V.l=x.aF.l.set k {x.aF.l[k]with dst:=d}):cW {x with aF:=V}=0:=by
 rw[aCE];have hU:=aCE.1 hc;obtain⟨y,hy⟩:=ez (x.aF.l[k]);have hym:y∈x.aF.l:=by rw[hy];exact CS hk
 rw[<-hy]at hd hV;have KQ:∀r,fD {x with aF:=V} r=fD x r:=λr=>rfl
 intro j hj
 match j with
 | 0=>
  have h:mG x=true:=hU 0 oz;show mG {x with aF:=V}=BR;unfold mG at h ⊢;simp only[BW]at h ⊢;obtain⟨⟨⟨⟨g1,g2⟩,g3⟩,g4⟩,g5⟩:=h;obtain⟨⟨⟨f1,f2⟩,f3⟩,f4⟩:=g1;refine⟨⟨⟨⟨⟨⟨⟨f1,f2⟩,f3⟩,f4⟩,?_⟩,g3⟩,g4⟩,g5⟩;show V.l.all Z9=BR;rw[hV];refine aHQ g2 ?_;have h1:=EL.1 g2 y hym;unfold Z9 sV at h1 ⊢;simp only[BW,decide_eq_true_eq]at h1 ⊢;exact⟨⟨h1.1.1,h1.1.2.1,h0,EL.2 λr hr=>EL.1 h1.1.2.2.2 r (hd.mem hr)⟩,h1.2⟩
 | 1=>
  have h:iV x=true:=hU 1 oz;show iV {x with aF:=V}=BR;unfold iV at h ⊢;simp only[BW]at h ⊢;have hl:V.l.length=x.aF.l.length:=by rw[hV,List.length_set]
  have aMs:gU {x with aF:=V}=gU x:=by unfold gU;simp only[hl]
  refine⟨?_,by rw[aMs];exact h.2⟩;have h1:=h.1;unfold gi at h1 ⊢;rw[List.all_append,BW,FH,FH]at h1 ⊢;refine⟨h1.1,?_⟩;show V.l.all (iL∘dZ.Pg)=BR;rw[hV];refine aHQ h1.2 ?_;have h2:=EL.1 h1.2 y hym;have h3:=hd.length_le;show iL (dZ.Pg {y with dst:=d})=BR;have h4:iL (dZ.Pg y)=true:=h2;unfold iL at h4 ⊢;have e1:(dZ.Pg y).dst=y.dst:=rfl;have e2:(dZ.Pg {y with dst:=d}).dst=d:=rfl;rw[e1]at h4;rw[e2];simp only[Bool.not_eq_true',decide_eq_false_iff_not]at h4 ⊢;omega
 | 2=>
  have h:zR x=true:=hU 2 oz;have e:V.l.map (·.nm)=x.aF.l.map (·.nm):=by rw[hV];exact aHA _ _ _ hk _ (by rw[<-hy])
  show zR {x with aF:=V}=BR;unfold zR at h ⊢;show((fE x).all nmB&&(eM (x.mods.l.map (·.nm))&&eM (x.aP.l.map (·.nm))&&x.mods.l.all (qH x)&&eM (V.l.map (·.nm))))=BR;rw[e];exact h
 | 3=>exact(hU 3 (by omega):KG x=BR)
 | 4=>exact(hU 4 (by omega):K0 x=BR)
 | 5=>
  have h:tC x=true:=hU 5 oz;show tC {x with aF:=V}=BR;unfold tC at h ⊢;rw[aEy (x:=x) (z:={x with aF:=V}) (λy met=>rfl)];exact h
 | 6=>
  have h:oO x=true:=hU 6 oz;show oO {x with aF:=V}=BR;unfold oO at h ⊢;obtain⟨v,hv⟩:=Jr.1 h;refine aFo KQ ?_ hv (λa ha=>ha);have hr:∀y:dZ,aGS y y:=λy=>⟨rfl,rfl,List.Sublist.refl _⟩
  show iC (λy' y=>aGS y y') (x.aj.l.map dZ.Mf++V.l.map dZ.Pg) (x.aj.l.map dZ.Mf++x.aF.l.map dZ.Pg);refine aGY (aFQ (R:=λy' y=>aGS y y') hr _) ?_;rw[hV,List.map_set];refine aGa (R:=λy' y=>aGS y y') hr _ k (by simpa using hk) _ ?_;rw[GN,<-hy];exact⟨rfl,rfl,hd⟩
 | 7=>
  have h:aFF x=true:=hU 7 oz;show V.l.all (vlB x)=BR;rw[hV];exact aHQ h (EL.1 h y hym)
 | 8=>exact(hU 8 (by omega):XF x=BR)
 | 9=>exact(hU 9 (by omega):C9 x=BR)
 | j+10=>omega
end
theorem aGK{x z:ay}(hl:z.links.l=x.links.l)(hn:∀s,bg z s=bg x s)(hm:z.mods.l.length=x.mods.l.length)(net:Int)(src:Nat):gj z net src=gj x net src:=by
 have h1:∀i y,lC z net src i y=lC x net src i y:=λi y=>by unfold lC;rw[hn,hn,hm]
 have h2:∀l i,dD z net src i l=dD x net src i l:=λl=>by
  induction l with
  | nil=>intro i;rfl
  | cons y r ih=>intro i;show lC z net src i y++dD z net src (i+1) r=_;rw[h1,ih];rfl
 unfold gj;rw[hl,h2]
theorem aH3{x z:ay}(hc:cW x=0)(hz:cW z=0){y:fU}(hy:y∈x.aF.l)(hyz:y∈z.aF.l)(l:aO)(hl:z.links.l=x.links.l++ [l])(hn:∀s,bg z s=bg x s)(hm:z.mods.l.length=x.mods.l.length)(net:Int)(n:Nat)(h0:0<=(dW x net y).at n):
 0<=(dW z net y).at n/\(dW z net y).at n<=(dW x net y).at n:=by
 have hs:dX z y=dX x y:=by unfold dX;rw[hn]
 have h1:=jw hc net hy;have h2:=jw hz net hyz;rw[hs]at h2;have hE:∀e∈gj x net (dX x y),∃e'∈gj z net (dX x y),e'.f=e.f/\e'.t=e.t:=λe he=>by
  refine⟨e,?_,rfl,rfl⟩;have h3:gj z net (dX x y)=gj x net (dX x y)++lC z net (dX x y) (0+x.links.l.length) l:=by
   rw[<-aGK (x:=x) (z:={z with links:=x.links}) rfl hn hm];unfold gj;rw[hl,tG];have h4:∀(l:List aO) i,dD {z with links:=x.links} net (dX x y) i l=dD z net (dX x y) i l:=λl=>by
    induction l with
    | nil=>intro i;rfl
    | cons y r ih=>intro i;show lC _ net _ i y++dD _ net _ (i+1) r=_;rw[ih];rfl
   rw[h4]
  rw[h3];exact BP _ he
 obtain⟨j,hj⟩:∃j:Nat,(dW x net y).at n=j:=⟨((dW x net y).at n).toNat,oz⟩;have:=more_edges h1 h2 hE j n hj;rw[hj];exact this
theorem aH4{p:cT}(h:IL p=BR):p.small:=by
 simp only[IL,BW,decide_eq_true_eq]at h;show p.code.l.length<=100000;omega
theorem aH5{p:aC}(h:kP p=BR):p.small:=by
 simp only[kP,BW,List.all_cons,List.all_nil,dJ,decide_eq_true_eq,and_true]at h;obtain⟨⟨⟨⟨⟨h1,⟨⟨_,_⟩,h2⟩,h3⟩,_⟩,_⟩,_⟩,h4⟩:=h;exact⟨oz,oz,oz,oz,λq hq=>aH4 (EL.1 h4 q hq)⟩
theorem aIa{m:bT}(h:mZ m=BR):m.small:=by
 simp only[mZ,BW,decide_eq_true_eq]at h;exact⟨by have:=h.1.2;omega,λp hp=>aH5 (EL.1 h.2 p hp)⟩
theorem aLH{x:ay}(hc:cW x=0){w:Al}{B:Nat}(hr:x.rd w B):x.small:=by
 have hl:iV x=true:=nQ hc 1 oz;have h:=aKD hl;simp only[iV,gU,BW]at hl;have hv:=EL.1 hl.2.1.1.1.1.2 (x.aA.l.length:Int) qz;simp only[dJ,BW,decide_eq_true_eq]at hv;have h1:=h.ml;have h2:=h.chl;have h3:=h.vl;have h4:=h.sl;have h5:=h.ll;have h6:=h.hl;have h7:=h.cl;refine⟨oz,oz,oz,oz,oz,oz,oz,oz,λm hm=>aIa (h.mods m hm),λm hm=> ?_,λm hm=> ?_,λm hm=> ?_⟩
 .have:=h.aKC (dZ.Mf m) (BP _ (GR.2 ⟨m,hm,rfl⟩))
  exact nT this dz
 .have:=h.aKC (dZ.Pg m) (EJ _ (GR.2 ⟨m,hm,rfl⟩))
  exact nT this dz
 .have:=aCB h (Ji hr) m hm
  exact⟨oz,oz⟩
def aNA(bt:Nat)(w W:Al)(l:List bw)(q:Nat)(v:Bn):Prop:=∃s:Sl bw,v=s.val/\s.l=l.eraseIdx q/\s.l.length<=s.c/\s.c<=EW/\jo W W.heap.size s.a s.l/\w.grownBy W Ag/\∀b o f,s.a=Ai ⟨b,o,f⟩->b=bt\/w.heap.size<=b
theorem aLJ:(pG.info? 41).map (λi=>(i.zero,i.size,i.bytes))=Ai (Ai (.agg #[.string ⟨#[]⟩,.string ⟨#[]⟩,.string ⟨#[]⟩]),3,48):=by kernel_rfl
theorem step_drop{ops:Array Oper}{o:Oper}{a:Act}{w:Al}{K:Act->Al->Prop}{Q:Exit->Act->Al->Prop}{E:Prop}(hgd:o.guard=Ag)(s x:Operand)
 (ho:o.op= .call {callee:= .builtin .append,args:= #[s,x],argTypes:= #[42,42]}) (l:List bw) (q:Nat) (hq:q<l.length) (cp:Nat) (KQ:l.length<=cp) (hl:l.length<=1000) (bt:Nat)
 (fK:RdG w w.heap.size (Ai ⟨bt,0,Ag⟩) bw.cells 3 l) (hs:a.eval s= .slice (Ai ⟨bt,0,Ag⟩) q q) (A:Option EK) (hA:A=if cp=q+1 then Ai (⟨bt,0,Ag⟩:EK)else Ai ⟨bt,(q+1)*3,Ag⟩)
 (c:Nat) (hx:a.eval x= .slice A (l.length-(q+1)) c) (h:∀v w',aNA bt w w' l q v->K (a.put o.dst v) w'):
 if Region.wanted o (yielded ops a.tmps)=BR then Oper.wp pG o a w K Q else E:=by
 obtain⟨hlen,hre⟩:=RdG.reads (E:=bw.cells) (sz:=3) dz (λ_=>rfl) fK;obtain⟨ad,hae,Ef,hre⟩:=hre oz;obtain rfl:(⟨bt,0,Ag⟩:EK)=ad:=ES.inj hae;have hsplit:l.flatMap bw.cells=(l.take q).flatMap bw.cells++(l.drop q).flatMap bw.cells:=by rw[<-Ig,List.take_append_drop]
 have aMX:l.flatMap bw.cells=(l.take (q+1)).flatMap bw.cells++(l.drop (q+1)).flatMap bw.cells:=by rw[<-Ig,List.take_append_drop]
 have hlt:((l.take q).flatMap bw.cells).length=q*3:=by rw[aD8 bw.cells 3 (λ_=>rfl),GW,Nat.min_eq_left oz]
 have sF:((l.take (q+1)).flatMap bw.cells).length=(q+1)*3:=by rw[aD8 bw.cells 3 (λ_=>rfl),GW,Nat.min_eq_left oz]
 have holds:∀j u,((l.take q).flatMap bw.cells)[j]?=Ai u->w.cell? ((⟨bt,0,Ag⟩:EK).add j)=Ai u:=λj u hj=>hre j u (by
  rw[hsplit,List.getElem?_append_left (IU.1 hj).1];exact hj)
 have hnews:∀j u,((l.drop (q+1)).flatMap bw.cells)[j]?=Ai u->w.cell? ((⟨bt,(q+1)*3,Ag⟩:EK).add j)=Ai u:=λj u hj=>by
  have:=hre ((q+1)*3+j) u (by
   rw[aMX,List.getElem?_append_right (by rw[sF];omega),sF,Nat.add_sub_cancel_left];exact hj)
  rw[add_plain]at this ⊢;simpa using this
 have hw:Region.wanted o (yielded ops a.tmps)=true:=by simp[Region.wanted,hgd]
 by_cases hm:l.length=q+1
 .rw[if_pos hw]
  obtain⟨i0,lX,hz0,hz1,hz2⟩:=info_parts aLJ;have hx0:a.eval x= .slice A 0 c:=by rw[hx,hm,Nat.sub_self]
  obtain⟨a2,ha2⟩:∃a2,A=Ai a2:=by rw[hA];split<;>exact⟨_,rfl⟩
  have KA:Src pG i0.size 42 (.slice A 0 c) 0 [] w:=by
   rw[ha2];exact Src.ofSlice w underlying42 a2 0 c [] qz (λj u hj=>by simp at hj) (λu hu=>by cases hu)
  have hrun:=run_append_nothing (P:=pG) w 42 42 o.type 41 i0 underlying42 lX (Ai ⟨bt,0,Ag⟩) q q nL (.slice A 0 c) KA;unfold Oper.wp;simp[execOp,ho,resolve,invoke,builtin,hs,hx0,hrun,Result.andThen];have he:l.eraseIdx q=l.take q:=by rw[List.eraseIdx_eq_take_drop_succ,List.drop_eq_nil_of_le oz,List.append_nil]
  have hlq:(l.take q).length=q:=by rw[GW,Nat.min_eq_left oz]
  refine h _ w ⟨⟨Ai ⟨bt,0,Ag⟩,q,l.take q⟩,by show _=Value.slice _ (l.take q).length q;rw[hlq],he.symm,by rw[hlq];exact Nat.le_refl _,(show q<=EW by unfold EW;omega),?_,World.grownBy.refl _ _,λb o f e=> .inl (congrArg (λa:Option Addr=>match a with | some p=>p.block | none=>0) (show Ai (⟨bt,0,Ag⟩:EK)=Ai ⟨b,o,f⟩from e)).symm⟩;intro hn;refine⟨bt,0,rfl,Ef,λi hi=> ?_⟩;have hi':i<q:=by rw[<-hlq];exact hi
  have hg:∀j u,(bw.cells ((l.take q)[i]))[j]?=Ai u->w.cell? ⟨bt,0+i*3+j,Ag⟩=Ai u:=λj u hj=>by
   have h3:j<3:=(IU.1 hj).1;have:=holds (i*3+j) u ((aS bw.cells 3 (λ_=>rfl) (l.take q) i j hi h3).trans hj);rw[add_plain]at this;rw[Nat.add_assoc];exact this
  exact⟨hg 0 _ rfl,hg 1 _ rfl,hg 2 _ rfl⟩
 .obtain⟨i0,lX,hz0,hz1,hz2⟩:=info_parts aLJ
  have hA2:A=Ai ⟨bt,(q+1)*3,Ag⟩:=by rw[hA,if_neg oz]
  refine step_append_grows hgd s x 42 ho 41 i0 _ 3 48 underlying42 lX hz0 hz1 hz2 rfl dz (Ai ⟨bt,0,Ag⟩) q q ((l.take q).flatMap bw.cells) hs (λe=>by cases e) hlt (λb hb=>by injection hb with hb;rw[<-hb];exact holds)
   ⟨bt,(q+1)*3,Ag⟩ (l.length-(q+1)) c ((l.drop (q+1)).flatMap bw.cells) (by rw[hx,hA2]) (by rw[aD8 bw.cells 3 (λ_=>rfl),List.length_drop]) hnews (aH9 _) oz (by unfold EW;omega) oz λv' w' hown hg=> ?_
  have he:(l.take q).flatMap bw.cells++(l.drop (q+1)).flatMap bw.cells=(l.eraseIdx q).flatMap bw.cells:=by rw[<-Ig,<-List.eraseIdx_eq_take_drop_succ]
  have hle:q+(l.length-(q+1))=(l.eraseIdx q).length:=by rw[List.length_eraseIdx,if_pos hq];omega
  rw[he,hle]at hown;obtain⟨A',c',rfl,k1,k2⟩:=bp hown;exact h _ w' ⟨⟨A',c',l.eraseIdx q⟩,rfl,rfl,k1,k2,L8 hown,hg,λb o f e=> .inr (hown.lt b (by have e:A'=Ai ⟨b,o,f⟩:=e;rw[e];rfl)).1⟩
