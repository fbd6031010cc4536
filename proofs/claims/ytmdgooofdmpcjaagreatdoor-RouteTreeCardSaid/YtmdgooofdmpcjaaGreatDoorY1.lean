import Derived.ScopeJumps
import Derived.WideKeyEntry
import Derived.RegionTactic
import Derived.ChangeAlike
import Derived.BigQuiet
import Derived.RegionIn
import Derived.Test.YtmdgooofdmpcjaaGreatDoorY0
set_option maxRecDepth 100000
set_option linter.unusedSimpArgs false
set_option linter.unusedVariables false
set_option linter.unusedSectionVars false
open Go.Proofs.Tryz renaming prog → pG
namespace Go.Proofs.YtmdgooofdmpcjaaGreatDoor
section
open Go.ChangeShapes Go.WideShapes Go.ChangeAt Go.RowKit
attribute [local go_sem] Oper.semAt_some
def jO(b:Int):Bool:=(decide (b≥97)&&decide (b≤122))||(decide (b≥65)&&decide (b≤90))
def lD(b:Int):Bool:=decide (b≥48)&&decide (b≤57)
def mB(b:Int):Bool:=(jO b||lD b)||(b==95)
def wP(b:Int):Bool:=(((((b==123)||(b==125))||(b==59))||(b==44))||(b==46))||(b==58)
def fM(s:ByteArray)(i:Nat):Int:=if h:i<s.size then((s[i]'h).toNat:Int)else 0
theorem jf{s:ByteArray}{i:Nat}(h:i<s.size):((s[i]'h).toNat:Int)=fM s i:=by unfold fM;rw[dif_pos h]
theorem Dt(b:Int)(w:World):Calls pG 254 #[.int .u8 b] w fun e w'=>e= .returned (.bool (jO b))∧w=w':=by
 obtain⟨q,hq⟩:∃q,jO b=q:=⟨_,rfl⟩;rw[hq];unfold jO at hq;have Hq:=lz hq;clear hq
 cases h1:decide (b≥97)<;>cases h2:decide (b≤122)<;>cases h3:decide (b≥65)<;>cases h4:decide (b≤90)
 all_goals
  rw[h1,h2,h3,h4]at Hq;go_enter Tryz.func254,Tryz.ntmps254;go_wp2;go_ret;exact⟨fT Hq.out,rfl⟩
theorem JX(b:Int)(w:World):Calls pG 255 #[.int .u8 b] w fun e w'=>e= .returned (.bool (lD b))∧w=w':=by
 obtain⟨q,hq⟩:∃q,lD b=q:=⟨_,rfl⟩;rw[hq];unfold lD at hq;have Hq:=lz hq;clear hq
 cases h1:decide (b≥48)<;>cases h2:decide (b≤57)
 all_goals
  rw[h1,h2]at Hq;go_enter Tryz.func255,Tryz.ntmps255;go_wp2;go_ret;exact⟨fT Hq.out,rfl⟩
theorem CH(b:Int)(w:World):Calls pG 256 #[.int .u8 b] w fun e w'=>e= .returned (.bool (mB b))∧w=w':=by
 have hl:=Dt b w;have hd:=JX b w;obtain⟨q,hq⟩:∃q,mB b=q:=⟨_,rfl⟩;rw[hq];unfold mB at hq;have Hq:=lz hq;clear hq
 cases h1:jO b<;>cases h2:lD b<;>cases h3:(b==95)
 all_goals
  rw[h1,h2,h3]at Hq;rw[h1]at hl;rw[h2]at hd;have Hl:=lz hl;have Hd:=lz hd;clear hl hd h1 h2;go_enter Tryz.func256,Tryz.ntmps256;go_wp2_with (first | (go_at_call 254;refine Hl.out.mono ?_;rintro e w' ⟨rfl,rfl⟩) | (go_at_call 255;refine Hd.out.mono ?_;rintro e w' ⟨rfl,rfl⟩));go_ret;exact⟨fT Hq.out,rfl⟩
theorem aEU(b:Int)(w:World):Calls pG 253 #[.int .u8 b] w fun e w'=>e= .returned (.bool (wP b))∧w=w':=by
 obtain⟨q,hq⟩:∃q,wP b=q:=⟨_,rfl⟩;rw[hq];unfold wP at hq;have Hq:=lz hq;clear hq;have fin:∀q1:Bool,q1=q→Calls pG 253 #[.int .u8 b] w (fun e w'=>e= .returned (.bool q1)∧w=w')→Calls pG 253 #[.int .u8 b] w (fun e w'=>e= .returned (.bool q)∧w=w'):=fun _ h=>h▸id
 cases h1:(b==123)
 ·cases h2:(b==125)
  ·cases h3:(b==59)
   ·cases h4:(b==44)
    ·cases h5:(b==46)
     ·cases h6:(b==58)
      all_goals
       rw[h1,h2,h3,h4,h5,h6]at Hq;go_enter Tryz.func253,Tryz.ntmps253;go_wp2;go_ret;exact⟨fT Hq.out,rfl⟩
     ·rw[h1,h2,h3,h4,h5]at Hq
      go_enter Tryz.func253,Tryz.ntmps253;go_wp2;go_ret;exact⟨fT Hq.out,rfl⟩
    ·rw[h1,h2,h3,h4]at Hq
     go_enter Tryz.func253,Tryz.ntmps253;go_wp2;go_ret;exact⟨fT (by simpa using Hq.out),rfl⟩
   ·rw[h1,h2,h3]at Hq
    go_enter Tryz.func253,Tryz.ntmps253;go_wp2;go_ret;exact⟨fT (by simpa using Hq.out),rfl⟩
  ·rw[h1,h2]at Hq
   go_enter Tryz.func253,Tryz.ntmps253;go_wp2;go_ret;exact⟨fT (by simpa using Hq.out),rfl⟩
 ·rw[h1]at Hq
  go_enter Tryz.func253,Tryz.ntmps253;go_wp2;go_ret;exact⟨fT (by simpa using Hq.out),rfl⟩
def CJ(s:ByteArray):Nat→Bool
 | 0=>true
 | k+1=>CJ s k&&mB (fM s k)
theorem PE{s:ByteArray}{n k:Nat}(h:CJ s n=true)(hk:k<n):mB (fM s k)=true:=by
 induction n with
 | zero=>omega
 | succ n ih=>
  simp only[CJ,Bool.and_eq_true]at h;by_cases e:k=n
  ·subst e;exact h.2
  ·exact ih h.1 oz
def MG(s:ByteArray):Bool:=(decide (0<s.size)&&decide (s.size≤24))&&(jO (fM s 0)&&CJ s s.size)
theorem aAh{s:ByteArray}(w:World)(hn:MG s=true):Calls pG 257 #[.string s] w fun e w'=>e= .returned (.bool true)∧w=w':=by
 simp only[MG,Bool.and_eq_true,decide_eq_true_eq]at hn;obtain⟨⟨h0,h24⟩,hl,sy⟩:=hn;have hL:=Dt ((s[0]'h0).toNat:Int) w;rw[jf h0,hl,←jf h0]at hL;have hI:=fun(k:Nat) (hk:k<s.size)=>CH ((s[k]'hk).toNat:Int) w
 have HL:=lz hL;have HI:=lz hI;have VT:=lz sy;clear hL hI sy hl;have e1:((s.size:Int)==0)=false:=by rw[beq_eq_false_iff_ne];omega
 have e2:decide ((s.size:Int)>24)=false:=by simp;omega
 go_enter Tryz.func257,Tryz.ntmps257;go_wp2_with (go_at_call 254;refine HL.out.mono ?_;rintro e w' ⟨rfl,rfl⟩);go_loopw [3] (fun t wr=>∃k:Nat,k≤s.size∧t= .int .i64 k∧wr=w) (fun t _=>s.size-(intOf t).toNat)
 case atStart=>exact⟨0,nZ,rfl,rfl⟩
 case round=>
  obtain⟨k,hk,rfl,rfl⟩:=hrel;by_cases hlt:k<s.size
  ·have hI:=HI.out k hlt
   rw[jf hlt,PE VT.out hlt,←jf hlt]at hI;have HI1:=lz hI;clear hI;go_wp2_with (go_at_call 256;refine HI1.out.mono ?_;rintro e w' ⟨rfl,rfl⟩);go_roundw
   case rel=>exact⟨k+1,oz,by go_num,trivial⟩
   case measure=>simp[intOf];omega
  ·go_wp2_with fail
   go_ret;exact⟨rfl,rfl⟩
def FP(s:ByteArray):Nat→Nat→Int→Option Int
 | 0,_,_=>none
 | f+1,i,n=>
  if i<s.size then
   (if lD (fM s i)=true then(if 0<i∧n=0 then none else(if n*10+(fM s i-48)≤1073741824 then FP s f (i+1) (n*10+(fM s i-48))else none))else none)
  else(if 0<s.size then some n else none)
def aIJ(s:ByteArray):Bool:=(FP s 1001 0 0).isSome
def VU(s:ByteArray)(n:Int):Bool:=decide (FP s 1001 0 0=some n)
theorem Tq{s:ByteArray}{f i:Nat}{n v:Int}(h:FP s f i n=some v)(hi:i<s.size):∃f',f=f'+1∧lD (fM s i)=true∧¬(0<i∧n=0)∧n*10+(fM s i-48)≤1073741824∧FP s f' (i+1) (n*10+(fM s i-48))=some v:=by
 cases f with
 | zero=>cases h
 | succ f=>
  unfold FP at h;rw[if_pos hi]at h;split at h
  ·rename_i h1
   split at h
   ·cases h
   ·rename_i h2
    split at h
    ·rename_i h3;exact⟨f,rfl,h1,h2,h3,h⟩
    ·cases h
  ·cases h
theorem VW{s:ByteArray}{f i:Nat}{n v:Int}(h:FP s f i n=some v)(hi:¬i<s.size):0<s.size∧n=v:=by
 cases f with
 | zero=>cases h
 | succ f=>
  unfold FP at h;rw[if_neg hi]at h;split at h
  ·rename_i h1;exact⟨h1,Option.some.inj h⟩
  ·cases h
theorem MH{b:Int}(h:lD b=true):48≤b∧b≤57:=by
 unfold lD at h;simpa using h
theorem VX{s:ByteArray}{n:Int}(w:World)(h:VU s n=true):Calls pG 258 #[.string s] w fun e w'=>e= .returned (.tuple #[.int .i64 n,.bool true])∧w=w':=by
 have HF:Hid (FP s 1001 0 0=some n):=lz (of_decide_eq_true h);clear h;go_enter Tryz.func258,Tryz.ntmps258;go_wp2;go_loopw [4,5] (fun m t wr=>∃(i f:Nat) (q:Int),i≤s.size∧i+f≤1001∧0≤q∧q≤1073741824∧m= .int .i64 q∧t= .int .i64 i∧Hid (FP s f i q=some n)∧wr=w) (fun _ t _=>s.size-(intOf t).toNat)
 case atStart=>exact⟨0,1001,0,nZ,oz,oz,oz,rfl,rfl,HF,rfl⟩
 case round=>
  clear HF;obtain⟨i,f,q,hi,hif,hq0,MI,rfl,rfl,hN,rfl⟩:=hrel;by_cases hlt:i<s.size
  ·obtain⟨f',hff,hd,hz,hm,hn⟩:=Tq hN.out hlt
   obtain⟨r1,r2⟩:=MH hd;have hb:=jf hlt;have hD:=JX ((s[i]'hlt).toNat:Int) wr;rw[hb,hd,←hb]at hD;have HD:=lz hD;rw[←hb]at r1 r2 hm hn;have HN:=lz hn;have Hz:=lz hz;clear hN hd hD hb hn hz;have e1:IntKind.u8.wrap (((s[i]'hlt).toNat:Int)-48)=((s[i]'hlt).toNat:Int)-48:=by
    show(_:Int)%((2:Int) ^ 8)=_;omega
   have e2:wrap64 (q*10)=q*10:=IntWalk.wrap64_in _ ⟨oz,oz⟩;have e3:wrap64 (q*10+(((s[i]'hlt).toNat:Int)-48))=q*10+(((s[i]'hlt).toNat:Int)-48):=IntWalk.wrap64_in _ ⟨oz,oz⟩;have e4:decide (q*10+(((s[i]'hlt).toNat:Int)-48)>1073741824)=false:=by simp;omega
   have e5:wrap64 ((i:Int)+1)=((i+1:Nat):Int):=by rw[IntWalk.wrap64_in _ ⟨oz,oz⟩];omega
   by_cases h0:0<i
   ·have hq:(q==0)=false:=by
     rw[beq_eq_false_iff_ne];exact fun c=>Hz.out ⟨h0,c⟩
    go_wp2_with (go_at_call 255;refine HD.out.mono ?_;rintro e w' ⟨rfl,rfl⟩);go_roundw
    case rel=>exact⟨i+1,f',q*10+(((s[i]'hlt).toNat:Int)-48),oz,oz,oz,oz,by rfl,by rfl,HN,trivial⟩
    case measure=>simp[intOf,e5];omega
   ·go_wp2_with (go_at_call 255;refine HD.out.mono ?_;rintro e w' ⟨rfl,rfl⟩)
    go_roundw
    case rel=>exact⟨i+1,f',q*10+(((s[i]'hlt).toNat:Int)-48),oz,oz,oz,oz,by rfl,by rfl,HN,trivial⟩
    case measure=>simp[intOf,e5];omega
  ·obtain⟨h1,h2⟩:=VW hN.out hlt
   have e1:decide ((s.size:Int)>0)=true:=by simp;omega
   subst h2;go_wp2_with fail;refine bodyPost_ret (results_tmp2 rfl _ _ _) rfl ?_;exact⟨rfl,rfl⟩

structure Hit(L:List fC)(u:ByteArray) where
 i:Nat
 x:fC
 h:L[i]?=some x
 hu:x.c.unit=u
abbrev Hit.enc{L:List fC}{u:ByteArray}(y:Hit L u):Array Value:= #[.int .i64 y.i,y.x.val]
structure RM(B Bl Bu:Nat)(W W':World):Prop where
 size:W.heap.size≤W'.heap.size
 same:∀k,k<B∨k=Bl∨k=Bu→W'.heap[k]?=W.heap[k]?
theorem RM.refl(B Bl Bu:Nat)(W:World):RM B Bl Bu W W:=⟨nL,fun _ _=>rfl⟩
theorem RM.trans{B Bl Bu:Nat}{W W' W'':World}(h:RM B Bl Bu W W')(h':RM B Bl Bu W' W''):RM B Bl Bu W W'':=⟨nT h.size h'.size,fun k hk=>(h'.same k hk).trans (h.same k hk)⟩
theorem RM.blk{B Bl Bu:Nat}{W W':World}(h:RM B Bl Bu W W'){g:Nat}{t:TypeId}{cs:Array Value}(hb:ah W g t cs)(hg:g<B∨g=Bl∨g=Bu):ah W' g t cs:=(h.same g hg).trans hb
theorem RM.cell{B Bl Bu:Nat}{W W':World}(h:RM B Bl Bu W W'):∀b o,b<B→W'.cell? ⟨b,o,none⟩=W.cell? ⟨b,o,none⟩:=fun b o hb=>World.cell?_of_block (h.same b (.inl hb))
theorem RM.ak{B Bl Bu:Nat}{W W':World}(h:Below W.heap.size W W')(hB:B≤W.heap.size)(hl:Bl<W.heap.size)(hu:Bu<W.heap.size):RM B Bl Bu W W':=
 ⟨h.size,fun k hk=>h.block k (by rcases hk with hk | rfl | rfl<;>omega)⟩
theorem RM.put{B Bl Bu:Nat}{w:World}(hB:B≤w.heap.size)(hl:Bl<w.heap.size)(hu:Bu<w.heap.size):∀(W:World) (l:Nat) (o o':Obj),w.heap.size≤l→W.heap[l]?=some o→o.isCells=false→o.isWalk=false→RM B Bl Bu W (W.putObj l o'):=
 fun W l o o' h _ _ _=>⟨qz,fun k hk=>World.putObj_heap_other (by rcases hk with hk | rfl | rfl<;>omega)⟩
structure RS(W4:World)(Bf:Nat)(t:TypeId)(v:Value)(W:World):Prop where
 os:W.os=W4.os
 tape:W.tape=W4.tape
 output:W.output=W4.output
 size:W4.heap.size≤W.heap.size
 block:∀k,k<W4.heap.size→k≠Bf→W.heap[k]?=W4.heap[k]?
 bf:ah W Bf t #[v]
section
variable {W4 W W':World} {Bf:Nat} {t:TypeId} {v v':Value}
theorem RS.refl(h:ah W4 Bf t #[v]):RS W4 Bf t v W4:=⟨rfl,rfl,rfl,nL,fun _ _ _=>rfl,h⟩
theorem RS.trans(h:RS W4 Bf t v W)(h':RS W Bf t v' W'):RS W4 Bf t v' W':=
 ⟨h'.os.trans h.os,h'.tape.trans h.tape,h'.output.trans h.output,nT h.size h'.size,fun k hk hn=>(h'.block k (Nat.lt_of_lt_of_le hk h.size) hn).trans (h.block k hk hn),h'.bf⟩
theorem RS.next(h:RS W4 Bf t v W)(hb:Below W.heap.size W W'):RS W4 Bf t v W':=
 ⟨hb.os.trans h.os,hb.tape.trans h.tape,hb.output.trans h.output,nT h.size hb.size,fun k hk hn=>(hb.block k (Nat.lt_of_lt_of_le hk h.size)).trans (h.block k hk hn),h.bf.below hb h.bf.lt⟩
theorem RS.alloc(h:RS W4 Bf t v W)(o:Obj):RS W4 Bf t v (W.alloc o):=h.next ((Below.refl _ W).alloc nL o)
theorem RS.bX(h:RS W4 Bf t v W)(u:Value):RS W4 Bf t u (W.setCell ⟨Bf,0,none⟩ u):=
 ⟨h.os,h.tape,h.output,by simpa [World.setCell]using h.size,fun k hk hn=>(Below.heap_setCell W ⟨Bf,0,none⟩ u k (by simpa using hn)).trans (h.block k hk hn),by simpa using h.bf.bX 0 u⟩
theorem RS.own{β:Type}{g:β→Value}(hlt:Bf<W4.heap.size):OwnFrom W4.heap.size (fun(s:β) W=>RS W4 Bf t (g s) W):=fun s X Y row hs hg hr=>
 ⟨hg.os.trans hs.os,hg.tape.trans hs.tape,hg.output.trans hs.output,nT hs.size hg.size,
  fun k hk hn=>(hg.block k (Nat.lt_of_lt_of_le hk hs.size) (fun e=>by have:=(hr k e.symm).1;omega)).trans (hs.block k hk hn),Mu (β:=β) W4.heap.size _ _ _ s X Y row hs.bf hg hr⟩
theorem RS.blk(h:RS W4 Bf t v W){g:Nat}{t':TypeId}{cs:Array Value}(hb:ah W4 g t' cs)(hn:g≠Bf):ah W g t' cs:=(h.block g hb.lt hn).trans hb
theorem RS.below{w:World}{base:Nat}(h:RS W4 Bf t v W)(hb:Below base w W4)(hs:base≤W4.heap.size)(hf:base≤Bf):Below base w W:=
 ⟨h.os.trans hb.os,h.tape.trans hb.tape,h.output.trans hb.output,nT hb.size h.size,fun k hk=>(h.block k oz oz).trans (hb.block k hk)⟩
end
def aAl(L:List fC):List ByteArray:=L.map (·.c.unit)
section
variable {P:Program} {a:Act} {w:World} {Q:Exit→Act→World→Prop}
end
abbrev Ts(L:List fC):List Cs:=L.map (·.c)
theorem PG{l:List Cs}{out:List ByteArray}{u:ByteArray}(h:Mx l out=some u)(hlen:out.length≤l.length)(ho:zf l (l.length+1-out.length) out=Px l):zf l (l.length+1-(out++ [u]).length) (out++ [u])=Px l:=by
 rw[show l.length+1-out.length=(l.length+1-(out++ [u]).length)+1 by simp;omega]at ho;simp only[zf,h]at ho;exact ho
theorem qW{W:World}{base c:Nat}{A:Option Addr}{l:List ByteArray}(h:W.ownsRow base 9 1 (.slice A l.length c) l.length (l.map Value.string)):iB W W.heap.size A l:=fun hn=>by
 obtain⟨g,cap,hv,_,hlt⟩:=h.form hn;have hA:A=some ⟨g,0,none⟩:=by injection hv
 subst hA;refine⟨g,0,rfl,hlt,fun i hi=> ?_⟩;have:=h.cells (g:=g) rfl i (.string l[i]) (by simp[hi])
 rwa[eY]at this
theorem Shut.str{B:Nat}{W W':World}{A:Option Addr}{l:List ByteArray}(h:Shut B W W')(hr:iB W W.heap.size A l):iB W' W'.heap.size A l:=fun hn=>by
 obtain⟨b,o,rfl,hb,hc⟩:=hr hn;refine⟨b,o,rfl,Nat.lt_of_lt_of_le hb h.size,fun i hi=> ?_⟩;obtain⟨ob,ho,cC⟩:=cells_of_cell (hc i hi);exact(World.cell?_of_block ((h.cells _ _ ho cC).trans ho.symm)).trans (hc i hi)
structure qx(w:World)(L:List fC)(out:List ByteArray)(v:Value)(Ds:List Nat)(W:World):Prop where
 below:Below w.heap.size w W
 size:w.heap.size+3≤W.heap.size
 box:ah W (w.heap.size+1) 209 #[.map (some w.heap.size)]
 listed:aH KS W w.heap.size out
 units:aH KS W (w.heap.size+2) (aAl L)
 own:W.ownsRow (w.heap.size+3) 9 1 v out.length (out.map Value.string)
 nodup:Ds.Nodup
 marks:∀D∈Ds,w.heap.size+3≤D∧W.heap[D]?=some (.deferred (some []))
 ord:Iq (Ts L) out
 fuel:zf (Ts L) ((Ts L).length+1-out.length) out=Px (Ts L)
section
variable {w:World} {L:List fC} {out:List ByteArray} {v:Value} {Ds:List Nat} {W W':World}
theorem qx.len(h:qx w L out v Ds W):out.length≤L.length:=by
 have:=VL _ _ h.ord.nodup h.ord.sub;have:=Tm (Ts L);simp at this;omega
theorem qx.next(h:qx w L out v Ds W)(hb:Below W.heap.size W W'):qx w L out v Ds W' where
 below:=h.below.trans (hb.mono h.below.size)
 size:=nT h.size hb.size
 box:=h.box.below hb h.box.lt
 listed:=h.listed.next hb
 units:=h.units.next hb
 own:=h.own.kept (gL (row:=none) hb) (by
  rcases h.own.2 with⟨rfl,_⟩ | ⟨g,cap,cur,rfl,_,hh,_⟩
  ·exact .inl rfl
  ·exact .inr (fun e=>by cases e))
 nodup:=h.nodup
 marks:=fun D hD=>⟨(h.marks D hD).1,(hb.block D (gE (h.marks D hD).2).1).trans (h.marks D hD).2⟩
 ord:=h.ord
 fuel:=h.fuel
end
theorem qy(n:Nat)(T:Array Value)(h:T.size=n):∃z:Nat→Value,T=((List.range n).map z).toArray∧∀i,z i=T.getD i undef:=by
 refine⟨fun i=>T.getD i undef,?_,fun _=>rfl⟩;apply Array.ext
 ·simp[h]
 ·intro i h1 h2
  simp[Array.getD,h1]
structure FJ(w:World)(A:Option Addr)(n c:Nat)(v:Value)(Ds:List Nat)(a:Act):Prop where
 size:a.tmps.size=80
 s0:a.tmps.getD 0 undef= .slice A n c
 s4:a.tmps.getD 4 undef=v
 s5:a.tmps.getD 5 undef= .pointer (some ⟨w.heap.size+1,0,none⟩)
 s6:a.tmps.getD 6 undef= .map (some (w.heap.size+2))
 defers:a.defers=Ds.map sM
structure FL(w:World)(A:Option Addr)(n c:Nat)(v:Value)(Ds:List Nat)(k:Nat)(a:Act):Prop where
 j:FJ w A n c v Ds a
 s30:a.tmps.getD 30 undef= .slice A n c
 s31:a.tmps.getD 31 undef= .int .i64 n
 s32:a.tmps.getD 32 undef= .int .i64 k
theorem FJ.lit{w:World}{A:Option Addr}{n c:Nat}{v:Value}{Ds:List Nat}{a:Act}(h:FJ w A n c v Ds a):∃z:Nat→Value,a={tmps:=List.toArray [.slice A n c,z 1,z 2,z 3,v,.pointer (some ⟨w.heap.size+1,0,none⟩),.map (some (w.heap.size+2)),z 7,z 8,z 9,z 10,z 11,z 12,z 13,z 14,z 15,z 16,z 17,z 18,z 19,z 20,z 21,z 22,z 23,z 24,z 25,z 26,z 27,z 28,z 29,z 30,z 31,z 32,z 33,z 34,z 35,z 36,z 37,z 38,z 39,z 40,z 41,z 42,z 43,z 44,z 45,z 46,z 47,z 48,z 49,z 50,z 51,z 52,z 53,z 54,z 55,z 56,z 57,z 58,z 59,z 60,z 61,z 62,z 63,z 64,z 65,z 66,z 67,z 68,z 69,z 70,z 71,z 72,z 73,z 74,z 75,z 76,z 77,z 78,z 79],defers:=Ds.map sM}:=by
 obtain⟨T,d⟩:=a;obtain⟨h1,h2,h3,h4,h5,h6⟩:=h;simp only at h1 h2 h3 h4 h5 h6;obtain⟨z,hz,hg⟩:=qy 80 T h1;refine⟨z,?_⟩;rw[←hg]at h2 h3 h4 h5;rw[h6,hz,←h2,←h3,←h4,←h5];rfl
theorem FL.lit{w:World}{A:Option Addr}{n c:Nat}{v:Value}{Ds:List Nat}{k:Nat}{a:Act}(h:FL w A n c v Ds k a):∃z:Nat→Value,a={tmps:=List.toArray [.slice A n c,z 1,z 2,z 3,v,.pointer (some ⟨w.heap.size+1,0,none⟩),.map (some (w.heap.size+2)),z 7,z 8,z 9,z 10,z 11,z 12,z 13,z 14,z 15,z 16,z 17,z 18,z 19,z 20,z 21,z 22,z 23,z 24,z 25,z 26,z 27,z 28,z 29,.slice A n c,.int .i64 n,.int .i64 k,z 33,z 34,z 35,z 36,z 37,z 38,z 39,z 40,z 41,z 42,z 43,z 44,z 45,z 46,z 47,z 48,z 49,z 50,z 51,z 52,z 53,z 54,z 55,z 56,z 57,z 58,z 59,z 60,z 61,z 62,z 63,z 64,z 65,z 66,z 67,z 68,z 69,z 70,z 71,z 72,z 73,z 74,z 75,z 76,z 77,z 78,z 79],defers:=Ds.map sM}:=by
 obtain⟨T,d⟩:=a;obtain⟨⟨h1,h2,h3,h4,h5,h6⟩,h7,h8,h9⟩:=h;simp only at h1 h2 h3 h4 h5 h6 h7 h8 h9;obtain⟨z,hz,hg⟩:=qy 80 T h1;refine⟨z,?_⟩;rw[←hg]at h2 h3 h4 h5 h7 h8 h9;rw[h6,hz,←h8,←h9,←h3,←h4,←h5];rw[show(.slice A n c:Value)=z 0 from h2.symm];simp only[List.range_eq_range',List.range',List.map];rw[h7,←h2]
theorem RS.ord{w:World}{L:List fC}{out:List ByteArray}{v:Value}{Ds:List Nat}{W4 W:World}{Bf:Nat}{f f':Value}(h:RS W4 Bf 4 f W)(hS:qx w L out v Ds W4)(hf:ah W4 Bf 4 #[f'])(hB:w.heap.size+3≤Bf):qx w L out v Ds W where
 below:=h.below hS.below hS.below.size oz
 size:=nT hS.size h.size
 box:=h.blk hS.box oz
 listed:=hS.listed.same (h.block _ hS.listed.lt oz)
 units:=hS.units.same (h.block _ hS.units.lt oz)
 own:=by
  have hg:W4.grownBy W (some Bf):=⟨h.os,h.tape,h.output,h.size,fun k hk hn=>h.block k hk (fun e=>hn (by rw[e]))⟩;refine hS.own.kept hg (.inr ?_);exact aW hS.own hf dz
 nodup:=hS.nodup
 marks:=fun D hD=>⟨(hS.marks D hD).1,(h.block D (gE (hS.marks D hD).2).1 (fun e=>by
  have:=(hS.marks D hD).2;rw[e,show W4.heap[Bf]?=_ from hf]at this
  cases this)).trans (hS.marks D hD).2⟩
 ord:=hS.ord
 fuel:=hS.fuel
theorem qx.mark{w:World}{L:List fC}{out:List ByteArray}{v:Value}{Ds:List Nat}{W:World}{D lo:Nat}(h:qx w L out v Ds W)(VY:∀E∈Ds,E<lo)(hD:lo≤D)(hw:w.heap.size+3≤D)(hK:W.heap[D]?=some (.deferred (some []))):qx w L out v (D :: Ds) W:=
 {h with
  nodup:=List.nodup_cons.2 ⟨fun hm=>by have:=VY D hm;omega,h.nodup⟩
  marks:=fun E hE=>by
   rcases List.mem_cons.1 hE with rfl | hE
   ·exact⟨hw,hK⟩
   ·exact h.marks E hE}
theorem aDM:(pG.info? 9).map (fun i=>(i.zero,i.size,i.bytes))=some (some (.string ⟨#[]⟩),1,16):=by kernel_rfl
theorem iQ{w:World}{base:Nat}{e:TypeId}{size n g:Nat}{v:Value}{xs:List Value}{o:Obj}(h:w.ownsRow base e size v n xs)(hg:w.heap[g]?=some o)(hn:o.isCells=false):v.ownBlock≠some g:=by
 rcases h.2 with⟨rfl,_⟩ | ⟨g',cap,cur,rfl,_,hh,_⟩
 ·simp[Value.ownBlock]
 ·intro he
  have:g'=g:=by simpa [Value.ownBlock]using he
  subst this;rw[hh]at hg;injection hg with hg
  subst hg
  cases hn
theorem qx.step{w:World}{L:List fC}{out:List ByteArray}{v v':Value}{Ds:List Nat}{W w1 w2:World}{u:ByteArray}{o:Obj}(h:qx w L out v Ds W)(hu:Mx (Ts L) out=some u)
 (hm:aH KS w1 w.heap.size (out++ [u])) (hg:W.grownBy w1 (some w.heap.size)) (hown1:(w1.alloc o).ownsRow (w.heap.size+3) 9 1 v out.length (out.map Value.string))
 (hown:w2.ownsRow (w.heap.size+3) 9 1 v' (out.length+1) (out.map Value.string++ [.string u])) (eG:(w1.alloc o).grownBy w2 v.ownBlock):qx w L (out++ [u]) v' Ds w2:=by
 have hs1:=hg.size;have Pb:=eG.size;simp at Pb;have hsz:=h.size;have uH:∀g,g<w.heap.size+3→some g≠v.ownBlock:=fun g hlt e=>by have:=(hown1.lt g e.symm).1;omega
 have aU:Below w.heap.size w (w1.alloc o):=(h.below.grown hg oz (fun j e=>by cases e;omega)).alloc oz _;have Cc:=Tn hu;refine⟨aU.grown eG qo (fun g hg=>by have:=(hown1.lt g hg).1;omega),oz,?_,?_,?_,?_,h.nodup,fun D hD=> ?_,?_,?_⟩
 ·exact((h.box.grown hg qz).alloc o).grown eG (uH _ oz)
 ·exact(hm.alloc o).kept eG (uH _ oz)
 ·exact((h.units.kept hg qz).alloc o).kept eG (uH _ oz)
 ·simpa using hown
 ·have hd:=h.marks D hD
  have hlt:=(gE hd.2).1;have e1:w1.heap[D]?=some (.deferred (some [])):=(hg.block D hlt qo).trans hd.2;have e2:(w1.alloc o).heap[D]?=some (.deferred (some [])):=(Below.heap_alloc _ _ _ oz).trans e1;exact⟨hd.1,(eG.block D qo (fun e=>iQ hown1 e2 rfl e.symm)).trans e2⟩
 ·exact h.ord.push Cc.1 Cc.2.1 Cc.2.2
 ·exact PG hu (by have:=h.len;simpa using this) h.fuel

end
section
open Go.ChangeShapes Go.WideShapes Go.ChangeAt Go.RowKit
open Go.ChangeMaps (setBlock heap_setBlock_same)
open Go.WideMaps (KeyLaw)
open Go.ChangeMaps Go.WideElems
theorem Du(w:World)(b:Nat)(o o':Obj):setBlock (setBlock w b o) b o'=setBlock w b o':=by
 simp[setBlock,Array.setIfInBounds_setIfInBounds]
theorem Dv{α:Type}{a b:α}{w w':World}(h:Result.ok a w=Result.ok b w'):a=b∧w=w':=by cases h;exact⟨rfl,rfl⟩
attribute [local go_sem] Oper.semAt_some
end
section
open Go.ChangeShapes Go.WideShapes Go.ChangeAt Go.RowKit
attribute [local go_sem] Oper.semAt_some
theorem uI(X:World)(p:Addr)(u:Value):X.grownBy (X.setCell p u) (some p.block):=⟨rfl,rfl,rfl,by simp[World.setCell],fun k _ hn=>Below.heap_setCell X p u k (fun e=>hn (by rw[e]))⟩
structure rS(w1:World)(acc:List ByteArray)(v:Value)(Ds:List Nat)(hi:Nat)(W:World):Prop where
 below:Below w1.heap.size w1 W
 size:w1.heap.size+3≤W.heap.size
 aEV:ah W w1.heap.size 81 #[v]
 VZ:ah W (w1.heap.size+2) 209 #[.map (some (w1.heap.size+1))]
 map:aH KS W (w1.heap.size+1) acc
 own:W.ownsRow (w1.heap.size+3) 9 1 v acc.length (acc.map Value.string)
 nodup:Ds.Nodup
 marks:∀D∈Ds,w1.heap.size+3≤D∧D<hi∧W.heap[D]?=some (.deferred (some []))
section
variable {w1:World} {acc:List ByteArray} {v:Value} {Ds:List Nat} {hi:Nat} {W W':World}
theorem rS.more(h:rS w1 acc v Ds hi W){hi':Nat}(hh:hi≤hi'):rS w1 acc v Ds hi' W:=
 {h with marks:=fun D hD=>⟨(h.marks D hD).1,by have:=(h.marks D hD).2.1;omega,(h.marks D hD).2.2⟩}
theorem rS.grow(h:rS w1 acc v Ds hi W){row:Option Nat}(hg:W.grownBy W' row)(hr:∀r,row=some r→w1.heap.size+3≤r∧hi≤r∧(∀o:Obj,W.heap[r]?=some o→o.isCells=false)):rS w1 acc v Ds hi W' where
 below:=h.below.grown hg (by have:=h.size;omega) (fun j e=>by have:=(hr j e).1;omega)
 size:=nT h.size hg.size
 aEV:=h.aEV.grown hg (fun e=>by have:=(hr _ e.symm).1;omega)
 VZ:=h.VZ.grown hg (fun e=>by have:=(hr _ e.symm).1;omega)
 map:=h.map.kept hg (fun e=>by have:=(hr _ e.symm).1;omega)
 own:=h.own.kept hg (by
  rcases h.own.2 with⟨rfl,_⟩ | ⟨g,cap,cur,rfl,_,hh,_⟩
  ·exact .inl rfl
  ·exact .inr (fun e=>by
    have:=(hr g e.symm).2.2 _ hh
    cases this))
 nodup:=h.nodup
 marks:=fun D hD=>⟨(h.marks D hD).1,(h.marks D hD).2.1,(hg.block D (gE (h.marks D hD).2.2).1 (fun e=>by
  have:=(hr D e.symm).2.1;have:=(h.marks D hD).2.1;omega)).trans (h.marks D hD).2.2⟩
end
theorem rS.mark{w1:World}{acc:List ByteArray}{v:Value}{Ds:List Nat}{hi:Nat}{W:World}{D:Nat}(h:rS w1 acc v Ds hi W)(hs:hi≤W.heap.size)(hw:w1.heap.size+3≤D)(hD:hi≤D)(hK:W.heap[D]?=some (.deferred (some []))):rS w1 acc v (D :: Ds) W.heap.size W:=
 {h with
  nodup:=List.nodup_cons.2 ⟨fun hm=>by have:=(h.marks D hm).2.1;omega,h.nodup⟩
  marks:=fun E hE=>by
   rcases List.mem_cons.1 hE with rfl | hE
   ·exact⟨hw,(gE hK).1,hK⟩
   ·exact⟨(h.marks E hE).1,by have:=(h.marks E hE).2.1;omega,(h.marks E hE).2.2⟩}
theorem rS.step{w1:World}{acc:List ByteArray}{v v':Value}{Ds:List Nat}{hi:Nat}{W wm wo:World}{u:ByteArray}{o:Obj}(h:rS w1 acc v Ds hi W)
 (hm:aH KS wm (w1.heap.size+1) (acc++ [u])) (hg:W.grownBy wm (some (w1.heap.size+1))) (hown1:(wm.alloc o).ownsRow (w1.heap.size+3) 9 1 v acc.length (acc.map Value.string))
 (hown:wo.ownsRow (w1.heap.size+3) 9 1 v' (acc.length+1) (acc.map Value.string++ [.string u])) (eG:(wm.alloc o).grownBy wo v.ownBlock):rS w1 (acc++ [u]) v' Ds hi (wo.setCell ⟨w1.heap.size,0,none⟩ v'):=by
 have hs1:=hg.size;have Pb:=eG.size;simp at Pb;have hsz:=h.size;have uH:∀g,g<w1.heap.size+3→some g≠v.ownBlock:=fun g hlt e=>by have:=(hown1.lt g e.symm).1;omega
 have aU:Below w1.heap.size w1 (wm.alloc o):=(h.below.grown hg oz (fun j e=>by cases e;omega)).alloc oz _;have dI:Below w1.heap.size w1 wo:=aU.grown eG qo (fun g hg=>by have:=(hown1.lt g hg).1;omega);have b9:ah wo w1.heap.size 81 #[v]:=((h.aEV.grown hg qz).alloc o).grown eG (uH _ oz);have b9':=b9.bX 0 v';refine⟨?_,by simp[World.setCell];omega,by simpa using b9',?_,?_,?_,h.nodup,fun D hD=> ?_⟩
 ·exact dI.setCell nL _
 ·exact(((h.VZ.grown hg qz).alloc o).grown eG (uH _ oz)).far qz _
 ·exact((hm.alloc o).kept eG (uH _ oz)).setCell qz _
 ·have:wo.ownsRow (w1.heap.size+3) 9 1 v' (acc++ [u]).length ((acc++ [u]).map Value.string):=by simpa using hown
  exact this.kept (uI wo ⟨w1.heap.size,0,none⟩ v') (.inr (aW this b9 dz))
 ·have hd:=h.marks D hD
  have hlt:=(gE hd.2.2).1;have e1:wm.heap[D]?=some (.deferred (some [])):=(hg.block D hlt qo).trans hd.2.2;have e2:(wm.alloc o).heap[D]?=some (.deferred (some [])):=(Below.heap_alloc _ _ _ oz).trans e1;have e3:wo.heap[D]?=some (.deferred (some [])):=(eG.block D qo (fun e=>iQ hown1 e2 rfl e.symm)).trans e2;exact⟨hd.1,hd.2.1,(Below.heap_setCell _ _ _ _ (by show D≠w1.heap.size;omega)).trans e3⟩
structure FA(A:Option Addr)(n c g3 g9 g10:Nat)(A2:Option Addr)(n2 c2:Nat)(Ds:List Nat)(k:Nat)(a:Act):Prop where
 size:a.tmps.size=49
 s0:a.tmps.getD 0 undef= .slice A n c
 s3:a.tmps.getD 3 undef= .pointer (some ⟨g3,0,none⟩)
 s9:a.tmps.getD 9 undef= .pointer (some ⟨g9,0,none⟩)
 s10:a.tmps.getD 10 undef= .pointer (some ⟨g10,0,none⟩)
 s23:a.tmps.getD 23 undef= .slice A2 n2 c2
 s24:a.tmps.getD 24 undef= .int .i64 n2
 s25:a.tmps.getD 25 undef= .int .i64 k
 defers:a.defers=Ds.map sM
theorem FA.lit{A:Option Addr}{n c g3 g9 g10:Nat}{A2:Option Addr}{n2 c2:Nat}{Ds:List Nat}{k:Nat}{a:Act}(h:FA A n c g3 g9 g10 A2 n2 c2 Ds k a):∃z:Nat→Value,a={tmps:=List.toArray [.slice A n c,z 1,z 2,.pointer (some ⟨g3,0,none⟩),z 4,z 5,z 6,z 7,z 8,.pointer (some ⟨g9,0,none⟩),.pointer (some ⟨g10,0,none⟩),z 11,z 12,z 13,z 14,z 15,z 16,z 17,z 18,z 19,z 20,z 21,z 22,.slice A2 n2 c2,.int .i64 n2,.int .i64 k,z 26,z 27,z 28,z 29,z 30,z 31,z 32,z 33,z 34,z 35,z 36,z 37,z 38,z 39,z 40,z 41,z 42,z 43,z 44,z 45,z 46,z 47,z 48],defers:=Ds.map sM}:=by
 obtain⟨T,d⟩:=a;obtain⟨h1,h2,h3,h4,h5,h6,h7,h8,h9⟩:=h;simp only at h1 h2 h3 h4 h5 h6 h7 h8 h9;obtain⟨z,hz,hg⟩:=qy 49 T h1;refine⟨z,?_⟩;rw[←hg]at h2 h3 h4 h5 h6 h7 h8;rw[h9,hz,←h2,←h3,←h4,←h5,←h6,←h7,←h8];rfl
theorem iB.at_{w:World}{B:Nat}{A:Option Addr}{l:List ByteArray}(h:iB w B A l){k:Nat}(hk:k<l.length):∃b o,A=some ⟨b,o,none⟩∧b<B∧w.cell? ⟨b,o+k,none⟩=some (.string l[k]):=by
 obtain⟨b,o,h1,h2,h3⟩:=h oz;exact⟨b,o,h1,h2,h3 k hk⟩


def jI.cells(r:jI):List Value:= [.string r.unit,.int .i64 r.code]
theorem Dw:∀(l:List jI) (i:Nat) (h:i<l.length),(l.flatMap jI.cells)[i*2]?=some (.string l[i].unit)∧(l.flatMap jI.cells)[i*2+1]?=some (.int .i64 l[i].code)
 | r :: l,0,_=>⟨rfl,rfl⟩
 | r :: l,i+1,h=>by
  have ih:=Dw l i (by simpa using h);have e:∀j,(List.flatMap jI.cells (r :: l))[j+2]?=(List.flatMap jI.cells l)[j]?:=fun j=>by simp[jI.cells]
  rw[show(i+1)*2=i*2+2 from by omega,show i*2+2+1=i*2+1+2 from by omega,e,e];simpa using ih
theorem bO(b o k:Nat):(⟨b,o,none⟩:Addr).add k=⟨b,o+k,none⟩:=by unfold Addr.add;split<;>simp_all
theorem V0{w:World}{b o:Nat}{l:List ByteArray}(hc:∀i (h:i<l.length),w.cell? ⟨b,o+i,none⟩=some (.string l[i])):∀j u,(l.map Value.string)[j]?=some u→w.cell? ((⟨b,o,none⟩:Addr).add j)=some u:=by
 intro j u hu;rw[List.getElem?_map,Option.map_eq_some_iff]at hu;obtain⟨s,hs,rfl⟩:=hu;obtain⟨hj,rfl⟩:=List.getElem?_eq_some_iff.1 hs;rw[bO];exact hc j hj
theorem JY{W:World}{base c:Nat}{A:Option Addr}{l:List jI}(h:W.ownsRow base 85 2 (.slice A l.length c) l.length (l.flatMap jI.cells)):jE W W.heap.size A l:=fun hn=>by
 obtain⟨g,cap,hv,_,hlt⟩:=h.form hn;have hA:A=some ⟨g,0,none⟩:=by injection hv
 subst hA;refine⟨g,0,rfl,hlt,fun i hi=> ?_⟩;obtain⟨q0,q1⟩:=Dw l i hi;have c0:=h.cells (g:=g) rfl _ _ q0;have c1:=h.cells (g:=g) rfl _ _ q1;rw[eY]at c0 c1;simpa using ai c0 c1
theorem bp{W:World}{base n:Nat}{e:TypeId}{size:Nat}{v:Value}{xs:List Value}(h:W.ownsRow base e size v n xs):∃A c,v= .slice A n c∧n≤c∧c≤maxLen:=by
 rcases h.2 with⟨rfl,h0⟩ | ⟨g,cap,cur,rfl,_,_,h1,h2,_⟩
 ·exact⟨none,0,by rw[h0],oz,by simp[maxLen]⟩
 ·exact⟨_,cap,rfl,h1,h2⟩
structure Tok where
 kind:Int
 text:ByteArray
 at_:Int
instance:Inhabited Tok:=⟨⟨0,⟨#[]⟩,0⟩⟩
abbrev Tok.val(t:Tok):Value:= .agg #[.int .i64 t.kind,.string t.text,.int .i64 t.at_]
def Tok.cells(t:Tok):List Value:= [.int .i64 t.kind,.string t.text,.int .i64 t.at_]
theorem aAm:(pG.info? 280).map (fun i=>(i.zero,i.size,i.bytes))=some (some (.agg #[.int .i64 0,.string ⟨#[]⟩,.int .i64 0]),3,32):=by kernel_rfl
theorem Dx:∀(l:List Tok) (i:Nat) (h:i<l.length),(l.flatMap Tok.cells)[i*3]?=some (.int .i64 l[i].kind)∧(l.flatMap Tok.cells)[i*3+1]?=some (.string l[i].text)∧(l.flatMap Tok.cells)[i*3+2]?=some (.int .i64 l[i].at_)
 | r :: l,0,_=>⟨rfl,rfl,rfl⟩
 | r :: l,i+1,h=>by
  have ih:=Dx l i (by simpa using h);have e:∀j,(List.flatMap Tok.cells (r :: l))[j+3]?=(List.flatMap Tok.cells l)[j]?:=fun j=>by simp[Tok.cells]
  rw[show(i+1)*3=i*3+3 from by omega,show i*3+3+1=i*3+1+3 from by omega,show i*3+3+2=i*3+2+3 from by omega,e,e,e];simpa using ih
def Ir(w:World)(B:Nat)(A:Option Addr)(l:List Tok):Prop:=
 0<l.length→∃b o,A=some ⟨b,o,none⟩∧b<B∧∀i (h:i<l.length),w.cell? ⟨b,o+i*3,none⟩=some (.int .i64 l[i].kind)∧w.cell? ⟨b,o+i*3+1,none⟩=some (.string l[i].text)∧w.cell? ⟨b,o+i*3+2,none⟩=some (.int .i64 l[i].at_)
theorem Ir.dn{w w':World}{B B':Nat}{A:Option Addr}{l:List Tok}(h:Ir w B A l)(hB:B≤B')(hk:∀b o,b<B→w'.cell? ⟨b,o,none⟩=w.cell? ⟨b,o,none⟩):Ir w' B' A l:=fun hn=>by
 obtain⟨b,o,rfl,gD,hc⟩:=h hn;exact⟨b,o,rfl,oz,fun i hi=>⟨(hk b _ gD).trans (hc i hi).1,(hk b _ gD).trans (hc i hi).2.1,(hk b _ gD).trans (hc i hi).2.2⟩⟩
theorem JZ{W:World}{base c:Nat}{A:Option Addr}{l:List Tok}(h:W.ownsRow base 280 3 (.slice A l.length c) l.length (l.flatMap Tok.cells)):Ir W W.heap.size A l:=fun hn=>by
 obtain⟨g,cap,hv,_,hlt⟩:=h.form hn;have hA:A=some ⟨g,0,none⟩:=by injection hv
 subst hA;refine⟨g,0,rfl,hlt,fun i hi=> ?_⟩;obtain⟨q0,q1,q2⟩:=Dx l i hi;have c0:=h.cells (g:=g) rfl _ _ q0;have c1:=h.cells (g:=g) rfl _ _ q1;have c2:=h.cells (g:=g) rfl _ _ q2;rw[eY]at c0 c1 c2;simpa using ai c0 (ai c1 c2)
def dO(s:ByteArray):Nat→Nat→Nat
 | 0,q=>q
 | f+1,q=>if q<s.size then(if mB (fM s q)=true then dO s f (q+1)else q)else q
theorem wQ{s:ByteArray}{f q:Nat}(h:q<s.size)(hi:mB (fM s q)=true):dO s (f+1) q=dO s f (q+1):=by
 rw[dO,if_pos h,if_pos hi]
theorem wR{s:ByteArray}{f q:Nat}(hi:mB (fM s q)=false):dO s f q=q:=by
 cases f with
 | zero=>rfl
 | succ f=>rw[dO,hi];simp
theorem AB{s:ByteArray}{f q:Nat}(h:¬q<s.size):dO s f q=q:=by
 cases f with
 | zero=>rfl
 | succ f=>rw[dO,if_neg h]
def jG(s:ByteArray):Nat→Nat→List Tok→Option (List Tok)
 | 0,_,_=>none
 | f+1,p,out=>
  if p<s.size then
   (if (fM s p==32)=true then jG s f (p+1) out
    else if ((fM s p==9)||((fM s p==10)||((fM s p==13)||(fM s p==35))))=true then none
    else if wP (fM s p)=true then jG s f (p+1) (out++ [⟨3,s.extract p (p+1),p⟩])
    else if jO (fM s p)=true then
     (if MG (s.extract p (dO s s.size (p+1)))=true then jG s f (dO s s.size (p+1)) (out++ [⟨1,s.extract p (dO s s.size (p+1)),p⟩])else none)
    else if lD (fM s p)=true then
     (if aIJ (s.extract p (dO s s.size (p+1)))=true then jG s f (dO s s.size (p+1)) (out++ [⟨2,s.extract p (dO s s.size (p+1)),p⟩])else none)
    else none)
  else some out
theorem RN{s:ByteArray}{f p:Nat}{out ts:List Tok}(h:jG s f p out=some ts):∃f',f=f'+1:=by
 cases f with
 | zero=>cases h
 | succ f=>exact⟨f,rfl⟩
theorem aAn{s:ByteArray}{f p:Nat}{out ts:List Tok}(h:jG s f p out=some ts)(hp:¬p<s.size):out=ts:=by
 obtain⟨f,rfl⟩:=RN h;rw[jG,if_neg hp]at h;exact Option.some.inj h
theorem Tt{s:ByteArray}{f p:Nat}{out ts:List Tok}(h:jG s (f+1) p out=some ts)(hp:p<s.size)(hb:(fM s p==32)=true):jG s f (p+1) out=some ts:=by
 rw[jG,if_pos hp,if_pos hb]at h;exact h
theorem Iu{s:ByteArray}{f p:Nat}{out ts:List Tok}(h:jG s (f+1) p out=some ts)(hp:p<s.size)(hb:(fM s p==32)=false):(fM s p==9)=false∧(fM s p==10)=false∧(fM s p==13)=false∧(fM s p==35)=false:=by
 rw[jG,if_pos hp,if_neg (by rw[hb];simp)]at h
 cases h1:(fM s p==9)<;>cases h2:(fM s p==10)<;>cases h3:(fM s p==13)<;>cases h4:(fM s p==35)<;>simp[h1,h2,h3,h4]at h⊢
theorem Dy{s:ByteArray}{f p:Nat}{out ts:List Tok}(h:jG s (f+1) p out=some ts)(hp:p<s.size)(hb:(fM s p==32)=false):
 (if wP (fM s p)=true then jG s f (p+1) (out++ [⟨3,s.extract p (p+1),p⟩])
  else if jO (fM s p)=true then
   (if MG (s.extract p (dO s s.size (p+1)))=true then jG s f (dO s s.size (p+1)) (out++ [⟨1,s.extract p (dO s s.size (p+1)),p⟩])else none)
  else if lD (fM s p)=true then
   (if aIJ (s.extract p (dO s s.size (p+1)))=true then jG s f (dO s s.size (p+1)) (out++ [⟨2,s.extract p (dO s s.size (p+1)),p⟩])else none)
  else none)=some ts:=by
 obtain⟨h1,h2,h3,h4⟩:=Iu h hp hb;rw[jG,if_pos hp,if_neg (by rw[hb];simp),h1,h2,h3,h4]at h;simpa using h
theorem V2{s:ByteArray}{f p:Nat}{out ts:List Tok}(h:jG s (f+1) p out=some ts)(hp:p<s.size)(hb:(fM s p==32)=false)(hs:wP (fM s p)=true):jG s f (p+1) (out++ [⟨3,s.extract p (p+1),p⟩])=some ts:=by
 have:=Dy h hp hb
 rwa[if_pos hs]at this
theorem V4{s:ByteArray}{f p:Nat}{out ts:List Tok}(h:jG s (f+1) p out=some ts)(hp:p<s.size)(hb:(fM s p==32)=false)(hs:wP (fM s p)=false)(hl:jO (fM s p)=true):
 MG (s.extract p (dO s s.size (p+1)))=true∧jG s f (dO s s.size (p+1)) (out++ [⟨1,s.extract p (dO s s.size (p+1)),p⟩])=some ts:=by
 have:=Dy h hp hb;rw[if_neg (by rw[hs];simp),if_pos hl]at this;split at this
 ·exact⟨by assumption,this⟩
 ·cases this
theorem aAo{s:ByteArray}{f p:Nat}{out ts:List Tok}(h:jG s (f+1) p out=some ts)(hp:p<s.size)(hb:(fM s p==32)=false)(hs:wP (fM s p)=false)(hl:jO (fM s p)=false):
 lD (fM s p)=true∧(∃n,VU (s.extract p (dO s s.size (p+1))) n=true)∧jG s f (dO s s.size (p+1)) (out++ [⟨2,s.extract p (dO s s.size (p+1)),p⟩])=some ts:=by
 have:=Dy h hp hb;rw[if_neg (by rw[hs];simp),if_neg (by rw[hl];simp)]at this;split at this
 ·split at this
  ·rename_i h1 h2
   obtain⟨n,hn⟩:=Option.isSome_iff_exists.1 h2;exact⟨h1,⟨n,dT hn⟩,this⟩
  ·cases this
 ·cases this
theorem mC{P:Program}{ops:Array Oper}{o:Oper}{a:Act}{w:World}{K:Act→World→Prop}{Q:Exit→Act→World→Prop}{E:Prop}
 (hg:o.guard=none) (s x:Operand) (t:TypeId) (hop:o.op=Op.call {callee:=Callee.builtin Builtin.append,args:= #[s,x],argTypes:= #[t,t]})
 (base:Nat) (e:TypeId) (i:TypeInfo) (z:Value) (size bytes:Nat) (h1:P.underlying t=some (.slice e)) (h2:P.info? e=some i) (h3:i.zero=some z) (h4:i.size=size) (h5:i.bytes=bytes) (h6:z.cells.size=size) (h7:0<size)
 (v:Value) (k:Nat) (xs:List Value) (hs:a.eval s=v) (hown:w.ownsRow base e size v k xs) (ad:Addr) (m c:Nat) (news:List Value) (hx:a.eval x= .slice (some ad) m c) (hn:news.length=m*size)
 (hc:∀j u,news[j]?=some u→w.cell? (ad.add j)=some u) (h1c:∀u∈news,u.oneCell'=true) (b1:k+m≤maxLen) (b2:(k+m)*bytes≤140737488355328) (b3:base≤w.heap.size)
 (hK:∀v' w',w'.ownsRow base e size v' (k+m) (xs++news)→w.grownBy w' v.ownBlock→K (a.put o.dst v') w'):
 if Region.wanted o (yielded ops a.tmps)=true then Oper.wp P o a w K Q else E:=by
 have hw:Region.wanted o (yielded ops a.tmps)=true:=by simp[Region.wanted,hg]
 rw[if_pos hw];obtain⟨v',w',hrun,r1,r2,r3⟩:=run_append_own (P:=P) w base t o.type e i z size bytes h1 h2 h3 h4 h5 h6 h7 v k xs hown ad m c news hn hc h1c b1 b2 b3;unfold Oper.wp;simp[execOp,hop,resolve,invoke,builtin,hs,hx,hrun,Result.andThen];exact hK v' w' r1 r2
structure Ver where
 unit:ByteArray
 cause:Nat
 aUA:List jI
structure V6 where
 d:Ver
 s:SlV
abbrev V6.val(x:V6):Value:= .agg #[.string x.d.unit,.int .i64 x.d.cause,.slice x.s.a x.s.n x.s.c]
def V6.cells(x:V6):List Value:= [.string x.d.unit,.int .i64 x.d.cause,.slice x.s.a x.s.n x.s.c]
theorem nV{w:World}{b b' e s n:Nat}{v:Value}{xs:List Value}(h:w.ownsRow b e s v n xs)(hb:b'≤b):w.ownsRow b' e s v n xs:=by
 refine⟨h.1,?_⟩;rcases h.2 with h2 | ⟨g,cap,cur,h1,h2,h3⟩
 ·exact .inl h2
 ·exact .inr ⟨g,cap,cur,h1,nT hb h2,h3⟩
theorem lV{w w':World}{row:Option Nat}{b e s n:Nat}{v:Value}{xs:List Value}(h:w.ownsRow b e s v n xs)(hg:w.grownBy w' row)(hr:∀r,row=some r→∀o:Obj,w.heap[r]?=some o→o.isCells=false):w'.ownsRow b e s v n xs:=
 h.kept hg (by
  rcases h.2 with⟨rfl,_⟩ | ⟨g,cap,cur,rfl,_,hh,_⟩
  ·exact .inl rfl
  ·exact .inr (fun e=>by
    have:=hr g e.symm _ hh
    cases this))
section
variable {w2:World} {vs:List V6} {v:Value} {Ds:List Nat} {hi:Nat} {W W':World}
end
structure FV(A:Option Addr)(n c g6 g8:Nat)(cd:Int)(g10:Nat)(A2:Option Addr)(n2 c2:Nat)(Ds:List Nat)(k:Nat)(a:Act):Prop where
 size:a.tmps.size=51
 s0:a.tmps.getD 0 undef= .slice A n c
 s6:a.tmps.getD 6 undef= .pointer (some ⟨g6,0,none⟩)
 s8:a.tmps.getD 8 undef= .pointer (some ⟨g8,0,none⟩)
 s9:a.tmps.getD 9 undef= .int .i64 cd
 s10:a.tmps.getD 10 undef= .pointer (some ⟨g10,0,none⟩)
 s24:a.tmps.getD 24 undef= .slice A2 n2 c2
 s25:a.tmps.getD 25 undef= .int .i64 n2
 s26:a.tmps.getD 26 undef= .int .i64 k
 defers:a.defers=Ds.map sM
theorem FV.lit{A:Option Addr}{n c g6 g8:Nat}{cd:Int}{g10:Nat}{A2:Option Addr}{n2 c2:Nat}{Ds:List Nat}{k:Nat}{a:Act}(h:FV A n c g6 g8 cd g10 A2 n2 c2 Ds k a):∃z:Nat→Value,a={tmps:=List.toArray [.slice A n c,z 1,z 2,z 3,z 4,z 5,.pointer (some ⟨g6,0,none⟩),z 7,.pointer (some ⟨g8,0,none⟩),.int .i64 cd,.pointer (some ⟨g10,0,none⟩),z 11,z 12,z 13,z 14,z 15,z 16,z 17,z 18,z 19,z 20,z 21,z 22,z 23,.slice A2 n2 c2,.int .i64 n2,.int .i64 k,z 27,z 28,z 29,z 30,z 31,z 32,z 33,z 34,z 35,z 36,z 37,z 38,z 39,z 40,z 41,z 42,z 43,z 44,z 45,z 46,z 47,z 48,z 49,z 50],defers:=Ds.map sM}:=by
 obtain⟨T,d⟩:=a;obtain⟨h1,h2,h3,h4,h5,h6,h7,h8,h9,h10⟩:=h;simp only at h1 h2 h3 h4 h5 h6 h7 h8 h9 h10;obtain⟨z,hz,hg⟩:=qy 51 T h1;refine⟨z,?_⟩;rw[←hg]at h2 h3 h4 h5 h6 h7 h8 h9;rw[h10,hz,←h2,←h3,←h4,←h5,←h6,←h7,←h8,←h9];rfl
theorem V7{κ:Type}[DecidableEq κ]{x:κ}{ks got:List κ}(hk:fP x ks=true)(h:false=(fP x ks&& !fP x got)):x∈got:=by
 rw[hk]at h
 cases hg:fP x got
 ·rw[hg]at h;cases h
 ·exact nS.1 hg
theorem V8{κ:Type}[DecidableEq κ]{x:κ}{ks got:List κ}(h:true=(fP x ks&& !fP x got)):x∈ks∧x∉got:=by
 cases hk:fP x ks
 ·rw[hk]at h;cases h
 ·cases hg:fP x got
  ·exact⟨nS.1 hk,fun hc=>by rw[nS.2 hc]at hg;cases hg⟩
  ·rw[hk,hg]at h;cases h
theorem V9{κ:Type}[DecidableEq κ]{x z:κ}{ks got:List κ}{a b:Bool}(h:a=(fP z ks&& !fP z got))(hb:b=decide (z=x)):(a&& !b)=(fP z ks&& !fP z (got++ [x])):=by
 subst h hb;rw[Bool.and_assoc];congr 1;by_cases h1:z∈got<;>by_cases h2:z=x<;>simp[fP,h1,h2]
section
variable {κ:Type} [DecidableEq κ] {M:jX κ}
def FQ(M:jX κ)(w:World)(b r:Nat)(ks:List κ)(f:κ→Int)(got:List κ)(cnt:Nat):Prop:=
 ∃n D left,w.ranges pG M.k (plainElem pG 3) b r n D left cnt∧FK M ks f D∧(∀x,M.good x→left (M.lit x)=(fP x ks&& !fP x got))∧got.Nodup∧∀x∈got,x∈ks
variable {w w':World} {b r n:Nat} {ks got:List κ} {f:κ→Int} {cnt:Nat}
theorem FQ.lt(h:FQ M w b r ks f got cnt):r<w.heap.size:=let ⟨_,_,_,h,_⟩:=h;h.lt
theorem FQ.nodup(h:FQ M w b r ks f got cnt):got.Nodup:=let ⟨_,_,_,_,_,_,h,_⟩:=h;h
theorem FQ.sub(h:FQ M w b r ks f got cnt):∀x∈got,x∈ks:=let ⟨_,_,_,_,_,_,_,h⟩:=h;h
theorem FQ.kept{row:Option Nat}(h:FQ M w b r ks f got cnt)(hg:w.grownBy w' row)(hb:some b≠row)(hr:some r≠row):FQ M w' b r ks f got cnt:=let ⟨n,D,left,h1,h2⟩:=h;⟨n,D,left,h1.kept hg hb hr,h2⟩
theorem FQ.alloc(h:FQ M w b r ks f got cnt)(o:Obj):FQ M (w.alloc o) b r ks f got cnt:=let ⟨n,D,left,h1,h2⟩:=h;⟨n,D,left,h1.alloc o,h2⟩
theorem FQ.same(h:FQ M w b r ks f got cnt)(hb:w'.heap[b]?=w.heap[b]?)(hr:w'.heap[r]?=w.heap[r]?):FQ M w' b r ks f got cnt:=by
 obtain⟨n,D,left,⟨es,clock,since,seen,c0,h1,h2,h3,h4,h5,h6⟩,h7⟩:=h;exact⟨n,D,left,⟨es,clock,since,seen,c0,hb.trans h1,h2,h3,h4,hr.trans h5,h6⟩,h7⟩
theorem FQ.obj(h:FQ M w b r ks f got cnt):∃o,w.heap[r]?=some o∧o.isWalk=true:=by
 obtain⟨n,D,left,⟨es,clock,since,seen,c0,h1,h2,h3,h4,h5,h6⟩,h7⟩:=h;exact⟨_,h5,rfl⟩
theorem fG.range(h:fG M w b n ks f):∃w' cnt,(Instr.range M.t (.map (some b))).run pG w= .ok (.pointer (some ⟨w.heap.size,0,none⟩)) w'∧FQ M w' b w.heap.size ks f [] cnt∧w.grownBy w' none∧w'.heap.size=w.heap.size+1:=by
 obtain⟨D,h1,h2⟩:=h;obtain⟨w',hr,r1,r2,r3⟩:=h1.range M.law M.und;refine⟨w',_,hr,⟨n,D,_,r1,h2,fun x hx=> ?_,List.nodup_nil,fun x h=>absurd h qz⟩,r2,r3⟩;rw[h2.has x hx];simp[fP]
theorem FQ.next(h:FQ M w b r ks f got cnt)(ty:TypeId):
 ((∀x∈ks,x∈got)∧(Instr.next (.pointer (some ⟨r,0,none⟩)) false ty).run pG w= .ok (.tuple #[.bool false]) w)∨
 ∃x c w' cnt',M.good x∧x∈ks∧x∉got∧(Instr.next (.pointer (some ⟨r,0,none⟩)) false ty).run pG w= .ok (.tuple #[.bool true,M.vl x,.int .i64 c]) w'∧FQ M w' b r ks f (got++ [x]) cnt'∧cnt'<cnt∧w.grownBy w' (some r)∧w'.heap.size=w.heap.size∧
  (Instr.entry (.pointer (some ⟨r,0,none⟩))).run pG w'= .ok (.tuple #[M.vl x,.int .i64 c]) w':=by
 obtain⟨n,D,left,h1,h2,h3,h4,h5⟩:=h;rcases h1.next M.law ty with⟨h0,hl,hrun⟩ | ⟨key,v,kl,y,w',cnt',hkey,hlk,hv,hat,hrun,hrg,hlt,hgr,hsz,hen⟩
 ·refine .inl ⟨fun x hx=> ?_,hrun⟩
  have h6:=(hl (M.lit x)).symm.trans (h3 x (h2.good x hx));exact V7 (nS.2 hx) h6
 ·obtain⟨x,hx,rfl⟩:=M.inv key kl hkey
  obtain rfl:M.lit x=kl:=Option.some.inj ((M.key x hx).symm.trans hkey);obtain⟨c,rfl,_⟩:=plainElem_int_inv Tryz.underlying3 hv;have Vq:=V8 (hlk.symm.trans (h3 x hx));have hxk:=Vq.1;have hxg:=Vq.2;refine .inr ⟨x,c,w',cnt',hx,hxk,hxg,hrun,⟨n,D,_,hrg,h2,fun z hz=> ?_,?_,?_⟩,hlt,hgr,hsz,hen⟩
  ·have hs:(M.lit z).sameKey (M.lit x)=decide (z=x):=by
    rw[Bool.eq_iff_iff,WideAt.sameKey_iff (jX.isKey hx),decide_eq_true_eq];exact⟨fun e=>jX.RI hz hx e,fun e=>congrArg M.lit e⟩
   exact V9 (h3 z hz) hs
  ·rw[List.nodup_append]
   exact⟨h4,qz,fun a ha b hb=>by simp at hb;subst hb;exact fun e=>hxg (e▸ha)⟩
  ·intro z hz
   rcases List.mem_append.1 hz with hz | hz
   ·exact h5 z hz
   ·simp at hz;subst hz;exact hxk
end
structure Iw(w:World)(xs:List jI)(v:Value)(W:World):Prop where
 below:Below w.heap.size w W
 size:w.heap.size+1≤W.heap.size
 box:ah W w.heap.size 80 #[v]
 own:W.ownsRow (w.heap.size+1) 85 2 v xs.length (xs.flatMap jI.cells)
theorem Iw.grow{w W W':World}{xs:List jI}{v:Value}(h:Iw w xs v W){row:Option Nat}(hg:W.grownBy W' row)(hr:∀r,row=some r→w.heap.size+1≤r∧(∀o:Obj,W.heap[r]?=some o→o.isCells=false)):Iw w xs v W':=
 ⟨h.below.grown hg (by have:=h.size;omega) (fun j e=>by have:=(hr j e).1;omega),nT h.size hg.size,h.box.grown hg (fun e=>by have:=(hr _ e.symm).1;omega),lV h.own hg (fun r e=>(hr r e).2)⟩
theorem Iw.step{w W wo:World}{xs:List jI}{v v':Value}{x:jI}{o:Obj}(h:Iw w xs v W)(hown:wo.ownsRow (w.heap.size+1) 85 2 v' (xs.length+1) (xs.flatMap jI.cells++x.cells))(eG:(W.alloc o).grownBy wo v.ownBlock):Iw w (xs++ [x]) v' (wo.setCell ⟨w.heap.size,0,none⟩ v'):=by
 have Pb:=eG.size;simp at Pb;have hsz:=h.size;have hown1:=h.own.alloc o;have uH:∀g,g<w.heap.size+1→some g≠v.ownBlock:=fun g hlt e=>by have:=(hown1.lt g e.symm).1;omega
 have dI:Below w.heap.size w wo:=(h.below.alloc oz o).grown eG qo (fun g hg=>by have:=(hown1.lt g hg).1;omega);have b9:ah wo w.heap.size 80 #[v]:=(h.box.alloc o).grown eG (uH _ oz);have b9':=b9.bX 0 v';refine⟨dI.setCell nL _,by simp[World.setCell];omega,by simpa using b9',?_⟩;have:wo.ownsRow (w.heap.size+1) 85 2 v' (xs++ [x]).length ((xs++ [x]).flatMap jI.cells):=by simpa using hown
 exact this.kept (uI wo ⟨w.heap.size,0,none⟩ v') (.inr (aW this b9 dz))
theorem J2{W W':World}(h:Below W.heap.size W W'):KeepsOthers W W':=⟨h.size,fun k o hk _=>(h.block k (gE hk).1).trans hk⟩
theorem Dz{base:Nat}{e:TypeId}{size n:Nat}{v:Value}{xs:List Value}{X Y:World}(hown:X.ownsRow base e size v n xs)(hg:X.grownBy Y v.ownBlock):KeepsOthers X Y:=
 ⟨hg.size,fun k o hk ho=>(hg.block k (gE hk).1 (fun e=>iQ hown hk ho e.symm)).trans hk⟩
theorem nW{g:Nat}{t:TypeId}{cs:Array Value}{X:World}(hb:ah X g t cs)(u:Value):KeepsOthers X (X.setCell ⟨g,0,none⟩ u):=
 ⟨by simp[World.setCell],fun k o hk ho=>(Below.heap_setCell X ⟨g,0,none⟩ u k (fun e=>by
  have e:k=g:=e;subst e;rw[show X.heap[k]?=_ from hb]at hk
  cases hk;cases ho)).trans hk⟩
end
end Go.Proofs.YtmdgooofdmpcjaaGreatDoor
