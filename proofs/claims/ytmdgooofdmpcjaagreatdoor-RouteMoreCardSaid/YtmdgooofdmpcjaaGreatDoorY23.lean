import Derived.Test.YtmdgooofdmpcjaaGreatDoorCards
import Derived.Test.YtmdgooofdmpcjaaGreatDoorTie
import Derived.LaidMore
import Derived.Deep.DeepWitnessRowRef
import Derived.Test.YtmdgooofdmpcjaaGreatDoorY6
set_option maxRecDepth 100000
set_option linter.unusedSimpArgs false
set_option linter.unusedVariables false
set_option linter.unusedSectionVars false
open Go.Proofs.Tryz renaming prog → pG
open List renaming getElem?_eq_getElem->EN,getElem_mem->CS
open Option renaming bind_eq_some_iff->Hg,some->Ai,some->ES
open Go.Proofs.Tryz
namespace Go.Proofs.YtmdgooofdmpcjaaGreatDoor
open Go renaming Addr->EK,TypeId->E3,Value->Bn,World->Al,maxLen->EW
section
open Go.ChangeShapes Go.WideShapes Go.ChangeAt Go.RowKit Go.Deep
section
variable {H:Type} {enc:E3×Bn->H} {P:Program} {W:Al}
structure Tr(enc:E3×Bn->H)(P:Program)(W:Al)(f:Nat)(t:E3)(cs:List Bn):Prop where
 h:∃y,DataW.trod enc P W 0 (λ_=>true) true f t cs=Ai y/\∀m∈y.1.weights P t,m<=reachBytes
theorem Tr.struct{t:E3}{fs:Array Field}{f:Nat}{cs:List Bn}(ht:P.underlying t=Ai (.struct fs))(h:Tr enc P W f t cs):
 cs.length=P.cellsOf t/\∃n,∀(i:Nat) (g:Field),fs[i]?=Ai g->Tr enc P W n g.type ((cs.drop g.offset).take (P.cellsOf g.type)):=by
 obtain⟨y,h,hz⟩:=h;obtain⟨xs,n,_,hx,hl,hlen,hf⟩:=DataW.trod_struct ht h;refine⟨hl,n,λi g hg=> ?_⟩;have hi:i<fs.size:=(gE hg).1;have hgi:=hf i g hg;rw[EN oz]at hgi;refine⟨_,hgi,λm hm=>hz m ?_⟩;rw[hx];simp only[DataW.weights,ht];exact DataW.weights_mem_each (j:=i) (t:=g.type) (d:=xs[i].1) (by simp[hg]) (by simp[EN (show i<xs.length by omega)]) m hm
theorem Tr.str{t:E3}{f:Nat}{cs:List Bn}(ht:P.underlying t=Ai .string)(h:Tr enc P W f t cs):∃s:ByteArray,cs= [.string s]/\s.size<=maxLen:=by
 obtain⟨y,h,_⟩:=h;obtain⟨s,e,_,hs⟩:=DataW.trod_string ht h;exact⟨s,e,hs⟩
theorem Tr.int{t:E3}{k:IntKind}{f:Nat}{cs:List Bn}(ht:P.underlying t=Ai (.int k))(h:Tr enc P W f t cs):∃n:Int,cs= [.int k n]/\(Lit.int k n).wf=true:=by
 obtain⟨y,h,_⟩:=h;obtain⟨s,e,_,hs⟩:=DataW.trod_int ht h;exact⟨s,e,hs⟩
theorem Tr.bool{t:E3}{f:Nat}{cs:List Bn}(ht:P.underlying t=Ai .bool)(h:Tr enc P W f t cs):∃b:Bool,cs= [.bool b]:=by
 obtain⟨y,h,_⟩:=h;obtain⟨s,e,_⟩:=DataW.trod_bool ht h;exact⟨s,e⟩
theorem Io{n:Int}(h:(Lit.int .u8 n).wf=true):0<=n/\n<=255:=by
 have:=h;simp[Lit.wf,IntKind.min,IntKind.max,IntKind.bits,IntKind.signed]at this;omega
theorem Tr.slice{α:Type}(E:α->List Bn)(R:α->Prop){t e:E3}(C:Nat)(hC0:0<C)(ht:P.underlying t=Ai (.slice e))(hC:P.cellsOf e=C)
 (hel:∀f cs,Tr enc P W f e cs->∃x:α,cs=E x/\R x) {f:Nat} {cs:List Bn} (h:Tr enc P W f t cs):
 ∃(A:Option EK) (c:Nat) (l:List α),cs= [.slice A l.length c]/\l.length<=c/\c<=EW/\l.length*P.bytesOf e<=reachBytes/\(∀x∈l,R x)/\
  (0<l.length->∃b o,A=Ai ⟨b,o,none⟩/\b<W.heap.size/\∀i (hi:i<l.length) j u,(E l[i])[j]?=Ai u->W.cell? ⟨b,o+i*C+j,none⟩=Ai u):=by
 obtain⟨y,h,hz⟩:=h;rcases DataW.trod_slice ht h with⟨hcs,_⟩ | ⟨a,len,cap,elems,rest,n,hn,hcs,hx,_,hl,hm,hlen,hi,_,_⟩
 .subst hcs
  exact⟨none,0,[],rfl,nL,by simp[EW],qz,qz,λh=>absurd h qz⟩
 .subst hcs
  have aJ:∀i,i<len->∃x:α,R x/\∃cs',W.cells? 0 (a.add (i*P.cellsOf e)) (P.cellsOf e)=Ai cs'/\cs'=E x:=by
   intro i YO;have key:=hi i YO;rw[EN oz]at key;obtain⟨cs',hc,Sg⟩:=Hg.1 key;obtain⟨x,hE,hR⟩:=hel n cs' ⟨_,Sg,λm hm=>hz m (by
    rw[hx];simp only[DataW.weights,ht];exact List.mem_cons_of_mem _ (List.mem_append_left _ (sN (List.mem_map.2 ⟨elems[i],CS _,rfl⟩) hm)))⟩
   exact⟨x,hR,cs',hc,hE⟩
  obtain⟨l,XK,Vx⟩:=aAe len _ aJ;subst XK;refine⟨Ai a,cap,l,rfl,hl,hm,?_,λx hx=> ?_,λhn=> ?_⟩
  .have:=hz ((elems.length+rest.length)*P.bytesOf e) (by
    rw[hx];simp only[DataW.weights,ht,List.length_map];exact List.mem_cons_self)
   have h2:l.length*P.bytesOf e<=(elems.length+rest.length)*P.bytesOf e:=Nat.mul_le_mul_right _ oz;omega
  .obtain⟨i,uz,rfl⟩:=List.getElem_of_mem hx
   exact(Vx i uz).1
  .have hat:∀i (hi:i<l.length) j u,(E l[i])[j]?=Ai u->W.cell? ((a.add (i*C)).add j)=Ai u:=by
    intro i YO j u hu;obtain⟨_,cs',hc,rfl⟩:=Vx i YO;obtain⟨_,cC,Sv⟩:=World.cells?_some hc;have hj:j<P.cellsOf e:=by rw[<-cC];exact(List.getElem?_eq_some_iff.1 hu).1
    rw[<-hC,Sv j hj,hu]
   obtain⟨_,cs',hc,e0⟩:=Vx 0 hn;obtain⟨_,cC,Sv⟩:=World.cells?_some hc;have h0:=Sv 0 oz;rw[EN oz]at h0;have ha0:(a.add (0*P.cellsOf e)).add 0=a:=by simp[Addr.add]
   rw[ha0]at h0;have ea:=JR h0;refine⟨a.block,a.off,by rw[<-ea],World.block_lt_of_cell? W _ h0,λi YO j u hu=> ?_⟩;have:=hat i YO j u hu;rw[ea,eY,eY]at this;exact this
theorem Tr.st{t:E3}{fs:Array Field}{f k:Nat}{cs:List Bn}(ht:P.underlying t=Ai (.struct fs))(hk:P.cellsOf t=k)(h:Tr enc P W f t cs):
 cs.length=k/\∃n,∀(i t' o c:Nat) (vs:List Bn),(fs[i]?).map (λg=>(g.type,g.offset))=Ai (t',o)->P.cellsOf t'=c->(cs.drop o).take c=vs->Tr enc P W n t' vs:=by
 obtain⟨hl,n,hf⟩:=h.struct ht;refine⟨hl.trans hk,n,λi t' o c vs h1 h2 h3=> ?_⟩;obtain⟨g,hg,h4⟩:=Option.map_eq_some_iff.1 h1;injection h4 with h4 h5
 have:=hf i g hg;rw[h4,h5,h2,h3]at this;exact this
theorem Tr.sl{α:Type}(E:α->List Bn)(R:α->Prop){t e:E3}(C:Nat)(hC0:0<C)(ht:P.underlying t=Ai (.slice e))(hC:P.cellsOf e=C)(hb:16<=P.bytesOf e)
 (hel:∀f cs,Tr enc P W f e cs->∃x:α,cs=E x/\R x) {f:Nat} {cs:List Bn} (h:Tr enc P W f t cs):
 ∃(A:Option EK) (c:Nat) (l:List α),cs= [.slice A l.length c]/\l.length<=c/\c<=EW/\l.length<=8796093021952/\(∀x∈l,R x)/\
  (0<l.length->∃b o,A=Ai ⟨b,o,none⟩/\b<W.heap.size/\∀i (hi:i<l.length) j u,(E l[i])[j]?=Ai u->W.cell? ⟨b,o+i*C+j,none⟩=Ai u):=by
 obtain⟨A,c,l,h1,h2,h3,h4,hR,hc⟩:=h.slice E R C hC0 ht hC hel;have h5:l.length*16<=l.length*P.bytesOf e:=Nat.mul_le_mul_left _ hb;unfold reachBytes at h4;exact⟨A,c,l,h1,h2,h3,oz,hR,hc⟩
end
section
variable {H:Type} {enc:E3×Bn->H} {W:Al}
theorem aP6{f:Nat}{cs:List Bn}(h:Tr enc pG W f 3 cs):∃x:Int,cs= [.int .i64 x]/\(Lit.int .i64 x).wf=true:=h.int underlying3
theorem aP7{f:Nat}{cs:List Bn}(h:Tr enc pG W f 9 cs):∃x:ByteArray,cs= [.string x]/\x.size<=maxLen:=h.str underlying9
theorem SY{f:Nat}{cs:List Bn}(h:Tr enc pG W f 36 cs):∃(A:Option EK) (c:Nat) (l:List Int),cs= [.slice A l.length c]/\l.length<=c/\c<=EW/\l.length<=17592186044416/\fV W W.heap.size A l/\(∀x∈l,(Lit.int .i64 x).wf=true):=by
 obtain⟨A,c,l,h1,h2,h3,h4,hR,hc⟩:=h.slice (λx=> [.int .i64 x]) (λx=>(Lit.int .i64 x).wf=true) (e:=3) 1 dz underlying36 kz (λf cs h=>aP6 h);have hb:16<=pG.bytesOf 3\/pG.bytesOf 3=8:=by decide+kernel
 have hlen:l.length<=17592186044416:=by
  rcases hb with hb | hb
  .have h5:l.length*16<=l.length*pG.bytesOf 3:=Nat.mul_le_mul_left _ hb
   unfold reachBytes at h4;omega
  .rw[hb]at h4
   unfold reachBytes at h4;omega
 refine⟨A,c,l,h1,h2,h3,?_,λhn=> ?_,hR⟩
 .omega
 .obtain⟨b,o,e,hb,hc⟩:=hc hn
  exact⟨b,o,e,hb,λi hi=>by simpa using hc i hi 0 _ rfl⟩
theorem aCk{f:Nat}{cs:List Bn}(h:Tr enc pG W f 81 cs):∃(A:Option EK) (c:Nat) (l:List ByteArray),cs= [.slice A l.length c]/\l.length<=c/\c<=EW/\l.length<=8796093021952/\iB W W.heap.size A l/\(∀x∈l,x.size<=EW):=by
 obtain⟨A,c,l,h1,h2,h3,h4,hR,hc⟩:=h.sl (λx=> [.string x]) (λx=>x.size<=EW) (e:=9) 1 dz underlying81 kz (by decide+kernel) (λf cs h=>aP7 h);refine⟨A,c,l,h1,h2,h3,h4,λhn=> ?_,hR⟩;obtain⟨b,o,e,hb,hc⟩:=hc hn;exact⟨b,o,e,hb,λi hi=>by simpa using hc i hi 0 _ rfl⟩
theorem U2{f:Nat}{cs:List Bn}(h:Tr enc pG W f 85 cs):∃x:jI,cs= [.string x.unit,.int .i64 x.code]/\x.ok:=by
 obtain⟨hl,n,hf⟩:=h.st (k:=2) underlying85 kz
 match cs,hl,hf with
 | [v0,v1],_,hf=>
  obtain⟨x0,⟨⟩,p0⟩:=(hf 0 9 0 1 [v0] rfl kz rfl).str underlying9;obtain⟨x1,⟨⟩,p1⟩:=(hf 1 3 1 1 [v1] rfl kz rfl).int underlying3;exact⟨⟨x0,x1⟩,rfl,⟨p0,p1⟩⟩
theorem Lb{f:Nat}{cs:List Bn}(h:Tr enc pG W f 80 cs):∃(A:Option EK) (c:Nat) (l:List jI),cs= [.slice A l.length c]/\l.length<=c/\c<=EW/\l.length<=8796093021952/\jE W W.heap.size A l/\(∀x∈l,x.ok):=by
 obtain⟨A,c,l,h1,h2,h3,h4,hR,hc⟩:=h.sl (λx:jI=> [.string x.unit,.int .i64 x.code]) (λx=>x.ok) (e:=85) 2 dz underlying80 kz (by decide+kernel) (λf cs h=>U2 h);refine⟨A,c,l,h1,h2,h3,h4,λhn=> ?_,hR⟩;obtain⟨b,o,e,hb,hc⟩:=hc hn;exact⟨b,o,e,hb,λi hi=>⟨by simpa using hc i hi 0 _ rfl,hc i hi 1 _ rfl⟩⟩
theorem YU{f:Nat}{cs:List Bn}(h:Tr enc pG W f 83 cs):∃x:fC,cs= [.string x.c.unit,x.n.val,x.x.val]/\OkC x.c/\x.x.n<=8796093021952/\x.rd W W.heap.size:=by
 obtain⟨hl,n,hf⟩:=h.st (k:=3) underlying83 kz
 match cs,hl,hf with
 | [v0,v1,v2],_,hf=>
  obtain⟨x0,⟨⟩,p0⟩:=(hf 0 9 0 1 [v0] rfl kz rfl).str underlying9;obtain⟨A1,c1,l1,⟨⟩,a1,b1,n1,r1,p1⟩:=Lb (hf 1 80 1 1 [v1] rfl kz rfl);obtain⟨A2,c2,l2,⟨⟩,a2,b2,n2,r2,p2⟩:=aCk (hf 2 81 2 1 [v2] rfl kz rfl);exact⟨⟨⟨x0,l1,l2⟩,⟨A1,l1.length,c1⟩,⟨A2,l2.length,c2⟩⟩,rfl,⟨p0,p1,p2⟩,n2,⟨rfl,a1,b1,r1,rfl,a2,b2,r2⟩⟩
theorem aGV{f:Nat}{cs:List Bn}(h:Tr enc pG W f 169 cs):∃x:gu,cs= [.int .u8 x.op,.int .i64 x.a,.int .i64 x.b,.int .i64 x.d]/\x.rd W W.heap.size:=by
 obtain⟨hl,n,hf⟩:=h.st (k:=4) underlying169 kz
 match cs,hl,hf with
 | [v0,v1,v2,v3],_,hf=>
  obtain⟨x0,⟨⟩,p0⟩:=(hf 0 5 0 1 [v0] rfl kz rfl).int underlying5;obtain⟨x1,⟨⟩,p1⟩:=(hf 1 3 1 1 [v1] rfl kz rfl).int underlying3;obtain⟨x2,⟨⟩,p2⟩:=(hf 2 3 2 1 [v2] rfl kz rfl).int underlying3;obtain⟨x3,⟨⟩,p3⟩:=(hf 3 3 3 1 [v3] rfl kz rfl).int underlying3;exact⟨⟨x0,x1,x2,x3⟩,rfl,⟨Io p0⟩⟩
theorem Q5{f:Nat}{cs:List Bn}(h:Tr enc pG W f 41 cs):∃x:bw,cs= [.string x.m,.string x.p,.string x.o]/\True:=by
 obtain⟨hl,n,hf⟩:=h.st (k:=3) underlying41 kz
 match cs,hl,hf with
 | [v0,v1,v2],_,hf=>
  obtain⟨x0,⟨⟩,p0⟩:=(hf 0 9 0 1 [v0] rfl kz rfl).str underlying9;obtain⟨x1,⟨⟩,p1⟩:=(hf 1 9 1 1 [v1] rfl kz rfl).str underlying9;obtain⟨x2,⟨⟩,p2⟩:=(hf 2 9 2 1 [v2] rfl kz rfl).str underlying9;exact⟨⟨x0,x1,x2⟩,rfl,trivial⟩
theorem aCl{f:Nat}{cs:List Bn}(h:Tr enc pG W f 73 cs):∃x:aM,cs= [.string x.nm,.int .u8 x.kd,.bool x.out,.int .i64 x.sz,.int .i64 x.dp,.int .i64 x.rf]/\x.rd W W.heap.size:=by
 obtain⟨hl,n,hf⟩:=h.st (k:=6) underlying73 kz
 match cs,hl,hf with
 | [v0,v1,v2,v3,v4,v5],_,hf=>
  obtain⟨x0,⟨⟩,p0⟩:=(hf 0 9 0 1 [v0] rfl kz rfl).str underlying9;obtain⟨x1,⟨⟩,p1⟩:=(hf 1 5 1 1 [v1] rfl kz rfl).int underlying5;obtain⟨x2,⟨⟩⟩:=(hf 2 4 2 1 [v2] rfl kz rfl).bool underlying4;obtain⟨x3,⟨⟩,p3⟩:=(hf 3 3 3 1 [v3] rfl kz rfl).int underlying3;obtain⟨x4,⟨⟩,p4⟩:=(hf 4 3 4 1 [v4] rfl kz rfl).int underlying3;obtain⟨x5,⟨⟩,p5⟩:=(hf 5 3 5 1 [v5] rfl kz rfl).int underlying3;exact⟨⟨x0,x1,x2,x3,x4,x5⟩,rfl,⟨Io p1⟩⟩
theorem U3{f:Nat}{cs:List Bn}(h:Tr enc pG W f 74 cs):∃(A:Option EK) (c:Nat) (l:List gu),cs= [.slice A l.length c]/\l.length<=c/\c<=EW/\l.length<=8796093021952/\ku W W.heap.size A l/\True:=by
 obtain⟨A,c,l,h1,h2,h3,h4,hR,hc⟩:=h.sl (λx:gu=> [.int .u8 x.op,.int .i64 x.a,.int .i64 x.b,.int .i64 x.d]) (λx=>x.rd W W.heap.size) (e:=169) 4 dz underlying74 kz (by decide+kernel) (λf cs h=>aGV h);refine⟨A,c,l,h1,h2,h3,h4,λhn=> ?_,trivial⟩;obtain⟨b,o,e,hb,hc⟩:=hc hn;exact⟨b,o,e,hb,λi hi=>⟨by simpa using hc i hi 0 _ rfl,hc i hi 1 _ rfl,hc i hi 2 _ rfl,hc i hi 3 _ rfl,hR _ (CS hi)⟩⟩
theorem aCm{f:Nat}{cs:List Bn}(h:Tr enc pG W f 76 cs):∃x:cT,cs= [.string x.nm,.int .i64 x.pr,.int .i64 x.pe,.int .i64 x.li,x.code.val]/\x.rd W W.heap.size:=by
 obtain⟨hl,n,hf⟩:=h.st (k:=5) underlying76 kz
 match cs,hl,hf with
 | [v0,v1,v2,v3,v4],_,hf=>
  obtain⟨x0,⟨⟩,p0⟩:=(hf 0 9 0 1 [v0] rfl kz rfl).str underlying9;obtain⟨x1,⟨⟩,p1⟩:=(hf 1 3 1 1 [v1] rfl kz rfl).int underlying3;obtain⟨x2,⟨⟩,p2⟩:=(hf 2 3 2 1 [v2] rfl kz rfl).int underlying3;obtain⟨x3,⟨⟩,p3⟩:=(hf 3 3 3 1 [v3] rfl kz rfl).int underlying3;obtain⟨A4,c4,l4,⟨⟩,a4,b4,n4,r4,p4⟩:=U3 (hf 4 74 4 1 [v4] rfl kz rfl);exact⟨⟨x0,x1,x2,x3,⟨A4,c4,l4⟩⟩,rfl,⟨a4,b4,r4⟩⟩
theorem Q6{f:Nat}{cs:List Bn}(h:Tr enc pG W f 68 cs):∃(A:Option EK) (c:Nat) (l:List aM),cs= [.slice A l.length c]/\l.length<=c/\c<=EW/\l.length<=8796093021952/\fu W W.heap.size A l/\True:=by
 obtain⟨A,c,l,h1,h2,h3,h4,hR,hc⟩:=h.sl (λx:aM=> [.string x.nm,.int .u8 x.kd,.bool x.out,.int .i64 x.sz,.int .i64 x.dp,.int .i64 x.rf]) (λx=>x.rd W W.heap.size) (e:=73) 6 dz underlying68 kz (by decide+kernel) (λf cs h=>aCl h);refine⟨A,c,l,h1,h2,h3,h4,λhn=> ?_,trivial⟩;obtain⟨b,o,e,hb,hc⟩:=hc hn;exact⟨b,o,e,hb,λi hi=>⟨by simpa using hc i hi 0 _ rfl,hc i hi 1 _ rfl,hc i hi 2 _ rfl,hc i hi 3 _ rfl,hc i hi 4 _ rfl,hc i hi 5 _ rfl,hR _ (CS hi)⟩⟩
theorem Q7{f:Nat}{cs:List Bn}(h:Tr enc pG W f 69 cs):∃(A:Option EK) (c:Nat) (l:List cT),cs= [.slice A l.length c]/\l.length<=c/\c<=EW/\l.length<=8796093021952/\gI W W.heap.size A l/\True:=by
 obtain⟨A,c,l,h1,h2,h3,h4,hR,hc⟩:=h.sl (λx:cT=> [.string x.nm,.int .i64 x.pr,.int .i64 x.pe,.int .i64 x.li,x.code.val]) (λx=>x.rd W W.heap.size) (e:=76) 5 dz underlying69 kz (by decide+kernel) (λf cs h=>aCm h);refine⟨A,c,l,h1,h2,h3,h4,λhn=> ?_,trivial⟩;obtain⟨b,o,e,hb,hc⟩:=hc hn;exact⟨b,o,e,hb,λi hi=>⟨by simpa using hc i hi 0 _ rfl,hc i hi 1 _ rfl,hc i hi 2 _ rfl,hc i hi 3 _ rfl,hc i hi 4 _ rfl,hR _ (CS hi)⟩⟩
theorem aCn{f:Nat}{cs:List Bn}(h:Tr enc pG W f 71 cs):∃x:aC,cs= [.string x.nm,.int .i64 x.pe,.int .i64 x.le,.int .i64 x.mem,x.aG.val,.int .i64 x.ev,.int .i64 x.bo,x.aX.val,x.aq.val,x.procs.val]/\x.rd W W.heap.size:=by
 obtain⟨hl,n,hf⟩:=h.st (k:=10) underlying71 kz
 match cs,hl,hf with
 | [v0,v1,v2,v3,v4,v5,v6,v7,v8,v9],_,hf=>
  obtain⟨x0,⟨⟩,p0⟩:=(hf 0 9 0 1 [v0] rfl kz rfl).str underlying9;obtain⟨x1,⟨⟩,p1⟩:=(hf 1 3 1 1 [v1] rfl kz rfl).int underlying3;obtain⟨x2,⟨⟩,p2⟩:=(hf 2 3 2 1 [v2] rfl kz rfl).int underlying3;obtain⟨x3,⟨⟩,p3⟩:=(hf 3 3 3 1 [v3] rfl kz rfl).int underlying3;obtain⟨A4,c4,l4,⟨⟩,a4,b4,n4,r4,p4⟩:=SY (hf 4 36 4 1 [v4] rfl kz rfl);obtain⟨x5,⟨⟩,p5⟩:=(hf 5 3 5 1 [v5] rfl kz rfl).int underlying3;obtain⟨x6,⟨⟩,p6⟩:=(hf 6 3 6 1 [v6] rfl kz rfl).int underlying3;obtain⟨A7,c7,l7,⟨⟩,a7,b7,n7,r7,p7⟩:=SY (hf 7 36 7 1 [v7] rfl kz rfl);obtain⟨A8,c8,l8,⟨⟩,a8,b8,n8,r8,p8⟩:=Q6 (hf 8 68 8 1 [v8] rfl kz rfl);obtain⟨A9,c9,l9,⟨⟩,a9,b9,n9,r9,p9⟩:=Q7 (hf 9 69 9 1 [v9] rfl kz rfl);exact⟨⟨x0,x1,x2,x3,⟨A4,c4,l4⟩,x5,x6,⟨A7,c7,l7⟩,⟨A8,c8,l8⟩,⟨A9,c9,l9⟩⟩,rfl,⟨a4,b4,r4,a7,b7,r7,a8,b8,r8,a9,b9,r9⟩⟩
theorem Q8{f:Nat}{cs:List Bn}(h:Tr enc pG W f 65 cs):∃(A:Option EK) (c:Nat) (l:List aC),cs= [.slice A l.length c]/\l.length<=c/\c<=EW/\l.length<=8796093021952/\fW W W.heap.size A l/\True:=by
 obtain⟨A,c,l,h1,h2,h3,h4,hR,hc⟩:=h.sl (λx:aC=> [.string x.nm,.int .i64 x.pe,.int .i64 x.le,.int .i64 x.mem,x.aG.val,.int .i64 x.ev,.int .i64 x.bo,x.aX.val,x.aq.val,x.procs.val]) (λx=>x.rd W W.heap.size) (e:=71) 10 dz underlying65 kz (by decide+kernel) (λf cs h=>aCn h);refine⟨A,c,l,h1,h2,h3,h4,λhn=> ?_,trivial⟩;obtain⟨b,o,e,hb,hc⟩:=hc hn;exact⟨b,o,e,hb,λi hi=>⟨by simpa using hc i hi 0 _ rfl,hc i hi 1 _ rfl,hc i hi 2 _ rfl,hc i hi 3 _ rfl,hc i hi 4 _ rfl,hc i hi 5 _ rfl,hc i hi 6 _ rfl,hc i hi 7 _ rfl,hc i hi 8 _ rfl,hc i hi 9 _ rfl,hR _ (CS hi)⟩⟩
theorem U4{f:Nat}{cs:List Bn}(h:Tr enc pG W f 67 cs):∃x:bT,cs= [.string x.nm,.int .i64 x.mem,.int .i64 x.fr,x.parts.val]/\x.rd W W.heap.size:=by
 obtain⟨hl,n,hf⟩:=h.st (k:=4) underlying67 kz
 match cs,hl,hf with
 | [v0,v1,v2,v3],_,hf=>
  obtain⟨x0,⟨⟩,p0⟩:=(hf 0 9 0 1 [v0] rfl kz rfl).str underlying9;obtain⟨x1,⟨⟩,p1⟩:=(hf 1 3 1 1 [v1] rfl kz rfl).int underlying3;obtain⟨x2,⟨⟩,p2⟩:=(hf 2 3 2 1 [v2] rfl kz rfl).int underlying3;obtain⟨A3,c3,l3,⟨⟩,a3,b3,n3,r3,p3⟩:=Q8 (hf 3 65 3 1 [v3] rfl kz rfl);exact⟨⟨x0,x1,x2,⟨A3,c3,l3⟩⟩,rfl,⟨a3,b3,r3⟩⟩
theorem JA{f:Nat}{cs:List Bn}(h:Tr enc pG W f 42 cs):∃(A:Option EK) (c:Nat) (l:List bw),cs= [.slice A l.length c]/\l.length<=c/\c<=EW/\l.length<=8796093021952/\jo W W.heap.size A l/\True:=by
 obtain⟨A,c,l,h1,h2,h3,h4,hR,hc⟩:=h.sl (λx:bw=> [.string x.m,.string x.p,.string x.o]) (λ_=>True) (e:=41) 3 dz underlying42 kz (by decide+kernel) (λf cs h=>Q5 h);refine⟨A,c,l,h1,h2,h3,h4,λhn=> ?_,trivial⟩;obtain⟨b,o,e,hb,hc⟩:=hc hn;exact⟨b,o,e,hb,λi hi=>⟨by simpa using hc i hi 0 _ rfl,hc i hi 1 _ rfl,hc i hi 2 _ rfl⟩⟩
theorem Q9{f:Nat}{cs:List Bn}(h:Tr enc pG W f 78 cs):∃x:gq,cs= [.string x.src.m,.string x.src.p,.string x.src.o,x.dst.val]/\x.rd W W.heap.size:=by
 obtain⟨hl,n,hf⟩:=h.st (k:=4) underlying78 kz
 match cs,hl,hf with
 | [v0,v1,v2,v3],_,hf=>
  obtain⟨x0,⟨⟩,_⟩:=Q5 (hf 0 41 0 3 [v0,v1,v2] rfl kz rfl);obtain⟨A1,c1,l1,⟨⟩,a1,b1,n1,r1,p1⟩:=JA (hf 1 42 3 1 [v3] rfl kz rfl);exact⟨⟨x0,⟨A1,c1,l1⟩⟩,rfl,⟨a1,b1,r1⟩⟩
theorem U5{f:Nat}{cs:List Bn}(h:Tr enc pG W f 87 cs):∃x:iI,cs= [.string x.nm,.int .i64 x.net,.int .i64 x.dl,.int .i64 x.st]/\True:=by
 obtain⟨hl,n,hf⟩:=h.st (k:=4) underlying87 kz
 match cs,hl,hf with
 | [v0,v1,v2,v3],_,hf=>
  obtain⟨x0,⟨⟩,p0⟩:=(hf 0 9 0 1 [v0] rfl kz rfl).str underlying9;obtain⟨x1,⟨⟩,p1⟩:=(hf 1 3 1 1 [v1] rfl kz rfl).int underlying3;obtain⟨x2,⟨⟩,p2⟩:=(hf 2 3 2 1 [v2] rfl kz rfl).int underlying3;obtain⟨x3,⟨⟩,p3⟩:=(hf 3 3 3 1 [v3] rfl kz rfl).int underlying3;exact⟨⟨x0,x1,x2,x3⟩,rfl,trivial⟩
theorem aCo{f:Nat}{cs:List Bn}(h:Tr enc pG W f 46 cs):∃x:aO,cs= [.string x.a,.string x.b,.int .i64 x.net,.int .i64 x.slow]/\True:=by
 obtain⟨hl,n,hf⟩:=h.st (k:=4) underlying46 kz
 match cs,hl,hf with
 | [v0,v1,v2,v3],_,hf=>
  obtain⟨x0,⟨⟩,p0⟩:=(hf 0 9 0 1 [v0] rfl kz rfl).str underlying9;obtain⟨x1,⟨⟩,p1⟩:=(hf 1 9 1 1 [v1] rfl kz rfl).str underlying9;obtain⟨x2,⟨⟩,p2⟩:=(hf 2 3 2 1 [v2] rfl kz rfl).int underlying3;obtain⟨x3,⟨⟩,p3⟩:=(hf 3 3 3 1 [v3] rfl kz rfl).int underlying3;exact⟨⟨x0,x1,x2,x3⟩,rfl,trivial⟩
theorem aLW{f:Nat}{cs:List Bn}(h:Tr enc pG W f 44 cs):∃x:fU,cs= [.string x.nm,.string x.src.m,.string x.src.p,.string x.src.o,.int .i64 x.lQ,.int .i64 x.mx,x.dst.val]/\x.rd W W.heap.size:=by
 obtain⟨hl,n,hf⟩:=h.st (k:=7) underlying44 kz
 match cs,hl,hf with
 | [v0,v1,v2,v3,v4,v5,v6],_,hf=>
  obtain⟨x0,⟨⟩,p0⟩:=(hf 0 9 0 1 [v0] rfl kz rfl).str underlying9;obtain⟨x1,⟨⟩,_⟩:=Q5 (hf 1 41 1 3 [v1,v2,v3] rfl kz rfl);obtain⟨x2,⟨⟩,p2⟩:=(hf 2 3 4 1 [v4] rfl kz rfl).int underlying3;obtain⟨x3,⟨⟩,p3⟩:=(hf 3 3 5 1 [v5] rfl kz rfl).int underlying3;obtain⟨A4,c4,l4,⟨⟩,a4,b4,n4,r4,p4⟩:=JA (hf 4 42 6 1 [v6] rfl kz rfl);exact⟨⟨x0,x1,x2,x3,⟨A4,c4,l4⟩⟩,rfl,⟨a4,b4,r4⟩⟩
theorem U6{f:Nat}{cs:List Bn}(h:Tr enc pG W f 89 cs):∃x:iK,cs= [.string x.m,.string x.p,.int .u8 x.yV,.int .u8 x.lv,.int .u8 x.dd]/\x.rd W W.heap.size:=by
 obtain⟨hl,n,hf⟩:=h.st (k:=5) underlying89 kz
 match cs,hl,hf with
 | [v0,v1,v2,v3,v4],_,hf=>
  obtain⟨x0,⟨⟩,p0⟩:=(hf 0 9 0 1 [v0] rfl kz rfl).str underlying9;obtain⟨x1,⟨⟩,p1⟩:=(hf 1 9 1 1 [v1] rfl kz rfl).str underlying9;obtain⟨x2,⟨⟩,p2⟩:=(hf 2 5 2 1 [v2] rfl kz rfl).int underlying5;obtain⟨x3,⟨⟩,p3⟩:=(hf 3 5 3 1 [v3] rfl kz rfl).int underlying5;obtain⟨x4,⟨⟩,p4⟩:=(hf 4 5 4 1 [v4] rfl kz rfl).int underlying5;exact⟨⟨x0,x1,x2,x3,x4⟩,rfl,⟨Io p2,Io p3,Io p4⟩⟩
theorem Ra{f:Nat}{cs:List Bn}(h:Tr enc pG W f 91 cs):∃x:lF,cs= [.string x.a,.int .i64 x.va,.string x.b,.int .i64 x.vb]/\True:=by
 obtain⟨hl,n,hf⟩:=h.st (k:=4) underlying91 kz
 match cs,hl,hf with
 | [v0,v1,v2,v3],_,hf=>
  obtain⟨x0,⟨⟩,p0⟩:=(hf 0 9 0 1 [v0] rfl kz rfl).str underlying9;obtain⟨x1,⟨⟩,p1⟩:=(hf 1 3 1 1 [v1] rfl kz rfl).int underlying3;obtain⟨x2,⟨⟩,p2⟩:=(hf 2 9 2 1 [v2] rfl kz rfl).str underlying9;obtain⟨x3,⟨⟩,p3⟩:=(hf 3 3 3 1 [v3] rfl kz rfl).int underlying3;exact⟨⟨x0,x1,x2,x3⟩,rfl,trivial⟩
theorem Lc{f:Nat}{cs:List Bn}(h:Tr enc pG W f 22 cs):∃(A:Option EK) (c:Nat) (l:List bT),cs= [.slice A l.length c]/\l.length<=c/\c<=EW/\l.length<=8796093021952/\dK W W.heap.size A l/\True:=by
 obtain⟨A,c,l,h1,h2,h3,h4,hR,hc⟩:=h.sl (λx:bT=> [.string x.nm,.int .i64 x.mem,.int .i64 x.fr,x.parts.val]) (λx=>x.rd W W.heap.size) (e:=67) 4 dz underlying22 kz (by decide+kernel) (λf cs h=>U4 h);refine⟨A,c,l,h1,h2,h3,h4,λhn=> ?_,trivial⟩;obtain⟨b,o,e,hb,hc⟩:=hc hn;exact⟨b,o,e,hb,λi hi=>⟨by simpa using hc i hi 0 _ rfl,hc i hi 1 _ rfl,hc i hi 2 _ rfl,hc i hi 3 _ rfl,hR _ (CS hi)⟩⟩
theorem GA{f:Nat}{cs:List Bn}(h:Tr enc pG W f 23 cs):∃(A:Option EK) (c:Nat) (l:List gq),cs= [.slice A l.length c]/\l.length<=c/\c<=EW/\l.length<=8796093021952/\dY W W.heap.size A l/\True:=by
 obtain⟨A,c,l,h1,h2,h3,h4,hR,hc⟩:=h.sl (λx:gq=> [.string x.src.m,.string x.src.p,.string x.src.o,x.dst.val]) (λx=>x.rd W W.heap.size) (e:=78) 4 dz underlying23 kz (by decide+kernel) (λf cs h=>Q9 h);refine⟨A,c,l,h1,h2,h3,h4,λhn=> ?_,trivial⟩;obtain⟨b,o,e,hb,hc⟩:=hc hn;exact⟨b,o,e,hb,λi hi=>⟨by simpa using hc i hi 0 _ rfl,hc i hi 1 _ rfl,hc i hi 2 _ rfl,hc i hi 3 _ rfl,hR _ (CS hi)⟩⟩
theorem Ld{f:Nat}{cs:List Bn}(h:Tr enc pG W f 24 cs):∃(A:Option EK) (c:Nat) (l:List iI),cs= [.slice A l.length c]/\l.length<=c/\c<=EW/\l.length<=8796093021952/\dL W W.heap.size A l/\True:=by
 obtain⟨A,c,l,h1,h2,h3,h4,hR,hc⟩:=h.sl (λx:iI=> [.string x.nm,.int .i64 x.net,.int .i64 x.dl,.int .i64 x.st]) (λ_=>True) (e:=87) 4 dz underlying24 kz (by decide+kernel) (λf cs h=>U5 h);refine⟨A,c,l,h1,h2,h3,h4,λhn=> ?_,trivial⟩;obtain⟨b,o,e,hb,hc⟩:=hc hn;exact⟨b,o,e,hb,λi hi=>⟨by simpa using hc i hi 0 _ rfl,hc i hi 1 _ rfl,hc i hi 2 _ rfl,hc i hi 3 _ rfl⟩⟩
theorem Rb{f:Nat}{cs:List Bn}(h:Tr enc pG W f 25 cs):∃(A:Option EK) (c:Nat) (l:List aO),cs= [.slice A l.length c]/\l.length<=c/\c<=EW/\l.length<=8796093021952/\fZ W W.heap.size A l/\True:=by
 obtain⟨A,c,l,h1,h2,h3,h4,hR,hc⟩:=h.sl (λx:aO=> [.string x.a,.string x.b,.int .i64 x.net,.int .i64 x.slow]) (λ_=>True) (e:=46) 4 dz underlying25 kz (by decide+kernel) (λf cs h=>aCo h);refine⟨A,c,l,h1,h2,h3,h4,λhn=> ?_,trivial⟩;obtain⟨b,o,e,hb,hc⟩:=hc hn;exact⟨b,o,e,hb,λi hi=>⟨by simpa using hc i hi 0 _ rfl,hc i hi 1 _ rfl,hc i hi 2 _ rfl,hc i hi 3 _ rfl⟩⟩
theorem YV{f:Nat}{cs:List Bn}(h:Tr enc pG W f 26 cs):∃(A:Option EK) (c:Nat) (l:List fU),cs= [.slice A l.length c]/\l.length<=c/\c<=EW/\l.length<=8796093021952/\mV W W.heap.size A l/\True:=by
 obtain⟨A,c,l,h1,h2,h3,h4,hR,hc⟩:=h.sl (λx:fU=> [.string x.nm,.string x.src.m,.string x.src.p,.string x.src.o,.int .i64 x.lQ,.int .i64 x.mx,x.dst.val]) (λx=>x.rd W W.heap.size) (e:=44) 7 dz underlying26 kz (by decide+kernel) (λf cs h=>aLW h);refine⟨A,c,l,h1,h2,h3,h4,λhn=> ?_,trivial⟩;obtain⟨b,o,e,hb,hc⟩:=hc hn;exact⟨b,o,e,hb,λi hi=>⟨by simpa using hc i hi 0 _ rfl,hc i hi 1 _ rfl,hc i hi 2 _ rfl,hc i hi 3 _ rfl,hc i hi 4 _ rfl,hc i hi 5 _ rfl,hc i hi 6 _ rfl,hR _ (CS hi)⟩⟩
theorem Le{f:Nat}{cs:List Bn}(h:Tr enc pG W f 27 cs):∃(A:Option EK) (c:Nat) (l:List iK),cs= [.slice A l.length c]/\l.length<=c/\c<=EW/\l.length<=8796093021952/\fA W W.heap.size A l/\True:=by
 obtain⟨A,c,l,h1,h2,h3,h4,hR,hc⟩:=h.sl (λx:iK=> [.string x.m,.string x.p,.int .u8 x.yV,.int .u8 x.lv,.int .u8 x.dd]) (λx=>x.rd W W.heap.size) (e:=89) 5 dz underlying27 kz (by decide+kernel) (λf cs h=>U6 h);refine⟨A,c,l,h1,h2,h3,h4,λhn=> ?_,trivial⟩;obtain⟨b,o,e,hb,hc⟩:=hc hn;exact⟨b,o,e,hb,λi hi=>⟨by simpa using hc i hi 0 _ rfl,hc i hi 1 _ rfl,hc i hi 2 _ rfl,hc i hi 3 _ rfl,hc i hi 4 _ rfl,hR _ (CS hi)⟩⟩
theorem Ot{f:Nat}{cs:List Bn}(h:Tr enc pG W f 28 cs):∃(A:Option EK) (c:Nat) (l:List fC),cs= [.slice A l.length c]/\l.length<=c/\c<=EW/\l.length<=8796093021952/\kr W W.heap.size A l/\(∀x∈l,OkC x.c/\x.x.n<=8796093021952):=by
 obtain⟨A,c,l,h1,h2,h3,h4,hR,hc⟩:=h.sl (λx:fC=> [.string x.c.unit,x.n.val,x.x.val]) (λx=>OkC x.c/\x.x.n<=8796093021952/\x.rd W W.heap.size) (e:=83) 3 dz underlying28 kz (by decide+kernel) (λf cs h=>YU h);refine⟨A,c,l,h1,h2,h3,h4,λhn=> ?_,λx hx=>⟨(hR x hx).1,(hR x hx).2.1⟩⟩;obtain⟨b,o,e,hb,hc⟩:=hc hn;exact⟨b,o,e,hb,λi hi=>⟨by simpa using hc i hi 0 _ rfl,hc i hi 1 _ rfl,hc i hi 2 _ rfl,(hR _ (CS hi)).2.2⟩⟩
theorem GD{f:Nat}{cs:List Bn}(h:Tr enc pG W f 29 cs):∃(A:Option EK) (c:Nat) (l:List lF),cs= [.slice A l.length c]/\l.length<=c/\c<=EW/\l.length<=8796093021952/\dS W W.heap.size A l/\True:=by
 obtain⟨A,c,l,h1,h2,h3,h4,hR,hc⟩:=h.sl (λx:lF=> [.string x.a,.int .i64 x.va,.string x.b,.int .i64 x.vb]) (λ_=>True) (e:=91) 4 dz underlying29 kz (by decide+kernel) (λf cs h=>Ra h);refine⟨A,c,l,h1,h2,h3,h4,λhn=> ?_,trivial⟩;obtain⟨b,o,e,hb,hc⟩:=hc hn;exact⟨b,o,e,hb,λi hi=>⟨by simpa using hc i hi 0 _ rfl,hc i hi 1 _ rfl,hc i hi 2 _ rfl,hc i hi 3 _ rfl⟩⟩
theorem U7{f:Nat}{cs:List Bn}(h:Tr enc pG W f 31 cs):∃x:ay,cs= [x.mods.val,x.aj.val,x.aP.val,x.links.val,x.aF.val,x.bQ.val,x.causes.val,x.aA.val]/\x.rd W W.heap.size/\∀c∈x.causes.l,OkC c.c/\c.x.n<=8796093021952:=by
 obtain⟨hl,n,hf⟩:=h.st (k:=8) underlying31 kz
 match cs,hl,hf with
 | [v0,v1,v2,v3,v4,v5,v6,v7],_,hf=>
  obtain⟨A0,c0,l0,⟨⟩,a0,b0,n0,r0,p0⟩:=Lc (hf 0 22 0 1 [v0] rfl kz rfl);obtain⟨A1,c1,l1,⟨⟩,a1,b1,n1,r1,p1⟩:=GA (hf 1 23 1 1 [v1] rfl kz rfl);obtain⟨A2,c2,l2,⟨⟩,a2,b2,n2,r2,p2⟩:=Ld (hf 2 24 2 1 [v2] rfl kz rfl);obtain⟨A3,c3,l3,⟨⟩,a3,b3,n3,r3,p3⟩:=Rb (hf 3 25 3 1 [v3] rfl kz rfl);obtain⟨A4,c4,l4,⟨⟩,a4,b4,n4,r4,p4⟩:=YV (hf 4 26 4 1 [v4] rfl kz rfl);obtain⟨A5,c5,l5,⟨⟩,a5,b5,n5,r5,p5⟩:=Le (hf 5 27 5 1 [v5] rfl kz rfl);obtain⟨A6,c6,l6,⟨⟩,a6,b6,n6,r6,p6⟩:=Ot (hf 6 28 6 1 [v6] rfl kz rfl);obtain⟨A7,c7,l7,⟨⟩,a7,b7,n7,r7,p7⟩:=GD (hf 7 29 7 1 [v7] rfl kz rfl);exact⟨⟨⟨A0,c0,l0⟩,⟨A1,c1,l1⟩,⟨A2,c2,l2⟩,⟨A3,c3,l3⟩,⟨A4,c4,l4⟩,⟨A5,c5,l5⟩,⟨A6,c6,l6⟩,⟨A7,c7,l7⟩⟩,rfl,⟨a0,b0,r0,a1,b1,r1,a2,b2,r2,a3,b3,r3,a4,b4,r4,a5,b5,r5,a6,b6,r6,a7,b7,r7⟩,p6⟩
theorem JN{r:Reach}{b0:Nat}{v:Bn}{d:DataW H}{p:List MemPlace}(hw:Value.okWide pG W r b0 31 v)(h:DataW.Trod enc pG W 0 (λ_=>true) true 31 v d p)(hz:∀n∈d.weights pG 31,n<=reachBytes):
 ∃x:ay,v=x.val/\x.rd W W.heap.size/\∀c∈x.causes.l,OkC c.c/\c.x.n<=8796093021952:=by
 obtain⟨cs,rfl,hsz⟩:=okWide_struct underlying31 hw;obtain⟨n,h⟩:=h;obtain⟨x,e,hr,hc⟩:=U7 (⟨_,h,hz⟩:Tr enc pG W n 31 _);refine⟨x,?_,hr,hc⟩;obtain⟨l⟩:=cs;have e2:l=_:=e;subst e2;rfl
end
end
section
open Go.ChangeShapes Go.WideShapes Go.ChangeAt Go.RowKit
attribute [local go_sem] Oper.semAt_some

theorem rM{P:Program}{w:Al}{n:String}{d:DataW Unit}:∀{laid:List (String×DataW Unit)} {ps:List MemPlace},DataW.LaidVars P w laid ps->(n,d)∈laid->
 ∃g t cs fuel p,P.globalNamed n=Ai g/\(P.globals[g]?).map (·.type)=Ai t/\w.var? P n=Ai cs/\DataW.trod (λ_=>()) P w 0 (λ_=>true) false fuel t cs.toList=Ai (d,p)
 | [],ps,_,hm=>by simp at hm
 | (n',d') :: r,ps,h,hm=>by
  obtain⟨g,t,cs,fuel,p,q,h1,h2,h3,h4,h5,_⟩:=h;rcases List.mem_cons.1 hm with e | hm
  .injection e with e1 e2
   subst e1 e2;exact⟨g,t,cs,fuel,p,h1,h2,h3,h4⟩
  .exact rM h5 hm
theorem BG{P:Program}{W:Al}{name:String}{k:IntKind}{zs:List Int}{laid:List (String×DataW Unit)}{g:Nat}{t e:E3}{n:Nat}
 (hg:P.globalNamed name=Ai g) (ny:(P.globals[g]?).map (·.type)=Ai t) (ht:P.underlying t=Ai (.array n e)) (he:P.underlying e=Ai (.int k)) (hce:P.cellsOf e=1) (hct:P.cellsOf t=n)
 (h:laidMet P laid W) (hm:(name,Lib.tabData k zs)∈laid):Lib.TabIs P W name k zs:=by
 obtain⟨ps,hv,_⟩:=h;obtain⟨g',t',cs,fuel,p,Nv,Sg,aGW,hd⟩:=rM hv hm;obtain rfl:=ES.inj (hg.symm.trans Nv);obtain rfl:=ES.inj (ny.symm.trans Sg);unfold Lib.TabIs;rw[aGW,<-Lib.cells_of_tab ht he hce hct hd]
theorem YW{P:Program}{w:Al}{base:Nat}{sp:Nat->Bool}{fuel:Nat}{t:E3}{ms:Array (String×E3)}{cs:List Bn}{nm:String}{d:DataW Unit}{p:List MemPlace}(ht:P.underlying t=Ai (.interface ms))
 (h:DataW.trod (λ_=>()) P w base sp false fuel t cs=Ai (.iface nm d,p)):∃u v,cs= [.iface u v]:=by
 cases fuel with
 | zero=>simp[DataW.trod]at h
 | succ n=>
  unfold DataW.trod at h;rw[ht]at h;split at h<;>simp_all
theorem BH{P:Program}{W:Al}{name nm:String}{d:DataW Unit}{laid:List (String×DataW Unit)}{g:Nat}{t:E3}{ms:Array (String×E3)}
 (hg:P.globalNamed name=Ai g) (ny:(P.globals[g]?).map (·.type)=Ai t) (ht:P.underlying t=Ai (.interface ms))
 (h:laidMet P laid W) (hm:(name,DataW.iface nm d)∈laid):∃tp p,W.var? P name=Ai #[.iface tp p]:=by
 obtain⟨ps,hv,_⟩:=h;obtain⟨g',t',cs,fuel,p,Nv,Sg,aGW,hd⟩:=rM hv hm;obtain rfl:=ES.inj (hg.symm.trans Nv);obtain rfl:=ES.inj (ny.symm.trans Sg);obtain⟨u,v,e⟩:=YW ht hd;exact⟨u,v,by rw[aGW];exact congrArg Ai (Array.toList_inj.1 e)⟩
theorem aCp{P:Program}{n:String}{t:E3}(h:((P.globalNamed n).bind λg=>(P.globals[g]?).map (·.type))=Ai t):∃g,P.globalNamed n=Ai g/\(P.globals[g]?).map (·.type)=Ai t:=Hg.1 h
theorem Dh{W:Al}(h:laidMet pG Rows.routeShortRow.laid W)(hs:W.ShapedOpen pG):ct W:=by
 obtain⟨g1,a1,b1⟩:=aCp (P:=pG) (n:= "strconv.ErrSyntax") (t:=302) kz;obtain⟨g2,a2,b2⟩:=aCp (P:=pG) (n:= "strconv.ErrRange") (t:=302) kz;obtain⟨g3,a3,b3⟩:=aCp (P:=pG) (n:= "internal/strconv.uint64pow10") (t:=375) kz;obtain⟨g4,a4,b4⟩:=aCp (P:=pG) (n:= "strings.asciiSpace") (t:=338) kz;have m1:("strconv.ErrSyntax",(Rows.laid_strconv_ErrSyntax:DataW Unit))∈Rows.routeShortRow.laid:=by unfold Rows.routeShortRow;exact .tail _ (.tail _ (.tail _ (.tail _ (.head _))))
 have m2:("strconv.ErrRange",(Rows.laid_strconv_ErrRange:DataW Unit))∈Rows.routeShortRow.laid:=by unfold Rows.routeShortRow;exact .tail _ (.tail _ (.tail _ (.head _)))
 have m3:("internal/strconv.uint64pow10",Lib.tabData .u64 Lib.pow10Tab)∈Rows.routeShortRow.laid:=by
  rw[show(Lib.tabData .u64 Lib.pow10Tab:DataW Unit)=Rows.laid_internal_strconv_uint64pow10 by kernel_rfl];unfold Rows.routeShortRow;exact .tail _ (.tail _ (.head _))
 have m4:("strings.asciiSpace",Lib.tabData .u8 Lib.asciiSpaceTab)∈Rows.routeShortRow.laid:=by
  rw[show(Lib.tabData .u8 Lib.asciiSpaceTab:DataW Unit)=Rows.laid_strings_asciiSpace by kernel_rfl];unfold Rows.routeShortRow;exact .tail _ (.tail _ (.tail _ (.tail _ (.tail _ (.tail _ (.head _))))))
 refine⟨BH a1 b1 underlying302 h (nm:= "*errors.errorString") m1,BH a2 b2 underlying302 h (nm:= "*errors.errorString") m2,BG a3 b3 underlying375 underlying233 kz kz h m3,BG a4 b4 underlying338 underlying5 kz kz h m4,?_⟩;exact cell_of_shapedOpen_int hs (of_decide_eq_true kz) (zero:= #[.int .i64 0]) (t:=3) kz rfl kz kz underlying3
