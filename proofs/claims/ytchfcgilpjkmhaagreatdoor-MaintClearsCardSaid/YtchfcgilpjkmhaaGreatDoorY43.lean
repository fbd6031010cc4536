import Derived.Lib.SmallJoins
import Derived.Deep.Fields
import Derived.Test.YtchfcgilpjkmhaaGreatDoorY16
import Derived.Test.YtchfcgilpjkmhaaGreatDoorY0
set_option maxRecDepth 100000
set_option linter.unusedSimpArgs false
set_option linter.unusedVariables false
set_option linter.unusedSectionVars false
namespace Go.Proofs.YtchfcgilpjkmhaaGreatDoor
open Go.ChangeShapes Go.WideShapes Go.ChangeAt Go.RowKit Go.Deep
section
variable {H:Type} {enc:TypeId×Value→H} {P:Program} {W:World}
structure Tr(enc:TypeId×Value→H)(P:Program)(W:World)(f:Nat)(t:TypeId)(cs:List Value):Prop where
 h:∃y,DataW.trod enc P W 0 (fun _=>true) true f t cs=some y∧∀m∈y.1.weights P t,m≤reachBytes
theorem Tr.struct{t:TypeId}{fs:Array Field}{f:Nat}{cs:List Value}(ht:P.underlying t=some (.struct fs))(h:Tr enc P W f t cs):
 cs.length=P.cellsOf t∧∃n,∀(i:Nat) (g:Field),fs[i]?=some g→Tr enc P W n g.type ((cs.drop g.offset).take (P.cellsOf g.type)):=by
 obtain⟨y,h,hz⟩:=h;obtain⟨xs,n,_,hx,hl,hlen,hf⟩:=DataW.trod_struct ht h;refine⟨hl,n,fun i g hg=> ?_⟩;have hi:i<fs.size:=(Array.getElem?_eq_some_iff.1 hg).1;have hgi:=hf i g hg;rw[List.getElem?_eq_getElem (by omega)]at hgi;refine⟨_,hgi,fun m hm=>hz m ?_⟩;rw[hx];simp only[DataW.weights,ht];exact DataW.weights_mem_each (j:=i) (t:=g.type) (d:=xs[i].1) (by simp[hg]) (by simp[List.getElem?_eq_getElem (show i<xs.length by omega)]) m hm
theorem Tr.str{t:TypeId}{f:Nat}{cs:List Value}(ht:P.underlying t=some .string)(h:Tr enc P W f t cs):∃s:ByteArray,cs= [.string s]∧s.size≤maxLen:=by
 obtain⟨y,h,_⟩:=h;obtain⟨s,e,_,hs⟩:=DataW.trod_string ht h;exact⟨s,e,hs⟩
theorem Tr.int{t:TypeId}{k:IntKind}{f:Nat}{cs:List Value}(ht:P.underlying t=some (.int k))(h:Tr enc P W f t cs):∃n:Int,cs= [.int k n]∧(Lit.int k n).wf=true:=by
 obtain⟨y,h,_⟩:=h;obtain⟨s,e,_,hs⟩:=DataW.trod_int ht h;exact⟨s,e,hs⟩
theorem Tr.bool{t:TypeId}{f:Nat}{cs:List Value}(ht:P.underlying t=some .bool)(h:Tr enc P W f t cs):∃b:Bool,cs= [.bool b]:=by
 obtain⟨y,h,_⟩:=h;obtain⟨s,e,_⟩:=DataW.trod_bool ht h;exact⟨s,e⟩
theorem u8_wf{n:Int}(h:(Lit.int .u8 n).wf=true):0≤n∧n≤255:=by
 have:=h;simp[Lit.wf,IntKind.min,IntKind.max,IntKind.bits,IntKind.signed]at this;omega
theorem Tr.slice{α:Type}(E:α→List Value)(R:α→Prop){t e:TypeId}(C:Nat)(hC0:0<C)(ht:P.underlying t=some (.slice e))(hC:P.cellsOf e=C)
 (hel:∀f cs,Tr enc P W f e cs→∃x:α,cs=E x∧R x) {f:Nat} {cs:List Value} (h:Tr enc P W f t cs):
 ∃(A:Option Addr) (c:Nat) (l:List α),cs= [.slice A l.length c]∧l.length≤c∧c≤maxLen∧l.length*P.bytesOf e≤reachBytes∧(∀x∈l,R x)∧
  (0<l.length→∃b o,A=some ⟨b,o,none⟩∧b<W.heap.size∧∀i (hi:i<l.length) j u,(E l[i])[j]?=some u→W.cell? ⟨b,o+i*C+j,none⟩=some u):=by
 obtain⟨y,h,hz⟩:=h;rcases DataW.trod_slice ht h with⟨hcs,_⟩ | ⟨a,len,cap,elems,rest,n,hn,hcs,hx,_,hl,hm,hlen,hi,_,_⟩
 ·subst hcs
  exact⟨none,0,[],rfl,Nat.le_refl _,by simp[maxLen],by simp,by simp,fun h=>absurd h (by simp)⟩
 ·subst hcs
  have hall:∀i,i<len→∃x:α,R x∧∃cs',W.cells? 0 (a.add (i*P.cellsOf e)) (P.cellsOf e)=some cs'∧cs'=E x:=by
   intro i hil;have key:=hi i hil;rw[List.getElem?_eq_getElem (by omega)]at key;obtain⟨cs',hc,ht'⟩:=Option.bind_eq_some_iff.1 key;obtain⟨x,hE,hR⟩:=hel n cs' ⟨_,ht',fun m hm=>hz m (by
    rw[hx];simp only[DataW.weights,ht];exact List.mem_cons_of_mem _ (List.mem_append_left _ (weightsAll_mem (List.mem_map.2 ⟨elems[i],List.getElem_mem _,rfl⟩) hm)))⟩
   exact⟨x,hR,cs',hc,hE⟩
  obtain⟨l,hll,hlp⟩:=list_of len _ hall;subst hll;refine⟨some a,cap,l,rfl,hl,hm,?_,fun x hx=> ?_,fun hn=> ?_⟩
  ·have:=hz ((elems.length+rest.length)*P.bytesOf e) (by
    rw[hx];simp only[DataW.weights,ht,List.length_map];exact List.mem_cons_self)
   have h2:l.length*P.bytesOf e≤(elems.length+rest.length)*P.bytesOf e:=Nat.mul_le_mul_right _ (by omega);omega
  ·obtain⟨i,hi2,rfl⟩:=List.getElem_of_mem hx
   exact(hlp i hi2).1
  ·have hat:∀i (hi:i<l.length) j u,(E l[i])[j]?=some u→W.cell? ((a.add (i*C)).add j)=some u:=by
    intro i hil j u hu;obtain⟨_,cs',hc,rfl⟩:=hlp i hil;obtain⟨_,hcl,hca⟩:=World.cells?_some hc;have hj:j<P.cellsOf e:=by rw[←hcl];exact(List.getElem?_eq_some_iff.1 hu).1
    rw[←hC,hca j hj,hu]
   obtain⟨_,cs',hc,e0⟩:=hlp 0 hn;obtain⟨_,hcl,hca⟩:=World.cells?_some hc;have h0:=hca 0 (by omega);rw[List.getElem?_eq_getElem (by omega)]at h0;have ha0:(a.add (0*P.cellsOf e)).add 0=a:=by simp[Addr.add]
   rw[ha0]at h0;have ea:=addr_of_cell h0;refine⟨a.block,a.off,by rw[←ea],World.block_lt_of_cell? W _ h0,fun i hil j u hu=> ?_⟩;have:=hat i hil j u hu;rw[ea,add_none,add_none]at this;exact this
end
section
variable {H:Type} {enc:TypeId×Value→H} {W:World}
theorem op_I{f:Nat}{cs:List Value}(h:Tr enc Tryz.prog W f 3 cs):∃x:Int,cs= [.int .i64 x]∧(Lit.int .i64 x).wf=true:=h.int Tryz.underlying3
theorem op_S{f:Nat}{cs:List Value}(h:Tr enc Tryz.prog W f 9 cs):∃x:ByteArray,cs= [.string x]∧x.size≤maxLen:=h.str Tryz.underlying9
theorem op_sl_I{f:Nat}{cs:List Value}(h:Tr enc Tryz.prog W f 71 cs):∃(A:Option Addr) (c:Nat) (l:List Int),cs= [.slice A l.length c]∧l.length≤c∧c≤maxLen∧l.length≤17592186044416∧RdInt W W.heap.size A l∧(∀x∈l,(Lit.int .i64 x).wf=true):=by
 obtain⟨A,c,l,h1,h2,h3,h4,hR,hc⟩:=h.slice (fun x=> [.int .i64 x]) (fun x=>(Lit.int .i64 x).wf=true) (e:=3) 1 (by decide) Tryz.underlying71 kz (fun f cs h=>op_I h);have hb:16≤Tryz.prog.bytesOf 3∨Tryz.prog.bytesOf 3=8:=by decide+kernel
 have hlen:l.length≤17592186044416:=by
  rcases hb with hb | hb
  ·have h5:l.length*16≤l.length*Tryz.prog.bytesOf 3:=Nat.mul_le_mul_left _ hb
   unfold reachBytes at h4;omega
  ·rw[hb]at h4
   unfold reachBytes at h4;omega
 refine⟨A,c,l,h1,h2,h3,?_,fun hn=> ?_,hR⟩
 ·omega
 ·obtain⟨b,o,e,hb,hc⟩:=hc hn
  exact⟨b,o,e,hb,fun i hi=>by simpa using hc i hi 0 _ rfl⟩
theorem op_sl_S{f:Nat}{cs:List Value}(h:Tr enc Tryz.prog W f 46 cs):∃(A:Option Addr) (c:Nat) (l:List ByteArray),cs= [.slice A l.length c]∧l.length≤c∧c≤maxLen∧l.length≤8796093021952∧RdStr W W.heap.size A l∧(∀x∈l,x.size≤maxLen):=by
 obtain⟨A,c,l,h1,h2,h3,h4,hR,hc⟩:=h.slice (fun x=> [.string x]) (fun x=>x.size≤maxLen) (e:=9) 1 (by decide) Tryz.underlying46 kz (fun f cs h=>op_S h);have hb:16≤Tryz.prog.bytesOf 9∨Tryz.prog.bytesOf 9=8:=by decide+kernel
 have hlen:l.length≤17592186044416:=by
  rcases hb with hb | hb
  ·have h5:l.length*16≤l.length*Tryz.prog.bytesOf 9:=Nat.mul_le_mul_left _ hb
   unfold reachBytes at h4;omega
  ·rw[hb]at h4
   unfold reachBytes at h4;omega
 refine⟨A,c,l,h1,h2,h3,?_,fun hn=> ?_,hR⟩
 ·have h5:l.length*16≤l.length*Tryz.prog.bytesOf 9:=Nat.mul_le_mul_left _ (by decide+kernel)
  unfold reachBytes at h4;omega
 ·obtain⟨b,o,e,hb,hc⟩:=hc hn
  exact⟨b,o,e,hb,fun i hi=>by simpa using hc i hi 0 _ rfl⟩
theorem op_Report{f:Nat}{cs:List Value}(h:Tr enc Tryz.prog W f 41 cs):∃x:Rep,cs= [.string x.unit,.int .i64 x.code]∧x.ok:=by
 obtain⟨f0,f1,hs,t0,o0,t1,o1⟩:∃f0 f1:Field,Tryz.prog.underlying 41=some (.struct #[f0,f1])∧f0.type=9∧f0.offset=0∧f1.type=3∧f1.offset=1:=⟨_,_,Tryz.underlying41,rfl,rfl,rfl,rfl⟩;obtain⟨hl,n,hf⟩:=h.struct hs;rw[show Tryz.prog.cellsOf 41=2 by kernel_rfl]at hl;obtain⟨v0,v1,rfl⟩:∃v0 v1:Value,cs= [v0,v1]:=by
  match cs,hl with
  | [v0,v1],_=>exact⟨_,_,rfl⟩
 have g0:=hf 0 f0 rfl;rw[t0,o0,show Tryz.prog.cellsOf 9=1 by kernel_rfl]at g0
 replace g0:Tr enc Tryz.prog W n 9 [v0]:=g0
 obtain⟨x0,e0,p0⟩:=g0.str Tryz.underlying9;injection e0 with e0 _
 subst e0;have g1:=hf 1 f1 rfl;rw[t1,o1,show Tryz.prog.cellsOf 3=1 by kernel_rfl]at g1
 replace g1:Tr enc Tryz.prog W n 3 [v1]:=g1
 obtain⟨x1,e1,p1⟩:=g1.int Tryz.underlying3;injection e1 with e1 _
 subst e1;exact⟨⟨x0,x1⟩,rfl,⟨p0,p1⟩⟩
theorem op_sl_Report{f:Nat}{cs:List Value}(h:Tr enc Tryz.prog W f 45 cs):∃(A:Option Addr) (c:Nat) (l:List Rep),cs= [.slice A l.length c]∧l.length≤c∧c≤maxLen∧l.length≤8796093021952∧RdRep W W.heap.size A l∧(∀x∈l,x.ok):=by
 obtain⟨A,c,l,h1,h2,h3,h4,hR,hc⟩:=h.slice (fun x:Rep=> [.string x.unit,.int .i64 x.code]) (fun x=>x.ok) (e:=41) 2 (by decide) Tryz.underlying45 kz (fun f cs h=>op_Report h);have hb:16≤Tryz.prog.bytesOf 41∨Tryz.prog.bytesOf 41=8:=by decide+kernel
 have hlen:l.length≤17592186044416:=by
  rcases hb with hb | hb
  ·have h5:l.length*16≤l.length*Tryz.prog.bytesOf 41:=Nat.mul_le_mul_left _ hb
   unfold reachBytes at h4;omega
  ·rw[hb]at h4
   unfold reachBytes at h4;omega
 refine⟨A,c,l,h1,h2,h3,?_,fun hn=> ?_,hR⟩
 ·have h5:l.length*16≤l.length*Tryz.prog.bytesOf 41:=Nat.mul_le_mul_left _ (by decide+kernel)
  unfold reachBytes at h4;omega
 ·obtain⟨b,o,e,hb,hc⟩:=hc hn
  exact⟨b,o,e,hb,fun i hi=>⟨by simpa using hc i hi 0 _ rfl,hc i hi 1 _ rfl⟩⟩
theorem op_Cause{f:Nat}{cs:List Value}(h:Tr enc Tryz.prog W f 48 cs):∃x:CsV,cs= [.string x.c.unit,x.n.val,x.x.val]∧OkC x.c∧x.x.n≤8796093021952∧x.rd W W.heap.size:=by
 obtain⟨f0,f1,f2,hs,t0,o0,t1,o1,t2,o2⟩:∃f0 f1 f2:Field,Tryz.prog.underlying 48=some (.struct #[f0,f1,f2])∧f0.type=9∧f0.offset=0∧f1.type=45∧f1.offset=1∧f2.type=46∧f2.offset=2:=⟨_,_,_,Tryz.underlying48,rfl,rfl,rfl,rfl,rfl,rfl⟩;obtain⟨hl,n,hf⟩:=h.struct hs;rw[show Tryz.prog.cellsOf 48=3 by kernel_rfl]at hl;obtain⟨v0,v1,v2,rfl⟩:∃v0 v1 v2:Value,cs= [v0,v1,v2]:=by
  match cs,hl with
  | [v0,v1,v2],_=>exact⟨_,_,_,rfl⟩
 have g0:=hf 0 f0 rfl;rw[t0,o0,show Tryz.prog.cellsOf 9=1 by kernel_rfl]at g0
 replace g0:Tr enc Tryz.prog W n 9 [v0]:=g0
 obtain⟨x0,e0,p0⟩:=g0.str Tryz.underlying9;injection e0 with e0 _
 subst e0;have g1:=hf 1 f1 rfl;rw[t1,o1,show Tryz.prog.cellsOf 45=1 by kernel_rfl]at g1
 replace g1:Tr enc Tryz.prog W n 45 [v1]:=g1
 obtain⟨A1,c1,l1,e1,a1,b1,n1,r1,p1⟩:=op_sl_Report g1;injection e1 with e1 _
 subst e1;have g2:=hf 2 f2 rfl;rw[t2,o2,show Tryz.prog.cellsOf 46=1 by kernel_rfl]at g2
 replace g2:Tr enc Tryz.prog W n 46 [v2]:=g2
 obtain⟨A2,c2,l2,e2,a2,b2,n2,r2,p2⟩:=op_sl_S g2;injection e2 with e2 _
 subst e2;exact⟨⟨⟨x0,l1,l2⟩,⟨A1,l1.length,c1⟩,⟨A2,l2.length,c2⟩⟩,rfl,⟨p0,p1,p2⟩,n2,⟨rfl,a1,b1,r1,rfl,a2,b2,r2⟩⟩
theorem op_Ins{f:Nat}{cs:List Value}(h:Tr enc Tryz.prog W f 167 cs):∃x:InsV,cs= [.int .u8 x.op,.int .i64 x.a,.int .i64 x.b,.int .i64 x.d]∧x.rd W W.heap.size:=by
 obtain⟨f0,f1,f2,f3,hs,t0,o0,t1,o1,t2,o2,t3,o3⟩:∃f0 f1 f2 f3:Field,Tryz.prog.underlying 167=some (.struct #[f0,f1,f2,f3])∧f0.type=5∧f0.offset=0∧f1.type=3∧f1.offset=1∧f2.type=3∧f2.offset=2∧f3.type=3∧f3.offset=3:=⟨_,_,_,_,Tryz.underlying167,rfl,rfl,rfl,rfl,rfl,rfl,rfl,rfl⟩;obtain⟨hl,n,hf⟩:=h.struct hs;rw[show Tryz.prog.cellsOf 167=4 by kernel_rfl]at hl;obtain⟨v0,v1,v2,v3,rfl⟩:∃v0 v1 v2 v3:Value,cs= [v0,v1,v2,v3]:=by
  match cs,hl with
  | [v0,v1,v2,v3],_=>exact⟨_,_,_,_,rfl⟩
 have g0:=hf 0 f0 rfl;rw[t0,o0,show Tryz.prog.cellsOf 5=1 by kernel_rfl]at g0
 replace g0:Tr enc Tryz.prog W n 5 [v0]:=g0
 obtain⟨x0,e0,p0⟩:=g0.int Tryz.underlying5;injection e0 with e0 _
 subst e0;have g1:=hf 1 f1 rfl;rw[t1,o1,show Tryz.prog.cellsOf 3=1 by kernel_rfl]at g1
 replace g1:Tr enc Tryz.prog W n 3 [v1]:=g1
 obtain⟨x1,e1,p1⟩:=g1.int Tryz.underlying3;injection e1 with e1 _
 subst e1;have g2:=hf 2 f2 rfl;rw[t2,o2,show Tryz.prog.cellsOf 3=1 by kernel_rfl]at g2
 replace g2:Tr enc Tryz.prog W n 3 [v2]:=g2
 obtain⟨x2,e2,p2⟩:=g2.int Tryz.underlying3;injection e2 with e2 _
 subst e2;have g3:=hf 3 f3 rfl;rw[t3,o3,show Tryz.prog.cellsOf 3=1 by kernel_rfl]at g3
 replace g3:Tr enc Tryz.prog W n 3 [v3]:=g3
 obtain⟨x3,e3,p3⟩:=g3.int Tryz.underlying3;injection e3 with e3 _
 subst e3;exact⟨⟨x0,x1,x2,x3⟩,rfl,⟨u8_wf p0⟩⟩
theorem op_Ref{f:Nat}{cs:List Value}(h:Tr enc Tryz.prog W f 82 cs):∃x:RefV,cs= [.string x.m,.string x.p,.string x.o]∧True:=by
 obtain⟨f0,f1,f2,hs,t0,o0,t1,o1,t2,o2⟩:∃f0 f1 f2:Field,Tryz.prog.underlying 82=some (.struct #[f0,f1,f2])∧f0.type=9∧f0.offset=0∧f1.type=9∧f1.offset=1∧f2.type=9∧f2.offset=2:=⟨_,_,_,Tryz.underlying82,rfl,rfl,rfl,rfl,rfl,rfl⟩;obtain⟨hl,n,hf⟩:=h.struct hs;rw[show Tryz.prog.cellsOf 82=3 by kernel_rfl]at hl;obtain⟨v0,v1,v2,rfl⟩:∃v0 v1 v2:Value,cs= [v0,v1,v2]:=by
  match cs,hl with
  | [v0,v1,v2],_=>exact⟨_,_,_,rfl⟩
 have g0:=hf 0 f0 rfl;rw[t0,o0,show Tryz.prog.cellsOf 9=1 by kernel_rfl]at g0
 replace g0:Tr enc Tryz.prog W n 9 [v0]:=g0
 obtain⟨x0,e0,p0⟩:=g0.str Tryz.underlying9;injection e0 with e0 _
 subst e0;have g1:=hf 1 f1 rfl;rw[t1,o1,show Tryz.prog.cellsOf 9=1 by kernel_rfl]at g1
 replace g1:Tr enc Tryz.prog W n 9 [v1]:=g1
 obtain⟨x1,e1,p1⟩:=g1.str Tryz.underlying9;injection e1 with e1 _
 subst e1;have g2:=hf 2 f2 rfl;rw[t2,o2,show Tryz.prog.cellsOf 9=1 by kernel_rfl]at g2
 replace g2:Tr enc Tryz.prog W n 9 [v2]:=g2
 obtain⟨x2,e2,p2⟩:=g2.str Tryz.underlying9;injection e2 with e2 _
 subst e2;exact⟨⟨x0,x1,x2⟩,rfl,trivial⟩
theorem op_Port{f:Nat}{cs:List Value}(h:Tr enc Tryz.prog W f 77 cs):∃x:PortV,cs= [.string x.nm,.int .u8 x.kd,.bool x.out,.int .i64 x.sz,.int .i64 x.dp,.int .i64 x.rf]∧x.rd W W.heap.size:=by
 obtain⟨f0,f1,f2,f3,f4,f5,hs,t0,o0,t1,o1,t2,o2,t3,o3,t4,o4,t5,o5⟩:∃f0 f1 f2 f3 f4 f5:Field,Tryz.prog.underlying 77=some (.struct #[f0,f1,f2,f3,f4,f5])∧f0.type=9∧f0.offset=0∧f1.type=5∧f1.offset=1∧f2.type=4∧f2.offset=2∧f3.type=3∧f3.offset=3∧f4.type=3∧f4.offset=4∧f5.type=3∧f5.offset=5:=⟨_,_,_,_,_,_,Tryz.underlying77,rfl,rfl,rfl,rfl,rfl,rfl,rfl,rfl,rfl,rfl,rfl,rfl⟩;obtain⟨hl,n,hf⟩:=h.struct hs;rw[show Tryz.prog.cellsOf 77=6 by kernel_rfl]at hl;obtain⟨v0,v1,v2,v3,v4,v5,rfl⟩:∃v0 v1 v2 v3 v4 v5:Value,cs= [v0,v1,v2,v3,v4,v5]:=by
  match cs,hl with
  | [v0,v1,v2,v3,v4,v5],_=>exact⟨_,_,_,_,_,_,rfl⟩
 have g0:=hf 0 f0 rfl;rw[t0,o0,show Tryz.prog.cellsOf 9=1 by kernel_rfl]at g0
 replace g0:Tr enc Tryz.prog W n 9 [v0]:=g0
 obtain⟨x0,e0,p0⟩:=g0.str Tryz.underlying9;injection e0 with e0 _
 subst e0;have g1:=hf 1 f1 rfl;rw[t1,o1,show Tryz.prog.cellsOf 5=1 by kernel_rfl]at g1
 replace g1:Tr enc Tryz.prog W n 5 [v1]:=g1
 obtain⟨x1,e1,p1⟩:=g1.int Tryz.underlying5;injection e1 with e1 _
 subst e1;have g2:=hf 2 f2 rfl;rw[t2,o2,show Tryz.prog.cellsOf 4=1 by kernel_rfl]at g2
 replace g2:Tr enc Tryz.prog W n 4 [v2]:=g2
 obtain⟨x2,e2⟩:=g2.bool Tryz.underlying4;injection e2 with e2 _
 subst e2;have g3:=hf 3 f3 rfl;rw[t3,o3,show Tryz.prog.cellsOf 3=1 by kernel_rfl]at g3
 replace g3:Tr enc Tryz.prog W n 3 [v3]:=g3
 obtain⟨x3,e3,p3⟩:=g3.int Tryz.underlying3;injection e3 with e3 _
 subst e3;have g4:=hf 4 f4 rfl;rw[t4,o4,show Tryz.prog.cellsOf 3=1 by kernel_rfl]at g4
 replace g4:Tr enc Tryz.prog W n 3 [v4]:=g4
 obtain⟨x4,e4,p4⟩:=g4.int Tryz.underlying3;injection e4 with e4 _
 subst e4;have g5:=hf 5 f5 rfl;rw[t5,o5,show Tryz.prog.cellsOf 3=1 by kernel_rfl]at g5
 replace g5:Tr enc Tryz.prog W n 3 [v5]:=g5
 obtain⟨x5,e5,p5⟩:=g5.int Tryz.underlying3;injection e5 with e5 _
 subst e5;exact⟨⟨x0,x1,x2,x3,x4,x5⟩,rfl,⟨u8_wf p1⟩⟩
theorem op_sl_Ins{f:Nat}{cs:List Value}(h:Tr enc Tryz.prog W f 78 cs):∃(A:Option Addr) (c:Nat) (l:List InsV),cs= [.slice A l.length c]∧l.length≤c∧c≤maxLen∧l.length≤8796093021952∧RdIns W W.heap.size A l∧True:=by
 obtain⟨A,c,l,h1,h2,h3,h4,hR,hc⟩:=h.slice (fun x:InsV=> [.int .u8 x.op,.int .i64 x.a,.int .i64 x.b,.int .i64 x.d]) (fun x=>x.rd W W.heap.size) (e:=167) 4 (by decide) Tryz.underlying78 kz (fun f cs h=>op_Ins h);have hb:16≤Tryz.prog.bytesOf 167∨Tryz.prog.bytesOf 167=8:=by decide+kernel
 have hlen:l.length≤17592186044416:=by
  rcases hb with hb | hb
  ·have h5:l.length*16≤l.length*Tryz.prog.bytesOf 167:=Nat.mul_le_mul_left _ hb
   unfold reachBytes at h4;omega
  ·rw[hb]at h4
   unfold reachBytes at h4;omega
 refine⟨A,c,l,h1,h2,h3,?_,fun hn=> ?_,trivial⟩
 ·have h5:l.length*16≤l.length*Tryz.prog.bytesOf 167:=Nat.mul_le_mul_left _ (by decide+kernel)
  unfold reachBytes at h4;omega
 ·obtain⟨b,o,e,hb,hc⟩:=hc hn
  exact⟨b,o,e,hb,fun i hi=>⟨by simpa using hc i hi 0 _ rfl,hc i hi 1 _ rfl,hc i hi 2 _ rfl,hc i hi 3 _ rfl,hR _ (List.getElem_mem hi)⟩⟩
theorem op_Proc{f:Nat}{cs:List Value}(h:Tr enc Tryz.prog W f 80 cs):∃x:ProcV,cs= [.string x.nm,.int .i64 x.pr,.int .i64 x.pe,.int .i64 x.li,x.code.val]∧x.rd W W.heap.size:=by
 obtain⟨f0,f1,f2,f3,f4,hs,t0,o0,t1,o1,t2,o2,t3,o3,t4,o4⟩:∃f0 f1 f2 f3 f4:Field,Tryz.prog.underlying 80=some (.struct #[f0,f1,f2,f3,f4])∧f0.type=9∧f0.offset=0∧f1.type=3∧f1.offset=1∧f2.type=3∧f2.offset=2∧f3.type=3∧f3.offset=3∧f4.type=78∧f4.offset=4:=⟨_,_,_,_,_,Tryz.underlying80,rfl,rfl,rfl,rfl,rfl,rfl,rfl,rfl,rfl,rfl⟩;obtain⟨hl,n,hf⟩:=h.struct hs;rw[show Tryz.prog.cellsOf 80=5 by kernel_rfl]at hl;obtain⟨v0,v1,v2,v3,v4,rfl⟩:∃v0 v1 v2 v3 v4:Value,cs= [v0,v1,v2,v3,v4]:=by
  match cs,hl with
  | [v0,v1,v2,v3,v4],_=>exact⟨_,_,_,_,_,rfl⟩
 have g0:=hf 0 f0 rfl;rw[t0,o0,show Tryz.prog.cellsOf 9=1 by kernel_rfl]at g0
 replace g0:Tr enc Tryz.prog W n 9 [v0]:=g0
 obtain⟨x0,e0,p0⟩:=g0.str Tryz.underlying9;injection e0 with e0 _
 subst e0;have g1:=hf 1 f1 rfl;rw[t1,o1,show Tryz.prog.cellsOf 3=1 by kernel_rfl]at g1
 replace g1:Tr enc Tryz.prog W n 3 [v1]:=g1
 obtain⟨x1,e1,p1⟩:=g1.int Tryz.underlying3;injection e1 with e1 _
 subst e1;have g2:=hf 2 f2 rfl;rw[t2,o2,show Tryz.prog.cellsOf 3=1 by kernel_rfl]at g2
 replace g2:Tr enc Tryz.prog W n 3 [v2]:=g2
 obtain⟨x2,e2,p2⟩:=g2.int Tryz.underlying3;injection e2 with e2 _
 subst e2;have g3:=hf 3 f3 rfl;rw[t3,o3,show Tryz.prog.cellsOf 3=1 by kernel_rfl]at g3
 replace g3:Tr enc Tryz.prog W n 3 [v3]:=g3
 obtain⟨x3,e3,p3⟩:=g3.int Tryz.underlying3;injection e3 with e3 _
 subst e3;have g4:=hf 4 f4 rfl;rw[t4,o4,show Tryz.prog.cellsOf 78=1 by kernel_rfl]at g4
 replace g4:Tr enc Tryz.prog W n 78 [v4]:=g4
 obtain⟨A4,c4,l4,e4,a4,b4,n4,r4,p4⟩:=op_sl_Ins g4;injection e4 with e4 _
 subst e4;exact⟨⟨x0,x1,x2,x3,⟨A4,c4,l4⟩⟩,rfl,⟨a4,b4,r4⟩⟩
theorem op_sl_Port{f:Nat}{cs:List Value}(h:Tr enc Tryz.prog W f 72 cs):∃(A:Option Addr) (c:Nat) (l:List PortV),cs= [.slice A l.length c]∧l.length≤c∧c≤maxLen∧l.length≤8796093021952∧RdPort W W.heap.size A l∧True:=by
 obtain⟨A,c,l,h1,h2,h3,h4,hR,hc⟩:=h.slice (fun x:PortV=> [.string x.nm,.int .u8 x.kd,.bool x.out,.int .i64 x.sz,.int .i64 x.dp,.int .i64 x.rf]) (fun x=>x.rd W W.heap.size) (e:=77) 6 (by decide) Tryz.underlying72 kz (fun f cs h=>op_Port h);have hb:16≤Tryz.prog.bytesOf 77∨Tryz.prog.bytesOf 77=8:=by decide+kernel
 have hlen:l.length≤17592186044416:=by
  rcases hb with hb | hb
  ·have h5:l.length*16≤l.length*Tryz.prog.bytesOf 77:=Nat.mul_le_mul_left _ hb
   unfold reachBytes at h4;omega
  ·rw[hb]at h4
   unfold reachBytes at h4;omega
 refine⟨A,c,l,h1,h2,h3,?_,fun hn=> ?_,trivial⟩
 ·have h5:l.length*16≤l.length*Tryz.prog.bytesOf 77:=Nat.mul_le_mul_left _ (by decide+kernel)
  unfold reachBytes at h4;omega
 ·obtain⟨b,o,e,hb,hc⟩:=hc hn
  exact⟨b,o,e,hb,fun i hi=>⟨by simpa using hc i hi 0 _ rfl,hc i hi 1 _ rfl,hc i hi 2 _ rfl,hc i hi 3 _ rfl,hc i hi 4 _ rfl,hc i hi 5 _ rfl,hR _ (List.getElem_mem hi)⟩⟩
theorem op_sl_Proc{f:Nat}{cs:List Value}(h:Tr enc Tryz.prog W f 73 cs):∃(A:Option Addr) (c:Nat) (l:List ProcV),cs= [.slice A l.length c]∧l.length≤c∧c≤maxLen∧l.length≤8796093021952∧RdProc W W.heap.size A l∧True:=by
 obtain⟨A,c,l,h1,h2,h3,h4,hR,hc⟩:=h.slice (fun x:ProcV=> [.string x.nm,.int .i64 x.pr,.int .i64 x.pe,.int .i64 x.li,x.code.val]) (fun x=>x.rd W W.heap.size) (e:=80) 5 (by decide) Tryz.underlying73 kz (fun f cs h=>op_Proc h);have hb:16≤Tryz.prog.bytesOf 80∨Tryz.prog.bytesOf 80=8:=by decide+kernel
 have hlen:l.length≤17592186044416:=by
  rcases hb with hb | hb
  ·have h5:l.length*16≤l.length*Tryz.prog.bytesOf 80:=Nat.mul_le_mul_left _ hb
   unfold reachBytes at h4;omega
  ·rw[hb]at h4
   unfold reachBytes at h4;omega
 refine⟨A,c,l,h1,h2,h3,?_,fun hn=> ?_,trivial⟩
 ·have h5:l.length*16≤l.length*Tryz.prog.bytesOf 80:=Nat.mul_le_mul_left _ (by decide+kernel)
  unfold reachBytes at h4;omega
 ·obtain⟨b,o,e,hb,hc⟩:=hc hn
  exact⟨b,o,e,hb,fun i hi=>⟨by simpa using hc i hi 0 _ rfl,hc i hi 1 _ rfl,hc i hi 2 _ rfl,hc i hi 3 _ rfl,hc i hi 4 _ rfl,hR _ (List.getElem_mem hi)⟩⟩
theorem op_Part{f:Nat}{cs:List Value}(h:Tr enc Tryz.prog W f 75 cs):∃x:PartV,cs= [.string x.nm,.int .i64 x.pe,.int .i64 x.le,.int .i64 x.mem,x.semas.val,.int .i64 x.ev,.int .i64 x.bo,x.bufs.val,x.ports.val,x.procs.val]∧x.rd W W.heap.size:=by
 obtain⟨f0,f1,f2,f3,f4,f5,f6,f7,f8,f9,hs,t0,o0,t1,o1,t2,o2,t3,o3,t4,o4,t5,o5,t6,o6,t7,o7,t8,o8,t9,o9⟩:∃f0 f1 f2 f3 f4 f5 f6 f7 f8 f9:Field,Tryz.prog.underlying 75=some (.struct #[f0,f1,f2,f3,f4,f5,f6,f7,f8,f9])∧f0.type=9∧f0.offset=0∧f1.type=3∧f1.offset=1∧f2.type=3∧f2.offset=2∧f3.type=3∧f3.offset=3∧f4.type=71∧f4.offset=4∧f5.type=3∧f5.offset=5∧f6.type=3∧f6.offset=6∧f7.type=71∧f7.offset=7∧f8.type=72∧f8.offset=8∧f9.type=73∧f9.offset=9:=⟨_,_,_,_,_,_,_,_,_,_,Tryz.underlying75,rfl,rfl,rfl,rfl,rfl,rfl,rfl,rfl,rfl,rfl,rfl,rfl,rfl,rfl,rfl,rfl,rfl,rfl,rfl,rfl⟩;obtain⟨hl,n,hf⟩:=h.struct hs;rw[show Tryz.prog.cellsOf 75=10 by kernel_rfl]at hl;obtain⟨v0,v1,v2,v3,v4,v5,v6,v7,v8,v9,rfl⟩:∃v0 v1 v2 v3 v4 v5 v6 v7 v8 v9:Value,cs= [v0,v1,v2,v3,v4,v5,v6,v7,v8,v9]:=by
  match cs,hl with
  | [v0,v1,v2,v3,v4,v5,v6,v7,v8,v9],_=>exact⟨_,_,_,_,_,_,_,_,_,_,rfl⟩
 have g0:=hf 0 f0 rfl;rw[t0,o0,show Tryz.prog.cellsOf 9=1 by kernel_rfl]at g0
 replace g0:Tr enc Tryz.prog W n 9 [v0]:=g0
 obtain⟨x0,e0,p0⟩:=g0.str Tryz.underlying9;injection e0 with e0 _
 subst e0;have g1:=hf 1 f1 rfl;rw[t1,o1,show Tryz.prog.cellsOf 3=1 by kernel_rfl]at g1
 replace g1:Tr enc Tryz.prog W n 3 [v1]:=g1
 obtain⟨x1,e1,p1⟩:=g1.int Tryz.underlying3;injection e1 with e1 _
 subst e1;have g2:=hf 2 f2 rfl;rw[t2,o2,show Tryz.prog.cellsOf 3=1 by kernel_rfl]at g2
 replace g2:Tr enc Tryz.prog W n 3 [v2]:=g2
 obtain⟨x2,e2,p2⟩:=g2.int Tryz.underlying3;injection e2 with e2 _
 subst e2;have g3:=hf 3 f3 rfl;rw[t3,o3,show Tryz.prog.cellsOf 3=1 by kernel_rfl]at g3
 replace g3:Tr enc Tryz.prog W n 3 [v3]:=g3
 obtain⟨x3,e3,p3⟩:=g3.int Tryz.underlying3;injection e3 with e3 _
 subst e3;have g4:=hf 4 f4 rfl;rw[t4,o4,show Tryz.prog.cellsOf 71=1 by kernel_rfl]at g4
 replace g4:Tr enc Tryz.prog W n 71 [v4]:=g4
 obtain⟨A4,c4,l4,e4,a4,b4,n4,r4,p4⟩:=op_sl_I g4;injection e4 with e4 _
 subst e4;have g5:=hf 5 f5 rfl;rw[t5,o5,show Tryz.prog.cellsOf 3=1 by kernel_rfl]at g5
 replace g5:Tr enc Tryz.prog W n 3 [v5]:=g5
 obtain⟨x5,e5,p5⟩:=g5.int Tryz.underlying3;injection e5 with e5 _
 subst e5;have g6:=hf 6 f6 rfl;rw[t6,o6,show Tryz.prog.cellsOf 3=1 by kernel_rfl]at g6
 replace g6:Tr enc Tryz.prog W n 3 [v6]:=g6
 obtain⟨x6,e6,p6⟩:=g6.int Tryz.underlying3;injection e6 with e6 _
 subst e6;have g7:=hf 7 f7 rfl;rw[t7,o7,show Tryz.prog.cellsOf 71=1 by kernel_rfl]at g7
 replace g7:Tr enc Tryz.prog W n 71 [v7]:=g7
 obtain⟨A7,c7,l7,e7,a7,b7,n7,r7,p7⟩:=op_sl_I g7;injection e7 with e7 _
 subst e7;have g8:=hf 8 f8 rfl;rw[t8,o8,show Tryz.prog.cellsOf 72=1 by kernel_rfl]at g8
 replace g8:Tr enc Tryz.prog W n 72 [v8]:=g8
 obtain⟨A8,c8,l8,e8,a8,b8,n8,r8,p8⟩:=op_sl_Port g8;injection e8 with e8 _
 subst e8;have g9:=hf 9 f9 rfl;rw[t9,o9,show Tryz.prog.cellsOf 73=1 by kernel_rfl]at g9
 replace g9:Tr enc Tryz.prog W n 73 [v9]:=g9
 obtain⟨A9,c9,l9,e9,a9,b9,n9,r9,p9⟩:=op_sl_Proc g9;injection e9 with e9 _
 subst e9;exact⟨⟨x0,x1,x2,x3,⟨A4,c4,l4⟩,x5,x6,⟨A7,c7,l7⟩,⟨A8,c8,l8⟩,⟨A9,c9,l9⟩⟩,rfl,⟨a4,b4,r4,a7,b7,r7,a8,b8,r8,a9,b9,r9⟩⟩
theorem op_sl_Part{f:Nat}{cs:List Value}(h:Tr enc Tryz.prog W f 68 cs):∃(A:Option Addr) (c:Nat) (l:List PartV),cs= [.slice A l.length c]∧l.length≤c∧c≤maxLen∧l.length≤8796093021952∧RdPart W W.heap.size A l∧True:=by
 obtain⟨A,c,l,h1,h2,h3,h4,hR,hc⟩:=h.slice (fun x:PartV=> [.string x.nm,.int .i64 x.pe,.int .i64 x.le,.int .i64 x.mem,x.semas.val,.int .i64 x.ev,.int .i64 x.bo,x.bufs.val,x.ports.val,x.procs.val]) (fun x=>x.rd W W.heap.size) (e:=75) 10 (by decide) Tryz.underlying68 kz (fun f cs h=>op_Part h);have hb:16≤Tryz.prog.bytesOf 75∨Tryz.prog.bytesOf 75=8:=by decide+kernel
 have hlen:l.length≤17592186044416:=by
  rcases hb with hb | hb
  ·have h5:l.length*16≤l.length*Tryz.prog.bytesOf 75:=Nat.mul_le_mul_left _ hb
   unfold reachBytes at h4;omega
  ·rw[hb]at h4
   unfold reachBytes at h4;omega
 refine⟨A,c,l,h1,h2,h3,?_,fun hn=> ?_,trivial⟩
 ·have h5:l.length*16≤l.length*Tryz.prog.bytesOf 75:=Nat.mul_le_mul_left _ (by decide+kernel)
  unfold reachBytes at h4;omega
 ·obtain⟨b,o,e,hb,hc⟩:=hc hn
  exact⟨b,o,e,hb,fun i hi=>⟨by simpa using hc i hi 0 _ rfl,hc i hi 1 _ rfl,hc i hi 2 _ rfl,hc i hi 3 _ rfl,hc i hi 4 _ rfl,hc i hi 5 _ rfl,hc i hi 6 _ rfl,hc i hi 7 _ rfl,hc i hi 8 _ rfl,hc i hi 9 _ rfl,hR _ (List.getElem_mem hi)⟩⟩
theorem op_Module{f:Nat}{cs:List Value}(h:Tr enc Tryz.prog W f 70 cs):∃x:ModV,cs= [.string x.nm,.int .i64 x.mem,.int .i64 x.fr,x.parts.val]∧x.rd W W.heap.size:=by
 obtain⟨f0,f1,f2,f3,hs,t0,o0,t1,o1,t2,o2,t3,o3⟩:∃f0 f1 f2 f3:Field,Tryz.prog.underlying 70=some (.struct #[f0,f1,f2,f3])∧f0.type=9∧f0.offset=0∧f1.type=3∧f1.offset=1∧f2.type=3∧f2.offset=2∧f3.type=68∧f3.offset=3:=⟨_,_,_,_,Tryz.underlying70,rfl,rfl,rfl,rfl,rfl,rfl,rfl,rfl⟩;obtain⟨hl,n,hf⟩:=h.struct hs;rw[show Tryz.prog.cellsOf 70=4 by kernel_rfl]at hl;obtain⟨v0,v1,v2,v3,rfl⟩:∃v0 v1 v2 v3:Value,cs= [v0,v1,v2,v3]:=by
  match cs,hl with
  | [v0,v1,v2,v3],_=>exact⟨_,_,_,_,rfl⟩
 have g0:=hf 0 f0 rfl;rw[t0,o0,show Tryz.prog.cellsOf 9=1 by kernel_rfl]at g0
 replace g0:Tr enc Tryz.prog W n 9 [v0]:=g0
 obtain⟨x0,e0,p0⟩:=g0.str Tryz.underlying9;injection e0 with e0 _
 subst e0;have g1:=hf 1 f1 rfl;rw[t1,o1,show Tryz.prog.cellsOf 3=1 by kernel_rfl]at g1
 replace g1:Tr enc Tryz.prog W n 3 [v1]:=g1
 obtain⟨x1,e1,p1⟩:=g1.int Tryz.underlying3;injection e1 with e1 _
 subst e1;have g2:=hf 2 f2 rfl;rw[t2,o2,show Tryz.prog.cellsOf 3=1 by kernel_rfl]at g2
 replace g2:Tr enc Tryz.prog W n 3 [v2]:=g2
 obtain⟨x2,e2,p2⟩:=g2.int Tryz.underlying3;injection e2 with e2 _
 subst e2;have g3:=hf 3 f3 rfl;rw[t3,o3,show Tryz.prog.cellsOf 68=1 by kernel_rfl]at g3
 replace g3:Tr enc Tryz.prog W n 68 [v3]:=g3
 obtain⟨A3,c3,l3,e3,a3,b3,n3,r3,p3⟩:=op_sl_Part g3;injection e3 with e3 _
 subst e3;exact⟨⟨x0,x1,x2,⟨A3,c3,l3⟩⟩,rfl,⟨a3,b3,r3⟩⟩
theorem op_sl_Ref{f:Nat}{cs:List Value}(h:Tr enc Tryz.prog W f 83 cs):∃(A:Option Addr) (c:Nat) (l:List RefV),cs= [.slice A l.length c]∧l.length≤c∧c≤maxLen∧l.length≤8796093021952∧RdRef W W.heap.size A l∧True:=by
 obtain⟨A,c,l,h1,h2,h3,h4,hR,hc⟩:=h.slice (fun x:RefV=> [.string x.m,.string x.p,.string x.o]) (fun _=>True) (e:=82) 3 (by decide) Tryz.underlying83 kz (fun f cs h=>op_Ref h);have hb:16≤Tryz.prog.bytesOf 82∨Tryz.prog.bytesOf 82=8:=by decide+kernel
 have hlen:l.length≤17592186044416:=by
  rcases hb with hb | hb
  ·have h5:l.length*16≤l.length*Tryz.prog.bytesOf 82:=Nat.mul_le_mul_left _ hb
   unfold reachBytes at h4;omega
  ·rw[hb]at h4
   unfold reachBytes at h4;omega
 refine⟨A,c,l,h1,h2,h3,?_,fun hn=> ?_,trivial⟩
 ·have h5:l.length*16≤l.length*Tryz.prog.bytesOf 82:=Nat.mul_le_mul_left _ (by decide+kernel)
  unfold reachBytes at h4;omega
 ·obtain⟨b,o,e,hb,hc⟩:=hc hn
  exact⟨b,o,e,hb,fun i hi=>⟨by simpa using hc i hi 0 _ rfl,hc i hi 1 _ rfl,hc i hi 2 _ rfl⟩⟩
theorem op_Channel{f:Nat}{cs:List Value}(h:Tr enc Tryz.prog W f 85 cs):∃x:ChanV,cs= [.string x.src.m,.string x.src.p,.string x.src.o,x.dst.val]∧x.rd W W.heap.size:=by
 obtain⟨f0,f1,hs,t0,o0,t1,o1⟩:∃f0 f1:Field,Tryz.prog.underlying 85=some (.struct #[f0,f1])∧f0.type=82∧f0.offset=0∧f1.type=83∧f1.offset=3:=⟨_,_,Tryz.underlying85,rfl,rfl,rfl,rfl⟩;obtain⟨hl,n,hf⟩:=h.struct hs;rw[show Tryz.prog.cellsOf 85=4 by kernel_rfl]at hl;obtain⟨v0,v1,v2,v3,rfl⟩:∃v0 v1 v2 v3:Value,cs= [v0,v1,v2,v3]:=by
  match cs,hl with
  | [v0,v1,v2,v3],_=>exact⟨_,_,_,_,rfl⟩
 have g0:=hf 0 f0 rfl;rw[t0,o0,show Tryz.prog.cellsOf 82=3 by kernel_rfl]at g0
 replace g0:Tr enc Tryz.prog W n 82 [v0,v1,v2]:=g0
 obtain⟨x0,e0,_⟩:=op_Ref g0;simp only[List.cons.injEq,and_true]at e0;obtain⟨rfl,rfl,rfl⟩:=e0;have g1:=hf 1 f1 rfl;rw[t1,o1,show Tryz.prog.cellsOf 83=1 by kernel_rfl]at g1
 replace g1:Tr enc Tryz.prog W n 83 [v3]:=g1
 obtain⟨A1,c1,l1,e1,a1,b1,n1,r1,p1⟩:=op_sl_Ref g1;injection e1 with e1 _
 subst e1;exact⟨⟨x0,⟨A1,c1,l1⟩⟩,rfl,⟨a1,b1,r1⟩⟩
theorem op_Switch{f:Nat}{cs:List Value}(h:Tr enc Tryz.prog W f 90 cs):∃x:SwV,cs= [.string x.nm,.int .i64 x.net,.int .i64 x.dl,.int .i64 x.st]∧True:=by
 obtain⟨f0,f1,f2,f3,hs,t0,o0,t1,o1,t2,o2,t3,o3⟩:∃f0 f1 f2 f3:Field,Tryz.prog.underlying 90=some (.struct #[f0,f1,f2,f3])∧f0.type=9∧f0.offset=0∧f1.type=3∧f1.offset=1∧f2.type=3∧f2.offset=2∧f3.type=3∧f3.offset=3:=⟨_,_,_,_,Tryz.underlying90,rfl,rfl,rfl,rfl,rfl,rfl,rfl,rfl⟩;obtain⟨hl,n,hf⟩:=h.struct hs;rw[show Tryz.prog.cellsOf 90=4 by kernel_rfl]at hl;obtain⟨v0,v1,v2,v3,rfl⟩:∃v0 v1 v2 v3:Value,cs= [v0,v1,v2,v3]:=by
  match cs,hl with
  | [v0,v1,v2,v3],_=>exact⟨_,_,_,_,rfl⟩
 have g0:=hf 0 f0 rfl;rw[t0,o0,show Tryz.prog.cellsOf 9=1 by kernel_rfl]at g0
 replace g0:Tr enc Tryz.prog W n 9 [v0]:=g0
 obtain⟨x0,e0,p0⟩:=g0.str Tryz.underlying9;injection e0 with e0 _
 subst e0;have g1:=hf 1 f1 rfl;rw[t1,o1,show Tryz.prog.cellsOf 3=1 by kernel_rfl]at g1
 replace g1:Tr enc Tryz.prog W n 3 [v1]:=g1
 obtain⟨x1,e1,p1⟩:=g1.int Tryz.underlying3;injection e1 with e1 _
 subst e1;have g2:=hf 2 f2 rfl;rw[t2,o2,show Tryz.prog.cellsOf 3=1 by kernel_rfl]at g2
 replace g2:Tr enc Tryz.prog W n 3 [v2]:=g2
 obtain⟨x2,e2,p2⟩:=g2.int Tryz.underlying3;injection e2 with e2 _
 subst e2;have g3:=hf 3 f3 rfl;rw[t3,o3,show Tryz.prog.cellsOf 3=1 by kernel_rfl]at g3
 replace g3:Tr enc Tryz.prog W n 3 [v3]:=g3
 obtain⟨x3,e3,p3⟩:=g3.int Tryz.underlying3;injection e3 with e3 _
 subst e3;exact⟨⟨x0,x1,x2,x3⟩,rfl,trivial⟩
theorem op_Link{f:Nat}{cs:List Value}(h:Tr enc Tryz.prog W f 92 cs):∃x:LinkV,cs= [.string x.a,.string x.b,.int .i64 x.net,.int .i64 x.slow]∧True:=by
 obtain⟨f0,f1,f2,f3,hs,t0,o0,t1,o1,t2,o2,t3,o3⟩:∃f0 f1 f2 f3:Field,Tryz.prog.underlying 92=some (.struct #[f0,f1,f2,f3])∧f0.type=9∧f0.offset=0∧f1.type=9∧f1.offset=1∧f2.type=3∧f2.offset=2∧f3.type=3∧f3.offset=3:=⟨_,_,_,_,Tryz.underlying92,rfl,rfl,rfl,rfl,rfl,rfl,rfl,rfl⟩;obtain⟨hl,n,hf⟩:=h.struct hs;rw[show Tryz.prog.cellsOf 92=4 by kernel_rfl]at hl;obtain⟨v0,v1,v2,v3,rfl⟩:∃v0 v1 v2 v3:Value,cs= [v0,v1,v2,v3]:=by
  match cs,hl with
  | [v0,v1,v2,v3],_=>exact⟨_,_,_,_,rfl⟩
 have g0:=hf 0 f0 rfl;rw[t0,o0,show Tryz.prog.cellsOf 9=1 by kernel_rfl]at g0
 replace g0:Tr enc Tryz.prog W n 9 [v0]:=g0
 obtain⟨x0,e0,p0⟩:=g0.str Tryz.underlying9;injection e0 with e0 _
 subst e0;have g1:=hf 1 f1 rfl;rw[t1,o1,show Tryz.prog.cellsOf 9=1 by kernel_rfl]at g1
 replace g1:Tr enc Tryz.prog W n 9 [v1]:=g1
 obtain⟨x1,e1,p1⟩:=g1.str Tryz.underlying9;injection e1 with e1 _
 subst e1;have g2:=hf 2 f2 rfl;rw[t2,o2,show Tryz.prog.cellsOf 3=1 by kernel_rfl]at g2
 replace g2:Tr enc Tryz.prog W n 3 [v2]:=g2
 obtain⟨x2,e2,p2⟩:=g2.int Tryz.underlying3;injection e2 with e2 _
 subst e2;have g3:=hf 3 f3 rfl;rw[t3,o3,show Tryz.prog.cellsOf 3=1 by kernel_rfl]at g3
 replace g3:Tr enc Tryz.prog W n 3 [v3]:=g3
 obtain⟨x3,e3,p3⟩:=g3.int Tryz.underlying3;injection e3 with e3 _
 subst e3;exact⟨⟨x0,x1,x2,x3⟩,rfl,trivial⟩
theorem op_VL{f:Nat}{cs:List Value}(h:Tr enc Tryz.prog W f 88 cs):∃x:VlV,cs= [.string x.nm,.string x.src.m,.string x.src.p,.string x.src.o,.int .i64 x.bag,.int .i64 x.mx,x.dst.val]∧x.rd W W.heap.size:=by
 obtain⟨f0,f1,f2,f3,f4,hs,t0,o0,t1,o1,t2,o2,t3,o3,t4,o4⟩:∃f0 f1 f2 f3 f4:Field,Tryz.prog.underlying 88=some (.struct #[f0,f1,f2,f3,f4])∧f0.type=9∧f0.offset=0∧f1.type=82∧f1.offset=1∧f2.type=3∧f2.offset=4∧f3.type=3∧f3.offset=5∧f4.type=83∧f4.offset=6:=⟨_,_,_,_,_,Tryz.underlying88,rfl,rfl,rfl,rfl,rfl,rfl,rfl,rfl,rfl,rfl⟩;obtain⟨hl,n,hf⟩:=h.struct hs;rw[show Tryz.prog.cellsOf 88=7 by kernel_rfl]at hl;obtain⟨v0,v1,v2,v3,v4,v5,v6,rfl⟩:∃v0 v1 v2 v3 v4 v5 v6:Value,cs= [v0,v1,v2,v3,v4,v5,v6]:=by
  match cs,hl with
  | [v0,v1,v2,v3,v4,v5,v6],_=>exact⟨_,_,_,_,_,_,_,rfl⟩
 have g0:=hf 0 f0 rfl;rw[t0,o0,show Tryz.prog.cellsOf 9=1 by kernel_rfl]at g0
 replace g0:Tr enc Tryz.prog W n 9 [v0]:=g0
 obtain⟨x0,e0,p0⟩:=g0.str Tryz.underlying9;injection e0 with e0 _
 subst e0;have g1:=hf 1 f1 rfl;rw[t1,o1,show Tryz.prog.cellsOf 82=3 by kernel_rfl]at g1
 replace g1:Tr enc Tryz.prog W n 82 [v1,v2,v3]:=g1
 obtain⟨x1,e1,_⟩:=op_Ref g1;simp only[List.cons.injEq,and_true]at e1;obtain⟨rfl,rfl,rfl⟩:=e1;have g2:=hf 2 f2 rfl;rw[t2,o2,show Tryz.prog.cellsOf 3=1 by kernel_rfl]at g2
 replace g2:Tr enc Tryz.prog W n 3 [v4]:=g2
 obtain⟨x2,e2,p2⟩:=g2.int Tryz.underlying3;injection e2 with e2 _
 subst e2;have g3:=hf 3 f3 rfl;rw[t3,o3,show Tryz.prog.cellsOf 3=1 by kernel_rfl]at g3
 replace g3:Tr enc Tryz.prog W n 3 [v5]:=g3
 obtain⟨x3,e3,p3⟩:=g3.int Tryz.underlying3;injection e3 with e3 _
 subst e3;have g4:=hf 4 f4 rfl;rw[t4,o4,show Tryz.prog.cellsOf 83=1 by kernel_rfl]at g4
 replace g4:Tr enc Tryz.prog W n 83 [v6]:=g4
 obtain⟨A4,c4,l4,e4,a4,b4,n4,r4,p4⟩:=op_sl_Ref g4;injection e4 with e4 _
 subst e4;exact⟨⟨x0,x1,x2,x3,⟨A4,c4,l4⟩⟩,rfl,⟨a4,b4,r4⟩⟩
theorem op_Health{f:Nat}{cs:List Value}(h:Tr enc Tryz.prog W f 94 cs):∃x:HeaV,cs= [.string x.m,.string x.p,.int .u8 x.flt,.int .u8 x.lv,.int .u8 x.dd]∧x.rd W W.heap.size:=by
 obtain⟨f0,f1,f2,f3,f4,hs,t0,o0,t1,o1,t2,o2,t3,o3,t4,o4⟩:∃f0 f1 f2 f3 f4:Field,Tryz.prog.underlying 94=some (.struct #[f0,f1,f2,f3,f4])∧f0.type=9∧f0.offset=0∧f1.type=9∧f1.offset=1∧f2.type=5∧f2.offset=2∧f3.type=5∧f3.offset=3∧f4.type=5∧f4.offset=4:=⟨_,_,_,_,_,Tryz.underlying94,rfl,rfl,rfl,rfl,rfl,rfl,rfl,rfl,rfl,rfl⟩;obtain⟨hl,n,hf⟩:=h.struct hs;rw[show Tryz.prog.cellsOf 94=5 by kernel_rfl]at hl;obtain⟨v0,v1,v2,v3,v4,rfl⟩:∃v0 v1 v2 v3 v4:Value,cs= [v0,v1,v2,v3,v4]:=by
  match cs,hl with
  | [v0,v1,v2,v3,v4],_=>exact⟨_,_,_,_,_,rfl⟩
 have g0:=hf 0 f0 rfl;rw[t0,o0,show Tryz.prog.cellsOf 9=1 by kernel_rfl]at g0
 replace g0:Tr enc Tryz.prog W n 9 [v0]:=g0
 obtain⟨x0,e0,p0⟩:=g0.str Tryz.underlying9;injection e0 with e0 _
 subst e0;have g1:=hf 1 f1 rfl;rw[t1,o1,show Tryz.prog.cellsOf 9=1 by kernel_rfl]at g1
 replace g1:Tr enc Tryz.prog W n 9 [v1]:=g1
 obtain⟨x1,e1,p1⟩:=g1.str Tryz.underlying9;injection e1 with e1 _
 subst e1;have g2:=hf 2 f2 rfl;rw[t2,o2,show Tryz.prog.cellsOf 5=1 by kernel_rfl]at g2
 replace g2:Tr enc Tryz.prog W n 5 [v2]:=g2
 obtain⟨x2,e2,p2⟩:=g2.int Tryz.underlying5;injection e2 with e2 _
 subst e2;have g3:=hf 3 f3 rfl;rw[t3,o3,show Tryz.prog.cellsOf 5=1 by kernel_rfl]at g3
 replace g3:Tr enc Tryz.prog W n 5 [v3]:=g3
 obtain⟨x3,e3,p3⟩:=g3.int Tryz.underlying5;injection e3 with e3 _
 subst e3;have g4:=hf 4 f4 rfl;rw[t4,o4,show Tryz.prog.cellsOf 5=1 by kernel_rfl]at g4
 replace g4:Tr enc Tryz.prog W n 5 [v4]:=g4
 obtain⟨x4,e4,p4⟩:=g4.int Tryz.underlying5;injection e4 with e4 _
 subst e4;exact⟨⟨x0,x1,x2,x3,x4⟩,rfl,⟨u8_wf p2,u8_wf p3,u8_wf p4⟩⟩
theorem op_Version{f:Nat}{cs:List Value}(h:Tr enc Tryz.prog W f 96 cs):∃x:VsnV,cs= [.string x.a,.int .i64 x.va,.string x.b,.int .i64 x.vb]∧True:=by
 obtain⟨f0,f1,f2,f3,hs,t0,o0,t1,o1,t2,o2,t3,o3⟩:∃f0 f1 f2 f3:Field,Tryz.prog.underlying 96=some (.struct #[f0,f1,f2,f3])∧f0.type=9∧f0.offset=0∧f1.type=3∧f1.offset=1∧f2.type=9∧f2.offset=2∧f3.type=3∧f3.offset=3:=⟨_,_,_,_,Tryz.underlying96,rfl,rfl,rfl,rfl,rfl,rfl,rfl,rfl⟩;obtain⟨hl,n,hf⟩:=h.struct hs;rw[show Tryz.prog.cellsOf 96=4 by kernel_rfl]at hl;obtain⟨v0,v1,v2,v3,rfl⟩:∃v0 v1 v2 v3:Value,cs= [v0,v1,v2,v3]:=by
  match cs,hl with
  | [v0,v1,v2,v3],_=>exact⟨_,_,_,_,rfl⟩
 have g0:=hf 0 f0 rfl;rw[t0,o0,show Tryz.prog.cellsOf 9=1 by kernel_rfl]at g0
 replace g0:Tr enc Tryz.prog W n 9 [v0]:=g0
 obtain⟨x0,e0,p0⟩:=g0.str Tryz.underlying9;injection e0 with e0 _
 subst e0;have g1:=hf 1 f1 rfl;rw[t1,o1,show Tryz.prog.cellsOf 3=1 by kernel_rfl]at g1
 replace g1:Tr enc Tryz.prog W n 3 [v1]:=g1
 obtain⟨x1,e1,p1⟩:=g1.int Tryz.underlying3;injection e1 with e1 _
 subst e1;have g2:=hf 2 f2 rfl;rw[t2,o2,show Tryz.prog.cellsOf 9=1 by kernel_rfl]at g2
 replace g2:Tr enc Tryz.prog W n 9 [v2]:=g2
 obtain⟨x2,e2,p2⟩:=g2.str Tryz.underlying9;injection e2 with e2 _
 subst e2;have g3:=hf 3 f3 rfl;rw[t3,o3,show Tryz.prog.cellsOf 3=1 by kernel_rfl]at g3
 replace g3:Tr enc Tryz.prog W n 3 [v3]:=g3
 obtain⟨x3,e3,p3⟩:=g3.int Tryz.underlying3;injection e3 with e3 _
 subst e3;exact⟨⟨x0,x1,x2,x3⟩,rfl,trivial⟩
theorem op_sl_Module{f:Nat}{cs:List Value}(h:Tr enc Tryz.prog W f 22 cs):∃(A:Option Addr) (c:Nat) (l:List ModV),cs= [.slice A l.length c]∧l.length≤c∧c≤maxLen∧l.length≤8796093021952∧RdModule W W.heap.size A l∧True:=by
 obtain⟨A,c,l,h1,h2,h3,h4,hR,hc⟩:=h.slice (fun x:ModV=> [.string x.nm,.int .i64 x.mem,.int .i64 x.fr,x.parts.val]) (fun x=>x.rd W W.heap.size) (e:=70) 4 (by decide) Tryz.underlying22 kz (fun f cs h=>op_Module h);have hb:16≤Tryz.prog.bytesOf 70∨Tryz.prog.bytesOf 70=8:=by decide+kernel
 have hlen:l.length≤17592186044416:=by
  rcases hb with hb | hb
  ·have h5:l.length*16≤l.length*Tryz.prog.bytesOf 70:=Nat.mul_le_mul_left _ hb
   unfold reachBytes at h4;omega
  ·rw[hb]at h4
   unfold reachBytes at h4;omega
 refine⟨A,c,l,h1,h2,h3,?_,fun hn=> ?_,trivial⟩
 ·have h5:l.length*16≤l.length*Tryz.prog.bytesOf 70:=Nat.mul_le_mul_left _ (by decide+kernel)
  unfold reachBytes at h4;omega
 ·obtain⟨b,o,e,hb,hc⟩:=hc hn
  exact⟨b,o,e,hb,fun i hi=>⟨by simpa using hc i hi 0 _ rfl,hc i hi 1 _ rfl,hc i hi 2 _ rfl,hc i hi 3 _ rfl,hR _ (List.getElem_mem hi)⟩⟩
theorem op_sl_Channel{f:Nat}{cs:List Value}(h:Tr enc Tryz.prog W f 23 cs):∃(A:Option Addr) (c:Nat) (l:List ChanV),cs= [.slice A l.length c]∧l.length≤c∧c≤maxLen∧l.length≤8796093021952∧RdChannel W W.heap.size A l∧True:=by
 obtain⟨A,c,l,h1,h2,h3,h4,hR,hc⟩:=h.slice (fun x:ChanV=> [.string x.src.m,.string x.src.p,.string x.src.o,x.dst.val]) (fun x=>x.rd W W.heap.size) (e:=85) 4 (by decide) Tryz.underlying23 kz (fun f cs h=>op_Channel h);have hb:16≤Tryz.prog.bytesOf 85∨Tryz.prog.bytesOf 85=8:=by decide+kernel
 have hlen:l.length≤17592186044416:=by
  rcases hb with hb | hb
  ·have h5:l.length*16≤l.length*Tryz.prog.bytesOf 85:=Nat.mul_le_mul_left _ hb
   unfold reachBytes at h4;omega
  ·rw[hb]at h4
   unfold reachBytes at h4;omega
 refine⟨A,c,l,h1,h2,h3,?_,fun hn=> ?_,trivial⟩
 ·have h5:l.length*16≤l.length*Tryz.prog.bytesOf 85:=Nat.mul_le_mul_left _ (by decide+kernel)
  unfold reachBytes at h4;omega
 ·obtain⟨b,o,e,hb,hc⟩:=hc hn
  exact⟨b,o,e,hb,fun i hi=>⟨by simpa using hc i hi 0 _ rfl,hc i hi 1 _ rfl,hc i hi 2 _ rfl,hc i hi 3 _ rfl,hR _ (List.getElem_mem hi)⟩⟩
theorem op_sl_Switch{f:Nat}{cs:List Value}(h:Tr enc Tryz.prog W f 24 cs):∃(A:Option Addr) (c:Nat) (l:List SwV),cs= [.slice A l.length c]∧l.length≤c∧c≤maxLen∧l.length≤8796093021952∧RdSwitch W W.heap.size A l∧True:=by
 obtain⟨A,c,l,h1,h2,h3,h4,hR,hc⟩:=h.slice (fun x:SwV=> [.string x.nm,.int .i64 x.net,.int .i64 x.dl,.int .i64 x.st]) (fun _=>True) (e:=90) 4 (by decide) Tryz.underlying24 kz (fun f cs h=>op_Switch h);have hb:16≤Tryz.prog.bytesOf 90∨Tryz.prog.bytesOf 90=8:=by decide+kernel
 have hlen:l.length≤17592186044416:=by
  rcases hb with hb | hb
  ·have h5:l.length*16≤l.length*Tryz.prog.bytesOf 90:=Nat.mul_le_mul_left _ hb
   unfold reachBytes at h4;omega
  ·rw[hb]at h4
   unfold reachBytes at h4;omega
 refine⟨A,c,l,h1,h2,h3,?_,fun hn=> ?_,trivial⟩
 ·have h5:l.length*16≤l.length*Tryz.prog.bytesOf 90:=Nat.mul_le_mul_left _ (by decide+kernel)
  unfold reachBytes at h4;omega
 ·obtain⟨b,o,e,hb,hc⟩:=hc hn
  exact⟨b,o,e,hb,fun i hi=>⟨by simpa using hc i hi 0 _ rfl,hc i hi 1 _ rfl,hc i hi 2 _ rfl,hc i hi 3 _ rfl⟩⟩
theorem op_sl_Link{f:Nat}{cs:List Value}(h:Tr enc Tryz.prog W f 25 cs):∃(A:Option Addr) (c:Nat) (l:List LinkV),cs= [.slice A l.length c]∧l.length≤c∧c≤maxLen∧l.length≤8796093021952∧RdLink W W.heap.size A l∧True:=by
 obtain⟨A,c,l,h1,h2,h3,h4,hR,hc⟩:=h.slice (fun x:LinkV=> [.string x.a,.string x.b,.int .i64 x.net,.int .i64 x.slow]) (fun _=>True) (e:=92) 4 (by decide) Tryz.underlying25 kz (fun f cs h=>op_Link h);have hb:16≤Tryz.prog.bytesOf 92∨Tryz.prog.bytesOf 92=8:=by decide+kernel
 have hlen:l.length≤17592186044416:=by
  rcases hb with hb | hb
  ·have h5:l.length*16≤l.length*Tryz.prog.bytesOf 92:=Nat.mul_le_mul_left _ hb
   unfold reachBytes at h4;omega
  ·rw[hb]at h4
   unfold reachBytes at h4;omega
 refine⟨A,c,l,h1,h2,h3,?_,fun hn=> ?_,trivial⟩
 ·have h5:l.length*16≤l.length*Tryz.prog.bytesOf 92:=Nat.mul_le_mul_left _ (by decide+kernel)
  unfold reachBytes at h4;omega
 ·obtain⟨b,o,e,hb,hc⟩:=hc hn
  exact⟨b,o,e,hb,fun i hi=>⟨by simpa using hc i hi 0 _ rfl,hc i hi 1 _ rfl,hc i hi 2 _ rfl,hc i hi 3 _ rfl⟩⟩
theorem op_sl_VL{f:Nat}{cs:List Value}(h:Tr enc Tryz.prog W f 26 cs):∃(A:Option Addr) (c:Nat) (l:List VlV),cs= [.slice A l.length c]∧l.length≤c∧c≤maxLen∧l.length≤8796093021952∧RdVL W W.heap.size A l∧True:=by
 obtain⟨A,c,l,h1,h2,h3,h4,hR,hc⟩:=h.slice (fun x:VlV=> [.string x.nm,.string x.src.m,.string x.src.p,.string x.src.o,.int .i64 x.bag,.int .i64 x.mx,x.dst.val]) (fun x=>x.rd W W.heap.size) (e:=88) 7 (by decide) Tryz.underlying26 kz (fun f cs h=>op_VL h);have hb:16≤Tryz.prog.bytesOf 88∨Tryz.prog.bytesOf 88=8:=by decide+kernel
 have hlen:l.length≤17592186044416:=by
  rcases hb with hb | hb
  ·have h5:l.length*16≤l.length*Tryz.prog.bytesOf 88:=Nat.mul_le_mul_left _ hb
   unfold reachBytes at h4;omega
  ·rw[hb]at h4
   unfold reachBytes at h4;omega
 refine⟨A,c,l,h1,h2,h3,?_,fun hn=> ?_,trivial⟩
 ·have h5:l.length*16≤l.length*Tryz.prog.bytesOf 88:=Nat.mul_le_mul_left _ (by decide+kernel)
  unfold reachBytes at h4;omega
 ·obtain⟨b,o,e,hb,hc⟩:=hc hn
  exact⟨b,o,e,hb,fun i hi=>⟨by simpa using hc i hi 0 _ rfl,hc i hi 1 _ rfl,hc i hi 2 _ rfl,hc i hi 3 _ rfl,hc i hi 4 _ rfl,hc i hi 5 _ rfl,hc i hi 6 _ rfl,hR _ (List.getElem_mem hi)⟩⟩
theorem op_sl_Health{f:Nat}{cs:List Value}(h:Tr enc Tryz.prog W f 27 cs):∃(A:Option Addr) (c:Nat) (l:List HeaV),cs= [.slice A l.length c]∧l.length≤c∧c≤maxLen∧l.length≤8796093021952∧RdHealth W W.heap.size A l∧True:=by
 obtain⟨A,c,l,h1,h2,h3,h4,hR,hc⟩:=h.slice (fun x:HeaV=> [.string x.m,.string x.p,.int .u8 x.flt,.int .u8 x.lv,.int .u8 x.dd]) (fun x=>x.rd W W.heap.size) (e:=94) 5 (by decide) Tryz.underlying27 kz (fun f cs h=>op_Health h);have hb:16≤Tryz.prog.bytesOf 94∨Tryz.prog.bytesOf 94=8:=by decide+kernel
 have hlen:l.length≤17592186044416:=by
  rcases hb with hb | hb
  ·have h5:l.length*16≤l.length*Tryz.prog.bytesOf 94:=Nat.mul_le_mul_left _ hb
   unfold reachBytes at h4;omega
  ·rw[hb]at h4
   unfold reachBytes at h4;omega
 refine⟨A,c,l,h1,h2,h3,?_,fun hn=> ?_,trivial⟩
 ·have h5:l.length*16≤l.length*Tryz.prog.bytesOf 94:=Nat.mul_le_mul_left _ (by decide+kernel)
  unfold reachBytes at h4;omega
 ·obtain⟨b,o,e,hb,hc⟩:=hc hn
  exact⟨b,o,e,hb,fun i hi=>⟨by simpa using hc i hi 0 _ rfl,hc i hi 1 _ rfl,hc i hi 2 _ rfl,hc i hi 3 _ rfl,hc i hi 4 _ rfl,hR _ (List.getElem_mem hi)⟩⟩
theorem op_sl_Cause{f:Nat}{cs:List Value}(h:Tr enc Tryz.prog W f 28 cs):∃(A:Option Addr) (c:Nat) (l:List CsV),cs= [.slice A l.length c]∧l.length≤c∧c≤maxLen∧l.length≤8796093021952∧RdCs W W.heap.size A l∧(∀x∈l,OkC x.c∧x.x.n≤8796093021952):=by
 obtain⟨A,c,l,h1,h2,h3,h4,hR,hc⟩:=h.slice (fun x:CsV=> [.string x.c.unit,x.n.val,x.x.val]) (fun x=>OkC x.c∧x.x.n≤8796093021952∧x.rd W W.heap.size) (e:=48) 3 (by decide) Tryz.underlying28 kz (fun f cs h=>op_Cause h);have hb:16≤Tryz.prog.bytesOf 48∨Tryz.prog.bytesOf 48=8:=by decide+kernel
 have hlen:l.length≤17592186044416:=by
  rcases hb with hb | hb
  ·have h5:l.length*16≤l.length*Tryz.prog.bytesOf 48:=Nat.mul_le_mul_left _ hb
   unfold reachBytes at h4;omega
  ·rw[hb]at h4
   unfold reachBytes at h4;omega
 refine⟨A,c,l,h1,h2,h3,?_,fun hn=> ?_,fun x hx=>⟨(hR x hx).1,(hR x hx).2.1⟩⟩
 ·have h5:l.length*16≤l.length*Tryz.prog.bytesOf 48:=Nat.mul_le_mul_left _ (by decide+kernel)
  unfold reachBytes at h4;omega
 ·obtain⟨b,o,e,hb,hc⟩:=hc hn
  exact⟨b,o,e,hb,fun i hi=>⟨by simpa using hc i hi 0 _ rfl,hc i hi 1 _ rfl,hc i hi 2 _ rfl,(hR _ (List.getElem_mem hi)).2.2⟩⟩
theorem op_sl_Version{f:Nat}{cs:List Value}(h:Tr enc Tryz.prog W f 29 cs):∃(A:Option Addr) (c:Nat) (l:List VsnV),cs= [.slice A l.length c]∧l.length≤c∧c≤maxLen∧l.length≤8796093021952∧RdVersion W W.heap.size A l∧True:=by
 obtain⟨A,c,l,h1,h2,h3,h4,hR,hc⟩:=h.slice (fun x:VsnV=> [.string x.a,.int .i64 x.va,.string x.b,.int .i64 x.vb]) (fun _=>True) (e:=96) 4 (by decide) Tryz.underlying29 kz (fun f cs h=>op_Version h);have hb:16≤Tryz.prog.bytesOf 96∨Tryz.prog.bytesOf 96=8:=by decide+kernel
 have hlen:l.length≤17592186044416:=by
  rcases hb with hb | hb
  ·have h5:l.length*16≤l.length*Tryz.prog.bytesOf 96:=Nat.mul_le_mul_left _ hb
   unfold reachBytes at h4;omega
  ·rw[hb]at h4
   unfold reachBytes at h4;omega
 refine⟨A,c,l,h1,h2,h3,?_,fun hn=> ?_,trivial⟩
 ·have h5:l.length*16≤l.length*Tryz.prog.bytesOf 96:=Nat.mul_le_mul_left _ (by decide+kernel)
  unfold reachBytes at h4;omega
 ·obtain⟨b,o,e,hb,hc⟩:=hc hn
  exact⟨b,o,e,hb,fun i hi=>⟨by simpa using hc i hi 0 _ rfl,hc i hi 1 _ rfl,hc i hi 2 _ rfl,hc i hi 3 _ rfl⟩⟩
theorem op_Config{f:Nat}{cs:List Value}(h:Tr enc Tryz.prog W f 31 cs):∃x:CfgV,cs= [x.mods.val,x.chans.val,x.sws.val,x.links.val,x.vls.val,x.hea.val,x.causes.val,x.vers.val]∧x.rd W W.heap.size∧∀c∈x.causes.l,OkC c.c∧c.x.n≤8796093021952:=by
 obtain⟨f0,f1,f2,f3,f4,f5,f6,f7,hs,t0,o0,t1,o1,t2,o2,t3,o3,t4,o4,t5,o5,t6,o6,t7,o7⟩:∃f0 f1 f2 f3 f4 f5 f6 f7:Field,Tryz.prog.underlying 31=some (.struct #[f0,f1,f2,f3,f4,f5,f6,f7])∧f0.type=22∧f0.offset=0∧f1.type=23∧f1.offset=1∧f2.type=24∧f2.offset=2∧f3.type=25∧f3.offset=3∧f4.type=26∧f4.offset=4∧f5.type=27∧f5.offset=5∧f6.type=28∧f6.offset=6∧f7.type=29∧f7.offset=7:=⟨_,_,_,_,_,_,_,_,Tryz.underlying31,rfl,rfl,rfl,rfl,rfl,rfl,rfl,rfl,rfl,rfl,rfl,rfl,rfl,rfl,rfl,rfl⟩;obtain⟨hl,n,hf⟩:=h.struct hs;rw[show Tryz.prog.cellsOf 31=8 by kernel_rfl]at hl;obtain⟨v0,v1,v2,v3,v4,v5,v6,v7,rfl⟩:∃v0 v1 v2 v3 v4 v5 v6 v7:Value,cs= [v0,v1,v2,v3,v4,v5,v6,v7]:=by
  match cs,hl with
  | [v0,v1,v2,v3,v4,v5,v6,v7],_=>exact⟨_,_,_,_,_,_,_,_,rfl⟩
 have g0:=hf 0 f0 rfl;rw[t0,o0,show Tryz.prog.cellsOf 22=1 by kernel_rfl]at g0
 replace g0:Tr enc Tryz.prog W n 22 [v0]:=g0
 obtain⟨A0,c0,l0,e0,a0,b0,n0,r0,p0⟩:=op_sl_Module g0;injection e0 with e0 _
 subst e0;have g1:=hf 1 f1 rfl;rw[t1,o1,show Tryz.prog.cellsOf 23=1 by kernel_rfl]at g1
 replace g1:Tr enc Tryz.prog W n 23 [v1]:=g1
 obtain⟨A1,c1,l1,e1,a1,b1,n1,r1,p1⟩:=op_sl_Channel g1;injection e1 with e1 _
 subst e1;have g2:=hf 2 f2 rfl;rw[t2,o2,show Tryz.prog.cellsOf 24=1 by kernel_rfl]at g2
 replace g2:Tr enc Tryz.prog W n 24 [v2]:=g2
 obtain⟨A2,c2,l2,e2,a2,b2,n2,r2,p2⟩:=op_sl_Switch g2;injection e2 with e2 _
 subst e2;have g3:=hf 3 f3 rfl;rw[t3,o3,show Tryz.prog.cellsOf 25=1 by kernel_rfl]at g3
 replace g3:Tr enc Tryz.prog W n 25 [v3]:=g3
 obtain⟨A3,c3,l3,e3,a3,b3,n3,r3,p3⟩:=op_sl_Link g3;injection e3 with e3 _
 subst e3;have g4:=hf 4 f4 rfl;rw[t4,o4,show Tryz.prog.cellsOf 26=1 by kernel_rfl]at g4
 replace g4:Tr enc Tryz.prog W n 26 [v4]:=g4
 obtain⟨A4,c4,l4,e4,a4,b4,n4,r4,p4⟩:=op_sl_VL g4;injection e4 with e4 _
 subst e4;have g5:=hf 5 f5 rfl;rw[t5,o5,show Tryz.prog.cellsOf 27=1 by kernel_rfl]at g5
 replace g5:Tr enc Tryz.prog W n 27 [v5]:=g5
 obtain⟨A5,c5,l5,e5,a5,b5,n5,r5,p5⟩:=op_sl_Health g5;injection e5 with e5 _
 subst e5;have g6:=hf 6 f6 rfl;rw[t6,o6,show Tryz.prog.cellsOf 28=1 by kernel_rfl]at g6
 replace g6:Tr enc Tryz.prog W n 28 [v6]:=g6
 obtain⟨A6,c6,l6,e6,a6,b6,n6,r6,p6⟩:=op_sl_Cause g6;injection e6 with e6 _
 subst e6;have g7:=hf 7 f7 rfl;rw[t7,o7,show Tryz.prog.cellsOf 29=1 by kernel_rfl]at g7
 replace g7:Tr enc Tryz.prog W n 29 [v7]:=g7
 obtain⟨A7,c7,l7,e7,a7,b7,n7,r7,p7⟩:=op_sl_Version g7;injection e7 with e7 _
 subst e7;exact⟨⟨⟨A0,c0,l0⟩,⟨A1,c1,l1⟩,⟨A2,c2,l2⟩,⟨A3,c3,l3⟩,⟨A4,c4,l4⟩,⟨A5,c5,l5⟩,⟨A6,c6,l6⟩,⟨A7,c7,l7⟩⟩,rfl,⟨a0,b0,r0,a1,b1,r1,a2,b2,r2,a3,b3,r3,a4,b4,r4,a5,b5,r5,a6,b6,r6,a7,b7,r7⟩,p6⟩
theorem arg_cfg{r:Reach}{b0:Nat}{v:Value}{d:DataW H}{p:List MemPlace}(hw:Value.okWide Tryz.prog W r b0 31 v)(h:DataW.Trod enc Tryz.prog W 0 (fun _=>true) true 31 v d p)(hz:∀n∈d.weights Tryz.prog 31,n≤reachBytes):
 ∃x:CfgV,v=x.val∧x.rd W W.heap.size∧∀c∈x.causes.l,OkC c.c∧c.x.n≤8796093021952:=by
 obtain⟨cs,rfl,hsz⟩:=okWide_struct Tryz.underlying31 hw;obtain⟨n,h⟩:=h;obtain⟨x,e,hr,hc⟩:=op_Config (⟨_,h,hz⟩:Tr enc Tryz.prog W n 31 _);refine⟨x,?_,hr,hc⟩;obtain⟨l⟩:=cs;have e2:l=_:=e;subst e2;rfl
structure CallV where
 what:Int
 r:Rep
 u:ByteArray
abbrev CallV.val(x:CallV):Value:= .agg #[.int .u8 x.what,.string x.r.unit,.int .i64 x.r.code,.string x.u]
def RdCall(w:World)(B:Nat)(A:Option Addr)(l:List CallV):Prop:=
 0<l.length→∃b o,A=some ⟨b,o,none⟩∧b<B∧∀i (h:i<l.length),w.cell? ⟨b,o+i*4,none⟩=some (.int .u8 l[i].what)∧w.cell? ⟨b,o+i*4+1,none⟩=some (.string l[i].r.unit)∧w.cell? ⟨b,o+i*4+2,none⟩=some (.int .i64 l[i].r.code)∧w.cell? ⟨b,o+i*4+3,none⟩=some (.string l[i].u)
theorem RdCall.keep{w w':World}{B:Nat}{A:Option Addr}{l:List CallV}(h:RdCall w B A l)(hb:Below B w w'):RdCall w' B A l:=fun hn=>by
 obtain⟨b,o,rfl,hbB,hc⟩:=h hn;refine⟨b,o,rfl,hbB,fun i hi=> ?_⟩;obtain⟨c0,c1,c2,c3⟩:=hc i hi;exact⟨(bcell hb b _ hbB).trans c0,(bcell hb b _ hbB).trans c1,(bcell hb b _ hbB).trans c2,(bcell hb b _ hbB).trans c3⟩
theorem op_Call{f:Nat}{cs:List Value}(h:Tr enc Tryz.prog W f 43 cs):∃x:CallV,cs= [.int .u8 x.what,.string x.r.unit,.int .i64 x.r.code,.string x.u]∧x.r.ok:=by
 obtain⟨f0,f1,f2,hs,t0,o0,t1,o1,t2,o2⟩:∃f0 f1 f2:Field,Tryz.prog.underlying 43=some (.struct #[f0,f1,f2])∧f0.type=5∧f0.offset=0∧f1.type=41∧f1.offset=1∧f2.type=9∧f2.offset=3:=⟨_,_,_,Tryz.underlying43,rfl,rfl,rfl,rfl,rfl,rfl⟩;obtain⟨hl,n,hf⟩:=h.struct hs;rw[show Tryz.prog.cellsOf 43=4 by kernel_rfl]at hl;obtain⟨v0,v1,v2,v3,rfl⟩:∃v0 v1 v2 v3:Value,cs= [v0,v1,v2,v3]:=by
  match cs,hl with
  | [v0,v1,v2,v3],_=>exact⟨_,_,_,_,rfl⟩
 have g0:=hf 0 f0 rfl;rw[t0,o0,show Tryz.prog.cellsOf 5=1 by kernel_rfl]at g0
 replace g0:Tr enc Tryz.prog W n 5 [v0]:=g0
 have g1:=hf 1 f1 rfl;rw[t1,o1,show Tryz.prog.cellsOf 41=2 by kernel_rfl]at g1
 replace g1:Tr enc Tryz.prog W n 41 [v1,v2]:=g1
 have g2:=hf 2 f2 rfl;rw[t2,o2,show Tryz.prog.cellsOf 9=1 by kernel_rfl]at g2
 replace g2:Tr enc Tryz.prog W n 9 [v3]:=g2
 obtain⟨x0,e0,p0⟩:=g0.int Tryz.underlying5;injection e0 with e0 _
 subst e0;obtain⟨x1,e1,p1⟩:=op_Report g1;simp only[List.cons.injEq,and_true]at e1;obtain⟨rfl,rfl⟩:=e1;obtain⟨x2,e2,p2⟩:=g2.str Tryz.underlying9;injection e2 with e2 _
 subst e2;exact⟨⟨x0,x1,x2⟩,rfl,p1⟩
theorem op_sl_Call{f:Nat}{cs:List Value}(h:Tr enc Tryz.prog W f 32 cs):∃(A:Option Addr) (c:Nat) (l:List CallV),cs= [.slice A l.length c]∧l.length≤c∧c≤maxLen∧RdCall W W.heap.size A l∧∀x∈l,x.r.ok:=by
 obtain⟨A,c,l,h1,h2,h3,h4,hR,hc⟩:=h.slice (fun x:CallV=> [.int .u8 x.what,.string x.r.unit,.int .i64 x.r.code,.string x.u]) (fun x=>x.r.ok) (e:=43) 4 (by decide) Tryz.underlying32 kz (fun f cs h=>op_Call h);refine⟨A,c,l,h1,h2,h3,fun hn=> ?_,hR⟩;obtain⟨b,o,e,hb,hc⟩:=hc hn;exact⟨b,o,e,hb,fun i hi=>⟨by simpa using hc i hi 0 _ rfl,hc i hi 1 _ rfl,hc i hi 2 _ rfl,hc i hi 3 _ rfl⟩⟩
theorem arg_calls{r:Reach}{b0:Nat}{v:Value}{d:DataW H}{p:List MemPlace}(hw:Value.okWide Tryz.prog W r b0 32 v)(h:DataW.Trod enc Tryz.prog W 0 (fun _=>true) true 32 v d p)(hz:∀n∈d.weights Tryz.prog 32,n≤reachBytes):
 ∃(A:Option Addr) (c:Nat) (l:List CallV),v= .slice A l.length c∧l.length≤c∧c≤maxLen∧RdCall W W.heap.size A l∧∀x∈l,x.r.ok:=by
 obtain⟨a0,len0,cap0,rfl⟩:=okWide_slice Tryz.underlying32 hw;obtain⟨n,h⟩:=h;obtain⟨A,c,l,e,h1,h2,h3,h4⟩:=op_sl_Call (⟨_,h,hz⟩:Tr enc Tryz.prog W n 32 _);have e2: [Value.slice a0 len0 cap0]= [.slice A l.length c]:=e;injection e2 with e2 _
 exact⟨A,c,l,e2,h1,h2,h3,h4⟩
end
end Go.Proofs.YtchfcgilpjkmhaaGreatDoor
