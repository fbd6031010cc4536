import Derived.Test.YtchfcgilpjkmhaaGreatDoorY24
import Derived.Test.YtchfcgilpjkmhaaGreatDoorY31
import Derived.Test.YtchfcgilpjkmhaaGreatDoorY0
set_option maxRecDepth 100000
set_option linter.unusedSimpArgs false
set_option linter.unusedVariables false
set_option linter.unusedSectionVars false
namespace Go.Proofs.YtchfcgilpjkmhaaGreatDoor
open Go.ChangeShapes Go.WideShapes Go.ChangeAt Go.RowKit
attribute [local go_sem] Oper.semAt_some
abbrev PartV.cl(p:PartV):Array Value:= #[.string p.nm,.int .i64 p.pe,.int .i64 p.le,.int .i64 p.mem,.slice p.semas.a p.semas.l.length p.semas.c,.int .i64 p.ev,.int .i64 p.bo,.slice p.bufs.a p.bufs.l.length p.bufs.c,.slice p.ports.a p.ports.l.length p.ports.c,.slice p.procs.a p.procs.l.length p.procs.c]
abbrev PartV.bk(p:PartV)(W:World)(g:Nat):Prop:=Blk W g 75 p.cl
abbrev InsV.bk(x:InsV)(W:World)(g:Nat):Prop:=Blk W g 167 #[.int .u8 x.op,.int .i64 x.a,.int .i64 x.b,.int .i64 x.d]
theorem below1_c(n v:Int)(g:Nat)(w:World)(h:w.cell? ⟨g,0,none⟩=some (.int .i64 n)):
 CU 167 #[.int .i64 v,.pointer (some ⟨g,0,none⟩)] w (.bool (decide (v<n))):=by
 go_enter Tryz.func167,Tryz.ntmps167;go_wp2_with fail;go_ret;exact⟨rfl,Below.refl _ _⟩
theorem below_c(n:Int)(w:World):
 Calls Tryz.prog 166 #[.int .i64 n] w fun e w'=>e= .returned (.func (.func 167) #[] #[.pointer (some ⟨w.heap.size,0,none⟩)])∧w'=w.alloc (.cells #[.int .i64 n] 3):=by
 go_enter Tryz.func166,Tryz.ntmps166;go_wp2_with fail;go_ret;exact⟨rfl,rfl⟩
theorem portf_c(o:Bool)(g:Nat)(w:World):
 Calls Tryz.prog 164 #[.bool o,.pointer (some ⟨g,0,none⟩)] w fun e w'=>e= .returned (.func (.func 165) #[] #[.pointer (some ⟨g,0,none⟩),.pointer (some ⟨w.heap.size,0,none⟩)])∧w'=w.alloc (.cells #[.bool o] 4):=by
 go_enter Tryz.func164,Tryz.ntmps164;go_wp2_with fail;go_ret;exact⟨rfl,rfl⟩
theorem wIns_c(v:Int)(w:World):
 CU 168 #[.int .i64 v] w (.bool (witP 1 2000 v)):=by
 have hc:=within_row1 1 2000 v w;rw[show([v].all (witP 1 2000))=witP 1 2000 v by simp]at hc;generalize witP 1 2000 v=q at *;have Hc:=lz hc;clear hc;go_enter Tryz.func168,Tryz.ntmps168;go_wp2_with fail;refine Hc.out.mono ?_;rintro e w1 ⟨rfl,hb⟩;have HB:=lz hb;clear hb Hc;go_wp2_with fail;go_ret;exact⟨rfl,HB.out⟩
def portOk(p:PartV)(o:Bool)(v:Int):Bool:=match p.ports.l[v.toNat]? with | some q=>q.out==o | none=>false
theorem port1_c(p:PartV)(o:Bool)(k:Nat)(g gb:Nat)(w:World)(hb:p.bk w g)(ho:w.cell? ⟨gb,0,none⟩=some (.bool o))(hr:RdPort w w.heap.size p.ports.a p.ports.l):
 CU 165 #[.int .i64 (k:Int),.pointer (some ⟨g,0,none⟩),.pointer (some ⟨gb,0,none⟩)] w (.bool (portOk p o k)):=by
 have hgl:=hb.lt;have hgbl:gb<w.heap.size:=World.block_lt_of_cell? w _ ho;have k8:w.cell? ⟨g,8,none⟩=some (.slice p.ports.a p.ports.l.length p.ports.c):=hb.cell 8;obtain⟨ps,hps⟩:∃ps,ps=p.ports:=⟨_,rfl⟩;have HF:=lz (show portOk p o k=match ps.l[k]? with | some q=>q.out==o | none=>false by rw[hps];rfl);rw[←hps]at k8 hr;by_cases hlt:k<ps.l.length
 ·obtain⟨b,oo,ha,hb',hc⟩:=hr (by omega)
  have hck:=hc k hlt;have HF2:=lz (show portOk p o k=(ps.l[k].out==o)by rw[HF.out,List.getElem?_eq_getElem hlt]);generalize ps.l[k]=r at *;obtain⟨c0,c1,c2,c3,c4,c5,_⟩:=hck;have e1:decide (k<ps.l.length)=true:=decide_eq_true hlt;have e2:decide ((k:Int)<(ps.l.length:Int))=true:=decide_eq_true (by omega);rw[ha]at k8;clear hb hc hr ha hps HF;go_enter Tryz.func165,Tryz.ntmps165;go_wp2_with fail;have hec:=ext_cell w;refine wp_region_ext kz kz ?_;repeat (go_big_quiet_step (fail))
  refine wpQuiet_nil ?_;intro _ hw';obtain⟨xx,hw''⟩:=hw';subst hw'';have HX2:=lz xx.h;generalize xx.w=W2 at *;go_wp2_with fail;go_ret;exact⟨by rw[HF2.out];rfl,HX2.out⟩
 ·have e1:decide (k<ps.l.length)=false:=decide_eq_false hlt
  have e2:decide ((k:Int)<(ps.l.length:Int))=false:=decide_eq_false (by omega);have HF2:=lz (show portOk p o k=false by rw[HF.out,List.getElem?_eq_none (by omega)]);clear hb hr hps HF;go_enter Tryz.func165,Tryz.ntmps165;go_wp2_with fail;have hec:=ext_cell w;refine wp_region_ext kz kz ?_;repeat (go_big_quiet_step (fail))
  refine wpQuiet_nil ?_;intro _ hw';obtain⟨xx,hw''⟩:=hw';subst hw'';have HX2:=lz xx.h;generalize xx.w=W2 at *;go_wp2_with fail;go_ret;exact⟨by rw[HF2.out];rfl,HX2.out⟩
def lOk(p:PartV)(a v:Int):Bool:=match p.ports.l[a.toNat]? with | some q=>witP 1 q.sz v | none=>false
theorem lIns_c(p:PartV)(x:InsV)(k:Nat)(hx:x.a=k)(v:Int)(g gp:Nat)(w:World)(hbx:x.bk w g)(hb:p.bk w gp)(hr:RdPort w w.heap.size p.ports.a p.ports.l):
 CU 169 #[.int .i64 v,.pointer (some ⟨g,0,none⟩),.pointer (some ⟨gp,0,none⟩)] w (.bool (lOk p k v)):=by
 have k8:w.cell? ⟨gp,8,none⟩=some (.slice p.ports.a p.ports.l.length p.ports.c):=hb.cell 8;have k1:w.cell? ⟨g,1,none⟩=some (.int .i64 (k:Int)):=hx▸hbx.cell 1;obtain⟨ps,hps⟩:∃ps,ps=p.ports:=⟨_,rfl⟩;have HF:=lz (show lOk p k v=match ps.l[k]? with | some q=>witP 1 q.sz v | none=>false by rw[hps];rfl);rw[←hps]at k8 hr;by_cases hlt:k<ps.l.length
 ·obtain⟨b,oo,ha,hb',hc⟩:=hr (by omega)
  have hck:=hc k hlt;have HF2:=lz (show lOk p k v=witP 1 ps.l[k].sz v by rw[HF.out,List.getElem?_eq_getElem hlt]);generalize ps.l[k]=r at *;obtain⟨c0,c1,c2,c3,c4,c5,_⟩:=hck;have e1:decide (k<ps.l.length)=true:=decide_eq_true hlt;have e2:decide ((k:Int)<(ps.l.length:Int))=true:=decide_eq_true (by omega);rw[ha]at k8;have hcall:=within_row1 1 r.sz v w;rw[show([v].all (witP 1 r.sz))=witP 1 r.sz v by simp,←HF2.out]at hcall;have Hc:=lz hcall;clear hb hbx hx hc hr ha hps HF hcall HF2;go_enter Tryz.func169,Tryz.ntmps169;go_wp2_with fail;refine Hc.out.mono ?_;rintro e w1 ⟨rfl,hb⟩;have HB:=lz hb;clear hb Hc;go_wp2_with fail;go_ret;exact⟨rfl,HB.out⟩
 ·have e1:decide (k<ps.l.length)=false:=decide_eq_false hlt
  have e2:decide ((k:Int)<(ps.l.length:Int))=false:=decide_eq_false (by omega);have HF2:=lz (show lOk p k v=false by rw[HF.out,List.getElem?_eq_none (by omega)]);clear hb hbx hx hr hps HF;go_enter Tryz.func169,Tryz.ntmps169;go_wp2_with fail;go_ret;exact⟨by rw[HF2.out];rfl,Below.refl _ _⟩
def heldR(v:Value):Option (DataW Value×List MemPlace):=some (.held v,[])
theorem keyI:Maps.Keyed Tryz.prog 21:=Maps.int_keyed (q:= .i32) kz
theorem undFn:Tryz.prog.underlying 216=some (.map 21 208):=by kernel_rfl
abbrev kI(n:Int):Lit:= .int .i32 n
theorem keyAt(n:Int)(h:(kI n).wf=true):keyOf Tryz.prog 21 (.int .i32 n)=some (kI n):=Maps.keyOf_int_mk kz h
def FnMap(w:World)(b n:Nat)(D:DataW Value):Prop:=w.ownsMap Tryz.prog 21 heldR b n D∧Maps.IsMap D
theorem FnMap.made(w:World):FnMap (w.alloc (.map #[] 0)) w.heap.size 0 (.map []):=⟨World.ownsMap_made _ _ _ _,Maps.isMap_empty⟩
theorem FnMap.lt{w:World}{b n:Nat}{D:DataW Value}(h:FnMap w b n D):b<w.heap.size:=h.1.lt
theorem FnMap.kept{w w':World}{b n:Nat}{D:DataW Value}{row:Option Nat}(h:FnMap w b n D)(hg:w.grownBy w' row)(hne:some b≠row):FnMap w' b n D:=⟨h.1.kept hg hne,h.2⟩
theorem FnMap.put{w:World}{b n:Nat}{D:DataW Value}(h:FnMap w b n D)(hn:n<maxLen)(k:Int)(hk:(kI k).wf=true)(v:Value):
 ∃w',(Instr.mapUpdate 216 (.map (some b)) (.int .i32 k) v).run Tryz.prog w= .ok () w'∧FnMap w' b (n+1) (D.put (kI k) (.held v))∧w.grownBy w' (some b):=by
 obtain⟨w',h1,h2,h3⟩:=h.1.update keyI undFn hn (keyAt k hk) (show heldR v=some (.held v,[])from rfl);exact⟨w',h1,⟨h2,h.2.put _ _⟩,h3⟩
abbrev noFn:DataW Value:= .held Value.nilFunc
theorem FnMap.look{w:World}{b n:Nat}{D:DataW Value}(h:FnMap w b n D)(k:Int)(hk:(kI k).wf=true){v:Value}(hv:D.atKey (kI k) noFn= .held v):
 (Instr.lookup 216 (.map (some b)) (.int .i32 k) false).run Tryz.prog w= .ok v w:=by
 obtain⟨v',ps,h1,h2⟩:=h.1.lookup keyI undFn (z:=Value.nilFunc) kz (show heldR Value.nilFunc=some (noFn,[])from rfl) (keyAt k hk);rw[hv]at h2
 cases h2
 exact h1
theorem at_same{D:DataW Value}(h:Maps.IsMap D)(k:Int)(hk:(kI k).wf=true)(v:Value):(D.put (kI k) (.held v)).atKey (kI k) noFn= .held v:=
 Maps.atKey_put_same h (keyI.key (keyAt k hk)) _ _
theorem at_other{D:DataW Value}{k j:Int}(hn:j≠k)(v:Value):(D.put (kI k) (.held v)).atKey (kI j) noFn=D.atKey (kI j) noFn:=
 Maps.atKey_put_other (fun e=>hn (by injection e)) _ _
noncomputable def reg83 (id:Nat):Code:=(Tryz.f83.body.bind (regAt id)).getD .skip
noncomputable def ops6:Array Oper:=match reg83 6 with | .region _ ops _=>ops | _=> #[]
def dst6:List (Nat×Nat):= [(2,25),(4,26),(5,27),(7,28),(8,29),(10,30),(11,31),(13,32),(14,33),(16,34),(17,35),(19,36),(20,37),(22,38),(23,39),(24,40),(25,41),(26,42),(28,43),(29,44),(30,45),(31,46),(32,47),(34,48),(35,49),(36,50),(37,51),(39,52),(40,53),(41,54),(42,55),(44,56),(45,57),(46,58),(48,59),(49,11)]
structure InsE where
 op:Nat
 key:Int
 src:Nat
 by_:Nat
def ins6:List InsE:= [⟨1,119,0,0⟩,⟨3,108,25,2⟩,⟨6,114,27,5⟩,⟨9,118,29,8⟩,⟨12,99,31,11⟩,⟨15,97,33,14⟩,⟨18,111,35,17⟩,⟨21,105,37,20⟩,⟨27,115,42,26⟩,⟨33,98,47,32⟩,⟨38,101,51,37⟩,⟨43,100,55,42⟩,⟨47,106,58,46⟩]
structure Ctx where
 p:PartV
 n:Int
 g3:Nat
 g5:Nat
 w0:World
 a0:Act
abbrev pt(b o:Nat):Value:= .pointer (some ⟨b,o,none⟩)
abbrev fnV(f:Nat):Value:= .func (.func f) #[] #[]
def IsBelow(C:Ctx)(m:Int)(v:Value)(w:World):Prop:=∃b,v= .func (.func 167) #[] #[pt b 0]∧w.cell? ⟨b,0,none⟩=some (.int .i64 m)
def IsPort(C:Ctx)(o:Bool)(v:Value)(w:World):Prop:=∃b,v= .func (.func 165) #[] #[pt C.g3 0,pt b 0]∧w.cell? ⟨b,0,none⟩=some (.bool o)
def vspec(C:Ctx)(mb:Nat)(j:Nat)(v:Value)(w:World):Prop:=
 if j∈ [4,7,10,13,22,28,34,39,44]then v=fnV 166 else
 if j∈ [16,19]then v= .func (.func 164) #[] #[pt C.g3 0]else
 match j with
 | 2=>v= .func (.func 169) #[] #[pt C.g5 0,pt C.g3 0]
 | 5=>IsBelow C 4 v w
 | 8=>IsBelow C 256 v w
 | 11=>IsBelow C 256 v w
 | 14=>IsBelow C 4096 v w
 | 17=>IsPort C true v w
 | 20=>IsPort C false v w
 | 23=>v=pt C.g3 4
 | 24=>v=C.p.semas.val
 | 25=>v= .int .i64 C.p.semas.l.length
 | 26=>IsBelow C C.p.semas.l.length v w
 | 29=>v=pt C.g3 7
 | 30=>v=C.p.bufs.val
 | 31=>v= .int .i64 C.p.bufs.l.length
 | 32=>IsBelow C C.p.bufs.l.length v w
 | 35=>v=pt C.g3 5
 | 36=>v= .int .i64 C.p.ev
 | 37=>IsBelow C C.p.ev v w
 | 40=>v=pt C.g3 6
 | 41=>v= .int .i64 C.p.bo
 | 42=>IsBelow C C.p.bo v w
 | 45=>v= .int .i64 C.n
 | 46=>IsBelow C C.n v w
 | 48=>v= .map (some mb)
 | 49=>v= .map (some mb)
 | _=>True
def Grw(w w':World):Prop:=∃row,w.grownBy w' row∧∀r,row=some r→∃es c,w.heap[r]?=some (.map es c)
theorem Grw.cell{w w':World}(h:Grw w w'){a:Addr}{v:Value}(hv:w.cell? a=some v):w'.cell? a=some v:=by
 obtain⟨row,hg,hr⟩:=h;have hlt:=World.block_lt_of_cell? w a hv;refine(World.cell?_of_block (hg.block a.block hlt (fun e=> ?_))).trans hv;obtain⟨es,c,hh⟩:=hr _ e.symm;simp[World.cell?,hh]at hv
theorem Grw.below{w w':World}(h:Below w.heap.size w w'):Grw w w':=⟨none,only_of_below h none,fun _ e=>by cases e⟩
theorem IsBelow.to_{C:Ctx}{m:Int}{v:Value}{w w':World}(h:IsBelow C m v w)(hg:Grw w w'):IsBelow C m v w':=let ⟨b,h1,h2⟩:=h;⟨b,h1,hg.cell h2⟩
theorem IsPort.to_{C:Ctx}{m:Bool}{v:Value}{w w':World}(h:IsPort C m v w)(hg:Grw w w'):IsPort C m v w':=let ⟨b,h1,h2⟩:=h;⟨b,h1,hg.cell h2⟩
theorem vspec.to_{C:Ctx}{mb j:Nat}{v:Value}{w w':World}(h:vspec C mb j v w)(hg:Grw w w'):vspec C mb j v w':=by
 unfold vspec at *;by_cases h1:j∈ [4,7,10,13,22,28,34,39,44]
 ·rw[if_pos h1]at h ⊢;exact h
 ·rw[if_neg h1]at h⊢
  by_cases h2:j∈ [16,19]
  ·rw[if_pos h2]at h ⊢;exact h
  ·rw[if_neg h2]at h⊢
   split at h<;>first | exact h | exact IsBelow.to_ h hg | exact IsPort.to_ h hg
abbrev sl(a:Act)(j:Nat):Value:=a.tmps.getD j undef
def insE6(a:Act)(q:InsE):Value:=if q.src=0 then fnV 168 else sl a q.src
structure Reg6(C:Ctx)(mb:Nat)(listed:Array Bool)(a:Act)(w:World):Prop where
 df:a.defers= []
 sz:a.tmps.size=83
 old:∀j,j≠24→(∀q∈dst6,q.2≠j)→sl a j=sl C.a0 j
 bel:Below C.w0.heap.size C.w0 w
 val:∀q∈dst6,listed.getD q.1 false=true→vspec C mb q.1 (sl a q.2) w
 map:listed.getD 0 false=true→∃k D,sl a 24= .map (some mb)∧C.w0.heap.size≤mb∧FnMap w mb k D∧k+listed.toList.count false≤50∧∀q∈ins6,listed.getD q.op false=true→D.atKey (kI q.key) noFn= .held (insE6 a q)
theorem sl_put{a:Act}{d:Nat}{v:Value}(h:d<a.tmps.size)(j:Nat):sl (a.put (some d) v) j=if j=d then v else sl a j:=by
 unfold sl Act.put;by_cases e:j=d
 ·subst e;simp[h]
 ·simp only[if_neg e]
  rw[Array.getD_eq_getD_getElem?,Array.getD_eq_getD_getElem?,Array.getElem?_setIfInBounds_ne (fun x=>e x.symm)]
theorem count_less{listed:Array Bool}{i:Nat}(hl:listed.getD i true=false):(listed.setIfInBounds i true).toList.count false+1=listed.toList.count false:=by
 have hlt:i<listed.size:=by
  rcases Nat.lt_or_ge i listed.size with h' | h'
  ·exact h'
  ·simp[Array.getElem?_eq_none h']at hl
 have hv:listed.toList[i]'(by simpa using hlt)=false:=by simpa [hlt]using hl
 have h2:false∈listed.toList:=by rw[←hv];exact List.getElem_mem _
 have h3:=List.count_pos_iff.2 h2;rw[Array.toList_setIfInBounds,List.count_set (by simpa using hlt),hv];rw[if_pos (by rfl),if_neg (by decide)];omega
theorem getD_self{listed:Array Bool}{i:Nat}(hl:listed.getD i true=false):listed.getD i false=false:=by
 rcases Nat.lt_or_ge i listed.size with h' | h'
 ·simp[h']at hl ⊢;exact hl
 ·simp[Array.getElem?_eq_none h']
theorem dep_src:∀q∈ins6,q.src≠0→depB .any ops6 q.op q.by_=true:=by
 have h:(ins6.all fun q=>q.src==0||depB .any ops6 q.op q.by_)=true:=by kernel_rfl
 intro q hq hn;have:=List.all_eq_true.1 h q hq;simpa [hn]using this
theorem dep_map:(∀q∈ins6,depB .any ops6 q.op 0=true)∧depB .any ops6 48 0=true∧depB .any ops6 49 0=true:=by
 have h:(ins6.all fun q=>depB .any ops6 q.op 0)=true:=by kernel_rfl
 exact⟨fun q hq=>List.all_eq_true.1 h q hq,by kernel_rfl,by kernel_rfl⟩
theorem dst_one:∀q∈dst6,∀r∈dst6,q.2=r.2→q.1=r.1:=by decide
theorem dst_24:∀q∈dst6,q.2≠24∧q.2<83∧q.1≠0:=by decide
theorem ins_by:∀q∈ins6,q.src≠0→(q.by_,q.src)∈dst6:=by
 have h:(ins6.all fun q=>q.src==0||dst6.contains (q.by_,q.src))=true:=by decide
 intro q hq hn;have:=List.all_eq_true.1 h q hq;simpa [hn]using this
theorem ins_no:∀q∈ins6,∀r∈dst6,q.op≠r.1:=by decide
section
variable {P:Program} {Q:Exit→Act→World→Prop} {C:Ctx} {mb:Nat} {listed:Array Bool} {a:Act} {w:World}
theorem Reg6.value(h:Reg6 C mb listed a w)(hcl:Shuts .any ops6 listed){q:Nat×Nat}(hq:q∈dst6)(hl:listed.getD q.1 true=false){v:Value}{w':World}(hb:Below w.heap.size w w')(hv:vspec C mb q.1 v w'):
 Reg6 C mb (listed.setIfInBounds q.1 true) (a.put (some q.2) v) w':=by
 have h24:=dst_24 q hq;have hsz:=h.sz;have hput:=fun j=>sl_put (a:=a) (v:=v) (d:=q.2) (by omega) j
 refine⟨h.df,by simp[Act.put,h.sz],fun j hj hn=> ?_,h.bel.trans (hb.mono h.bel.size),fun r hr hlr=> ?_,fun h0=> ?_⟩
 ·rw[hput,if_neg (fun e=>hn q hq e.symm)];exact h.old j hj hn
 ·rw[hput]
  by_cases e:r.2=q.2
  ·rw[if_pos e,dst_one r hr q hq e];exact hv
  ·rw[if_neg e]
   have hne:q.1≠r.1:=fun e2=>e (by
    have:∀q∈dst6,∀r∈dst6,q.1=r.1→q.2=r.2:=by decide
    exact(this q hq r hr e2).symm)
   rw[getD_set_ne false hne]at hlr;exact(h.val r hr hlr).to_ (Grw.below hb)
 ·rw[getD_set_ne false h24.2.2]at h0
  obtain⟨k,D,e1,e2,e3,e4,e5⟩:=h.map h0;refine⟨k,D,by rw[hput,if_neg (fun e=>h24.1 e.symm)];exact e1,e2,e3.kept (only_of_below hb none) (by simp),by have:=count_less hl;omega,fun r hr hlr=> ?_⟩;rw[getD_set_ne false (fun e=>ins_no r hr q hq e.symm)]at hlr;rw[e5 r hr hlr];unfold insE6;by_cases hs:r.src=0
  ·rw[if_pos hs,if_pos hs]
  ·rw[if_neg hs,if_neg hs,hput,if_neg (fun e=> ?_)]
   have h1:=hcl _ _ (dep_src r hr hs) hlr;have h2:r.by_=q.1:=dst_one _ (ins_by r hr hs) q hq e;rw[h2,getD_self hl]at h1
   cases h1
end
section
variable {Q:Exit→Act→World→Prop} {C:Ctx} {mb:Nat} {listed:Array Bool} {a:Act} {w:World} {o:Oper} {i d:Nat}
theorem size6:ops6.size=50:=by kernel_rfl
theorem vspec_mb{C:Ctx}{m m' j:Nat}{v:Value}{w:World}(h:vspec C m j v w)(h1:j≠48)(h2:j≠49):vspec C m' j v w:=by
 unfold vspec at *;by_cases e1:j∈ [4,7,10,13,22,28,34,39,44]
 ·rw[if_pos e1]at h ⊢;exact h
 ·rw[if_neg e1]at h⊢
  by_cases e2:j∈ [16,19]
  ·rw[if_pos e2]at h ⊢;exact h
  ·rw[if_neg e2]at h⊢
   split at h<;>first | exact h | exact absurd rfl h1 | exact absurd rfl h2
theorem Reg6.made(h:Reg6 C mb listed a w)(hcl:Shuts .any ops6 listed)(hs:listed.size=ops6.size)(hl:listed.getD 0 true=false):
 Reg6 C w.heap.size (listed.setIfInBounds 0 true) (a.put (some 24) (.map (some w.heap.size))) (w.alloc (.map #[] 0)):=by
 have hsz:=h.sz;have hput:=fun j=>sl_put (a:=a) (v:= .map (some w.heap.size)) (d:=24) (by omega) j
 have hn0:∀j,depB .any ops6 j 0=true→listed.getD j false=true→False:=fun j hj hlj=>by
  have h1:=hcl j 0 hj hlj;rw[getD_self hl]at h1
  cases h1
 have hB:Below w.heap.size w (w.alloc (.map #[] 0)):=(Below.refl _ w).alloc (Nat.le_refl _) _;refine⟨h.df,by simp[Act.put,h.sz],fun j hj hn=> ?_,h.bel.trans (hB.mono h.bel.size),fun r hr hlr=> ?_,fun _=> ?_⟩
 ·rw[hput,if_neg hj];exact h.old j hj hn
 ·have h24:=dst_24 r hr
  rw[getD_set_ne false (fun e=>h24.2.2 e.symm)]at hlr;rw[hput,if_neg h24.1];exact vspec_mb (vspec.to_ (h.val r hr hlr) (Grw.below hB)) (fun e=>hn0 _ dep_map.2.1 (e▸hlr)) (fun e=>hn0 _ dep_map.2.2 (e▸hlr))
 ·refine⟨0,_,by rw[hput,if_pos rfl],h.bel.size,FnMap.made w,?_,fun q hq hlq=> ?_⟩
  ·have h1:=count_less hl
   have h2:listed.toList.count false≤listed.toList.length:=List.count_le_length;rw[Array.length_toList,hs,size6]at h2;omega
  ·have hne:(0:Nat)≠q.op:=by
    have:∀q∈ins6,(0:Nat)≠q.op:=by decide
    exact this q hq
   rw[getD_set_ne false hne]at hlq;exact(hn0 _ (dep_map.1 q hq) hlq).elim
theorem Reg6.insert(h:Reg6 C mb listed a w)(hcl:Shuts .any ops6 listed){q:InsE}(hq:q∈ins6)(hl:listed.getD q.op true=false)(h0:listed.getD 0 false=true):
 ∃k D,sl a 24= .map (some mb)∧FnMap w mb k D∧k<maxLen∧∀w',FnMap w' mb (k+1) (D.put (kI q.key) (.held (insE6 a q)))→w.grownBy w' (some mb)→Reg6 C mb (listed.setIfInBounds q.op true) a w':=by
 obtain⟨k,D,e1,e2,e3,e4,e5⟩:=h.map h0;have hcl2:=count_less hl;have h50:(50:Nat)<maxLen:=by decide
 refine⟨k,D,e1,e3,by omega,fun w' hw hg=> ?_⟩;have hG:Grw w w':=⟨some mb,hg,fun r e=>by cases e;obtain⟨⟨es,c,hh,_⟩,_⟩:=e3;exact⟨es,c,hh⟩⟩;refine⟨h.df,h.sz,h.old,h.bel.grown hg h.bel.size (fun k e=>by cases e;exact e2),fun r hr hlr=> ?_,fun _=>⟨k+1,_,e1,e2,hw,by omega,fun r hr hlr=> ?_⟩⟩
 ·rw[getD_set_ne false (ins_no q hq r hr)]at hlr
  exact(h.val r hr hlr).to_ hG
 ·by_cases e:r.op=q.op
  ·have:r=q:=by
    have hh:∀r∈ins6,∀q∈ins6,r.op=q.op→r.key=q.key∧r.src=q.src∧r.by_=q.by_:=by decide
    obtain⟨x1,x2,x3⟩:=hh r hr q hq e
    cases r;cases q;simp_all
   subst this;have hwf:∀q∈ins6,(kI q.key).wf=true:=by decide
   exact at_same e3.2 _ (hwf r hr) _
  ·rw[getD_set_ne false (fun x=>e x.symm)]at hlr
   have hk:∀r∈ins6,∀q∈ins6,r.key=q.key→r.op=q.op:=by decide
   rw[at_other (fun x=>e (hk r hr q hq x))];exact e5 r hr hlr
abbrev Nx6(C:Ctx)(listed:Array Bool)(i:Nat)(a:Act)(w:World):Prop:=∃mb,Reg6 C mb (listed.setIfInBounds i true) a w
theorem step_v(ho:ops6[i]?=some o)(hg:o.guard=none)(hd:o.dst=some d)(hq:(i,d)∈dst6)(h:Reg6 C mb listed a w)(hcl:Shuts .any ops6 listed)(hl:listed.getD i true=false){v:Value}
 (hr:(execOp a.eval o).run Tryz.prog w= .ok (.value v) w) (hv:vspec C mb i v w):wpOp Tryz.prog ops6 Q i (Nx6 C listed i) a w:=wpOp_step ho fun K' hK=>by
 rw[if_pos (by simp[Region.wanted,hg])];unfold Oper.wp;rw[hr,Oper.upon_value,hd];exact hK _ _ ⟨mb,h.value hcl (q:=(i,d)) hq hl (Below.refl _ _) hv⟩
theorem step_c(ho:ops6[i]?=some o)(hg:o.guard=none)(hd:o.dst=some d)(hq:(i,d)∈dst6)(h:Reg6 C mb listed a w)(hcl:Shuts .any ops6 listed)(hl:listed.getD i true=false){f:FuncId}{args:Array Value}
 (hr:(execOp a.eval o).run Tryz.prog w= .ok (.enter f args) w) (hc:Calls Tryz.prog f args w fun e w'=>∃v,e= .returned v∧Below w.heap.size w w'∧vspec C mb i v w'):wpOp Tryz.prog ops6 Q i (Nx6 C listed i) a w:=wpOp_step ho fun K' hK=>by
 rw[if_pos (by simp[Region.wanted,hg])];unfold Oper.wp;rw[hr,Oper.upon_enter,hd];refine hc.mono ?_;rintro e w' ⟨v,rfl,hb,hv⟩;exact hK _ _ ⟨mb,h.value hcl (q:=(i,d)) hq hl hb hv⟩
theorem step_m(ho:ops6[0]?=some o)(hg:o.guard=none)(hd:o.dst=some 24)(h:Reg6 C mb listed a w)(hcl:Shuts .any ops6 listed)(hs:listed.size=ops6.size)(hl:listed.getD 0 true=false)
 (hr:(execOp a.eval o).run Tryz.prog w= .ok (.value (.map (some w.heap.size))) (w.alloc (.map #[] 0))):wpOp Tryz.prog ops6 Q 0 (Nx6 C listed 0) a w:=wpOp_step ho fun K' hK=>by
 rw[if_pos (by simp[Region.wanted,hg])];unfold Oper.wp;rw[hr,Oper.upon_value,hd];exact hK _ _ ⟨_,h.made hcl hs hl⟩
theorem step_i{q:InsE}(hq:q∈ins6)(ho:ops6[q.op]?=some o)(hg:o.guard=none)(hd:o.dst=none){x:Operand}(hop:o.op= .insert 216 (.tmp 24) (.const (.int .i32 q.key)) x)(hx:a.eval x=insE6 a q)
 (h:Reg6 C mb listed a w) (hcl:Shuts .any ops6 listed) (hl:listed.getD q.op true=false) (h0:listed.getD 0 false=true):wpOp Tryz.prog ops6 Q q.op (Nx6 C listed q.op) a w:=wpOp_step ho fun K' hK=>by
 rw[if_pos (by simp[Region.wanted,hg])];obtain⟨k,D,e1,e2,e3,e4⟩:=h.insert hcl hq hl h0;have hwf:∀q∈ins6,(kI q.key).wf=true:=by decide
 obtain⟨w',hrun,hw,hgr⟩:=e2.put e3 q.key (hwf q hq) (insE6 a q);have hm:a.eval (.tmp 24)= .map (some mb):=e1;have hk:a.eval (.const (.int .i32 q.key))= .int .i32 q.key:=rfl;unfold Oper.wp;simp[execOp,hop,hm,hk,hx,hrun,Result.andThen];rw[Oper.upon_skip,hd];exact hK _ _ ⟨mb,e4 w' hw hgr⟩
end
end Go.Proofs.YtchfcgilpjkmhaaGreatDoor
