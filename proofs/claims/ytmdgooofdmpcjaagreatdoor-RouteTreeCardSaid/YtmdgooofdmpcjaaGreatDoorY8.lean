import Derived.Test.YtmdgooofdmpcjaaGreatDoorY7
import Derived.Test.YtmdgooofdmpcjaaGreatDoorY3
import Derived.Test.YtmdgooofdmpcjaaGreatDoorY0
set_option maxRecDepth 100000
set_option maxHeartbeats 8000000
set_option linter.unusedSimpArgs false
set_option linter.unusedVariables false
set_option linter.unusedSectionVars false
open Go.Proofs.Tryz renaming prog → pG
namespace Go.Proofs.YtmdgooofdmpcjaaGreatDoor
section
open Go.ChangeShapes Go.WideShapes Go.ChangeAt Go.RowKit
attribute [local go_sem] Oper.semAt_some
abbrev CV(f:FuncId)(a:Array Value)(w:World)(v:Value):Prop:=Calls pG f a w fun e w'=>e= .returned v∧Below w.heap.size w w'
abbrev CB(f:FuncId)(a:Array Value)(w:World)(b:Bool):Prop:=CV f a w (.bool b)
abbrev Ent(g:Nat):Prop:=∀args w,(callFunc g args).run pG w= .ok (.enter g args) w
abbrev rU{α:Type}(f:FuncId)(Pr:Nat→Array Value→(α→Bool)→List α→World→Prop)(Rd:World→Nat→Option Addr→List α→Prop):Prop:=
 ∀(g:Nat) (lb:Array Value) (p:α→Bool),Ent g→∀(l:List α) (A:Option Addr) (c:Nat) (w:World),Pr g lb p l w→Rd w w.heap.size A l→l.length≤9223372036854775807→CV f #[.slice A l.length c,.func (.func g) #[] lb] w (.int .i64 (cV p l))
abbrev rV{α:Type}(f:FuncId)(Pr:Nat→Array Value→(α→Bool)→List α→World→Prop)(Rd:World→Nat→Option Addr→List α→Prop):Prop:=
 ∀(g:Nat) (lb:Array Value) (p:α→Bool),Ent g→∀(l:List α) (A:Option Addr) (c:Nat) (w:World),Pr g lb p l w→Rd w w.heap.size A l→l.length≤9223372036854775807→CV f #[.slice A l.length c,.func (.func g) #[] lb] w (.bool (l.any p))
abbrev jF{α:Type}(f:FuncId)(Pr:Nat→Array Value→(α→Bool)→List α→World→Prop)(Rd:World→Nat→Option Addr→List α→Prop):Prop:=
 ∀(g:Nat) (lb:Array Value) (p:α→Bool),Ent g→∀(l:List α) (A:Option Addr) (c:Nat) (w:World),Pr g lb p l w→Rd w w.heap.size A l→l.length≤9223372036854775807→CV f #[.slice A l.length c,.func (.func g) #[] lb] w (.bool (l.all p))
abbrev pK{α:Type}(v:α→Value)(f:FuncId)(t:TypeId):Prop:=
 ∀(g:Nat) (lb:Array Value),Ent g→∀(Bx:Nat) (b:Bool) (x:α) (W:World),ah W Bx t #[.func (.func g) #[] lb]→(∀W',Below W.heap.size W W'→CB g (#[v x]++lb) W' b)→CB f #[v x,.pointer (some ⟨Bx,0,none⟩)] W (!b)
section
variable {a b c:World}
theorem bt(h:Hid (Below a.heap.size a b))(k:Hid (Below b.heap.size b c)):Below a.heap.size a c:=h.out.trans (k.out.mono h.out.size)
end
theorem gJ(w:World)(t:TypeId)(cs:Array Value):∃y0,Hid (y0=w.alloc (.cells cs t))∧Hid (Below w.heap.size w y0)∧Hid (∀W,Below y0.heap.size y0 W→ah W w.heap.size t cs)∧Hid (Below y0.heap.size y0 y0)∧Hid (y0.heap.size=w.heap.size+1)∧ah (w.alloc (.cells cs t)) w.heap.size t cs:=
 ⟨_,lz rfl,lz (bN),lz fun W hW=>(ah.new w t cs).below hW (ah.new w t cs).lt,lz (Below.refl _ _),lz qz,ah.new w t cs⟩
theorem fF(w:World)(t:TypeId)(cs:Array Value):ah (w.alloc (.cells cs t)) w.heap.size t cs∧Below w.heap.size w (w.alloc (.cells cs t)):=⟨ah.new w t cs,bN⟩
theorem Fx{a b c d:World}(h:Below a.heap.size a b)(k:Below b.heap.size b c)(l:Below c.heap.size c d):Below a.heap.size a d:=h.trans ((k.mono h.size).trans (l.mono (nT h.size k.size)))
theorem xX{w y0:World}{t0 t:TypeId}{c0 cs:Array Value}{g:Nat}(hy:Hid (y0=w.alloc (.cells c0 t0)))(hB:Hid (Below w.heap.size w y0))(h:ah w g t cs):Hid (∀W,Below y0.heap.size y0 W→ah W g t cs):=
 lz fun W hW=>(h.below hB.out h.lt).below hW (Nat.lt_of_lt_of_le h.lt hB.out.size)
theorem bZ{f:FuncId}{args:Array Value}{y0 y z:World}{v:Value}{R:Ending→World→Prop}(hc:Hid (Calls pG f args z fun e w'=>e= .returned v∧Below y.heap.size y w'))(hy:Hid (Below y0.heap.size y0 y))(k:∀w',Hid (Below y0.heap.size y0 w')→R (.returned v) w'):Calls pG f args z R:=
 hc.out.mono fun e w' h=>by
  obtain⟨rfl,hb⟩:=h;exact k w' (lz (bt hy (lz hb)))
abbrev gu.obj(x:gu):Obj:= .cells #[.int .u8 x.op,.int .i64 x.a,.int .i64 x.b,.int .i64 x.d] 169
abbrev bw.obj(x:bw):Obj:= .cells #[.string x.m,.string x.p,.string x.o] 41
abbrev aM.obj(x:aM):Obj:= .cells #[.string x.nm,.int .u8 x.kd,.bool x.out,.int .i64 x.sz,.int .i64 x.dp,.int .i64 x.rf] 73
abbrev cT.obj(x:cT):Obj:= .cells #[.string x.nm,.int .i64 x.pr,.int .i64 x.pe,.int .i64 x.li,.slice x.code.a x.code.l.length x.code.c] 76
abbrev aC.obj(x:aC):Obj:= .cells #[.string x.nm,.int .i64 x.pe,.int .i64 x.le,.int .i64 x.mem,.slice x.aG.a x.aG.l.length x.aG.c,.int .i64 x.ev,.int .i64 x.bo,.slice x.aX.a x.aX.l.length x.aX.c,.slice x.aq.a x.aq.l.length x.aq.c,.slice x.procs.a x.procs.l.length x.procs.c] 71
abbrev bT.obj(x:bT):Obj:= .cells #[.string x.nm,.int .i64 x.mem,.int .i64 x.fr,.slice x.parts.a x.parts.l.length x.parts.c] 67
abbrev gq.obj(x:gq):Obj:= .cells #[.string x.src.m,.string x.src.p,.string x.src.o,.slice x.dst.a x.dst.l.length x.dst.c] 78
abbrev iI.obj(x:iI):Obj:= .cells #[.string x.nm,.int .i64 x.net,.int .i64 x.dl,.int .i64 x.st] 87
abbrev aO.obj(x:aO):Obj:= .cells #[.string x.a,.string x.b,.int .i64 x.net,.int .i64 x.slow] 46
abbrev fU.obj(x:fU):Obj:= .cells #[.string x.nm,.string x.src.m,.string x.src.p,.string x.src.o,.int .i64 x.lQ,.int .i64 x.mx,.slice x.dst.a x.dst.l.length x.dst.c] 44
abbrev iK.obj(x:iK):Obj:= .cells #[.string x.m,.string x.p,.int .u8 x.yV,.int .u8 x.lv,.int .u8 x.dd] 89
abbrev lF.obj(x:lF):Obj:= .cells #[.string x.a,.int .i64 x.va,.string x.b,.int .i64 x.vb] 91
theorem gu.kl{x:gu}{W:World}{g:Nat}(h:ah W g 169 #[.int .u8 x.op,.int .i64 x.a,.int .i64 x.b,.int .i64 x.d]):W.cell? ⟨g,0,none⟩=some (.int .u8 x.op)∧W.cell? ⟨g,1,none⟩=some (.int .i64 x.a)∧W.cell? ⟨g,2,none⟩=some (.int .i64 x.b)∧W.cell? ⟨g,3,none⟩=some (.int .i64 x.d):=⟨h.cell 0,h.cell 1,h.cell 2,h.cell 3⟩
theorem bw.kl{x:bw}{W:World}{g:Nat}(h:ah W g 41 #[.string x.m,.string x.p,.string x.o]):W.cell? ⟨g,0,none⟩=some (.string x.m)∧W.cell? ⟨g,1,none⟩=some (.string x.p)∧W.cell? ⟨g,2,none⟩=some (.string x.o):=⟨h.cell 0,h.cell 1,h.cell 2⟩
theorem aM.kl{x:aM}{W:World}{g:Nat}(h:ah W g 73 #[.string x.nm,.int .u8 x.kd,.bool x.out,.int .i64 x.sz,.int .i64 x.dp,.int .i64 x.rf]):W.cell? ⟨g,0,none⟩=some (.string x.nm)∧W.cell? ⟨g,1,none⟩=some (.int .u8 x.kd)∧W.cell? ⟨g,2,none⟩=some (.bool x.out)∧W.cell? ⟨g,3,none⟩=some (.int .i64 x.sz)∧W.cell? ⟨g,4,none⟩=some (.int .i64 x.dp)∧W.cell? ⟨g,5,none⟩=some (.int .i64 x.rf):=⟨h.cell 0,h.cell 1,h.cell 2,h.cell 3,h.cell 4,h.cell 5⟩
theorem cT.kl{x:cT}{W:World}{g:Nat}(h:ah W g 76 #[.string x.nm,.int .i64 x.pr,.int .i64 x.pe,.int .i64 x.li,.slice x.code.a x.code.l.length x.code.c]):W.cell? ⟨g,0,none⟩=some (.string x.nm)∧W.cell? ⟨g,1,none⟩=some (.int .i64 x.pr)∧W.cell? ⟨g,2,none⟩=some (.int .i64 x.pe)∧W.cell? ⟨g,3,none⟩=some (.int .i64 x.li)∧W.cell? ⟨g,4,none⟩=some (.slice x.code.a x.code.l.length x.code.c):=⟨h.cell 0,h.cell 1,h.cell 2,h.cell 3,h.cell 4⟩
theorem aC.kl{x:aC}{W:World}{g:Nat}(h:ah W g 71 #[.string x.nm,.int .i64 x.pe,.int .i64 x.le,.int .i64 x.mem,.slice x.aG.a x.aG.l.length x.aG.c,.int .i64 x.ev,.int .i64 x.bo,.slice x.aX.a x.aX.l.length x.aX.c,.slice x.aq.a x.aq.l.length x.aq.c,.slice x.procs.a x.procs.l.length x.procs.c]):W.cell? ⟨g,0,none⟩=some (.string x.nm)∧W.cell? ⟨g,1,none⟩=some (.int .i64 x.pe)∧W.cell? ⟨g,2,none⟩=some (.int .i64 x.le)∧W.cell? ⟨g,3,none⟩=some (.int .i64 x.mem)∧W.cell? ⟨g,4,none⟩=some (.slice x.aG.a x.aG.l.length x.aG.c)∧W.cell? ⟨g,5,none⟩=some (.int .i64 x.ev)∧W.cell? ⟨g,6,none⟩=some (.int .i64 x.bo)∧W.cell? ⟨g,7,none⟩=some (.slice x.aX.a x.aX.l.length x.aX.c)∧W.cell? ⟨g,8,none⟩=some (.slice x.aq.a x.aq.l.length x.aq.c)∧W.cell? ⟨g,9,none⟩=some (.slice x.procs.a x.procs.l.length x.procs.c):=⟨h.cell 0,h.cell 1,h.cell 2,h.cell 3,h.cell 4,h.cell 5,h.cell 6,h.cell 7,h.cell 8,h.cell 9⟩
theorem bT.kl{x:bT}{W:World}{g:Nat}(h:ah W g 67 #[.string x.nm,.int .i64 x.mem,.int .i64 x.fr,.slice x.parts.a x.parts.l.length x.parts.c]):W.cell? ⟨g,0,none⟩=some (.string x.nm)∧W.cell? ⟨g,1,none⟩=some (.int .i64 x.mem)∧W.cell? ⟨g,2,none⟩=some (.int .i64 x.fr)∧W.cell? ⟨g,3,none⟩=some (.slice x.parts.a x.parts.l.length x.parts.c):=⟨h.cell 0,h.cell 1,h.cell 2,h.cell 3⟩
theorem gq.kl{x:gq}{W:World}{g:Nat}(h:ah W g 78 #[.string x.src.m,.string x.src.p,.string x.src.o,.slice x.dst.a x.dst.l.length x.dst.c]):W.cell? ⟨g,0,none⟩=some (.string x.src.m)∧W.cell? ⟨g,1,none⟩=some (.string x.src.p)∧W.cell? ⟨g,2,none⟩=some (.string x.src.o)∧W.cell? ⟨g,3,none⟩=some (.slice x.dst.a x.dst.l.length x.dst.c):=⟨h.cell 0,h.cell 1,h.cell 2,h.cell 3⟩
theorem iI.kl{x:iI}{W:World}{g:Nat}(h:ah W g 87 #[.string x.nm,.int .i64 x.net,.int .i64 x.dl,.int .i64 x.st]):W.cell? ⟨g,0,none⟩=some (.string x.nm)∧W.cell? ⟨g,1,none⟩=some (.int .i64 x.net)∧W.cell? ⟨g,2,none⟩=some (.int .i64 x.dl)∧W.cell? ⟨g,3,none⟩=some (.int .i64 x.st):=⟨h.cell 0,h.cell 1,h.cell 2,h.cell 3⟩
theorem aO.kl{x:aO}{W:World}{g:Nat}(h:ah W g 46 #[.string x.a,.string x.b,.int .i64 x.net,.int .i64 x.slow]):W.cell? ⟨g,0,none⟩=some (.string x.a)∧W.cell? ⟨g,1,none⟩=some (.string x.b)∧W.cell? ⟨g,2,none⟩=some (.int .i64 x.net)∧W.cell? ⟨g,3,none⟩=some (.int .i64 x.slow):=⟨h.cell 0,h.cell 1,h.cell 2,h.cell 3⟩
theorem fU.kl{x:fU}{W:World}{g:Nat}(h:ah W g 44 #[.string x.nm,.string x.src.m,.string x.src.p,.string x.src.o,.int .i64 x.lQ,.int .i64 x.mx,.slice x.dst.a x.dst.l.length x.dst.c]):W.cell? ⟨g,0,none⟩=some (.string x.nm)∧W.cell? ⟨g,1,none⟩=some (.string x.src.m)∧W.cell? ⟨g,2,none⟩=some (.string x.src.p)∧W.cell? ⟨g,3,none⟩=some (.string x.src.o)∧W.cell? ⟨g,4,none⟩=some (.int .i64 x.lQ)∧W.cell? ⟨g,5,none⟩=some (.int .i64 x.mx)∧W.cell? ⟨g,6,none⟩=some (.slice x.dst.a x.dst.l.length x.dst.c):=⟨h.cell 0,h.cell 1,h.cell 2,h.cell 3,h.cell 4,h.cell 5,h.cell 6⟩
theorem iK.kl{x:iK}{W:World}{g:Nat}(h:ah W g 89 #[.string x.m,.string x.p,.int .u8 x.yV,.int .u8 x.lv,.int .u8 x.dd]):W.cell? ⟨g,0,none⟩=some (.string x.m)∧W.cell? ⟨g,1,none⟩=some (.string x.p)∧W.cell? ⟨g,2,none⟩=some (.int .u8 x.yV)∧W.cell? ⟨g,3,none⟩=some (.int .u8 x.lv)∧W.cell? ⟨g,4,none⟩=some (.int .u8 x.dd):=⟨h.cell 0,h.cell 1,h.cell 2,h.cell 3,h.cell 4⟩
theorem lF.kl{x:lF}{W:World}{g:Nat}(h:ah W g 91 #[.string x.a,.int .i64 x.va,.string x.b,.int .i64 x.vb]):W.cell? ⟨g,0,none⟩=some (.string x.a)∧W.cell? ⟨g,1,none⟩=some (.int .i64 x.va)∧W.cell? ⟨g,2,none⟩=some (.string x.b)∧W.cell? ⟨g,3,none⟩=some (.int .i64 x.vb):=⟨h.cell 0,h.cell 1,h.cell 2,h.cell 3⟩
theorem jI.kl{x:jI}{W:World}{g:Nat}(h:ah W g 85 #[.string x.unit,.int .i64 x.code]):W.cell? ⟨g,0,none⟩=some (.string x.unit)∧W.cell? ⟨g,1,none⟩=some (.int .i64 x.code):=⟨h.cell 0,h.cell 1⟩
theorem fC.kl{x:fC}{W:World}{g:Nat}(h:ah W g 83 #[.string x.c.unit,.slice x.n.a x.n.n x.n.c,.slice x.x.a x.x.n x.x.c]):W.cell? ⟨g,0,none⟩=some (.string x.c.unit)∧W.cell? ⟨g,1,none⟩=some (.slice x.n.a x.n.n x.n.c)∧W.cell? ⟨g,2,none⟩=some (.slice x.x.a x.x.n x.x.c):=⟨h.cell 0,h.cell 1,h.cell 2⟩
theorem ay.kl{x:ay}{W:World}{g:Nat}(h:ah W g 31 #[.slice x.mods.a x.mods.l.length x.mods.c,.slice x.aj.a x.aj.l.length x.aj.c,.slice x.aP.a x.aP.l.length x.aP.c,.slice x.links.a x.links.l.length x.links.c,.slice x.aF.a x.aF.l.length x.aF.c,.slice x.bQ.a x.bQ.l.length x.bQ.c,.slice x.causes.a x.causes.l.length x.causes.c,.slice x.aA.a x.aA.l.length x.aA.c]):W.cell? ⟨g,0,none⟩=some (.slice x.mods.a x.mods.l.length x.mods.c)∧W.cell? ⟨g,1,none⟩=some (.slice x.aj.a x.aj.l.length x.aj.c)∧W.cell? ⟨g,2,none⟩=some (.slice x.aP.a x.aP.l.length x.aP.c)∧W.cell? ⟨g,3,none⟩=some (.slice x.links.a x.links.l.length x.links.c)∧W.cell? ⟨g,4,none⟩=some (.slice x.aF.a x.aF.l.length x.aF.c)∧W.cell? ⟨g,5,none⟩=some (.slice x.bQ.a x.bQ.l.length x.bQ.c)∧W.cell? ⟨g,6,none⟩=some (.slice x.causes.a x.causes.l.length x.causes.c)∧W.cell? ⟨g,7,none⟩=some (.slice x.aA.a x.aA.l.length x.aA.c):=⟨h.cell 0,h.cell 1,h.cell 2,h.cell 3,h.cell 4,h.cell 5,h.cell 6,h.cell 7⟩
theorem tkS{ops:Array Oper}{Q:Exit→Act→World→Prop}{S:World→Prop}{md:Region.Mode}{s:Nat}(i:Nat){oi:Oper}{v:Value}{fuel:Nat}{listed:Array Bool}{a:Act}{w:World}(hi:ops[i]?=some oi)(hS:S w)(hy:Region.wanted oi (yielded ops a.tmps)=true∧∀w,S w→(execOp a.eval oi).run pG w= .ok (.value v) w)
 (h:wpAnyS pG md ops Q S s fuel (listed.setIfInBounds i true) (a.put oi.dst v) w) (hs:Region.noSelect ops=true:=by kernel_rfl) (hf:Region.free md ops listed i=true:=by kernel_rfl) (hr:(Region.ready md ops listed).contains i=true:=by kernel_rfl) (hw:waits md ops (Dq md ops i) s i listed=true:=by kernel_rfl)
 (hQ:∀c a w,Q (.panic c) (a.put oi.dst v) w→Q (.panic c) a w:=by exact fun c a w h=>h):wpAnyS pG md ops Q S s (fuel+1) listed a w:=sO hi hs hf hr hw hQ (Or.inl hy) hS h
theorem tkY{q:Prop}(z:q:=by
 intro w hSw;first
 | obtain⟨zh,hS1,jY,CD,vw,CF,MF,Dr,FN,Vp,aNa,mA,aNb⟩:=hSw
 | obtain⟨zh,hS1,jY,CD,vw,CF,MF,Dr,FN,Vp⟩:=hSw
 | obtain⟨zh,hS1,jY,CD,vw,CF,MF,Dr,FN⟩:=hSw
 | obtain⟨zh,hS1,jY,CD,vw,CF,MF,Dr⟩:=hSw
 | obtain⟨zh,hS1,jY,CD,vw,CF,MF⟩:=hSw
 | obtain⟨zh,hS1,jY,CD,vw⟩:=hSw
 | obtain⟨zh,hS1,jY⟩:=hSw
 | obtain⟨zh,hS1⟩:=hSw
 exact gz):q:=z
theorem e0{p:Prop}(h:p:=by go_wp2_with fail;rw[←dV.out];go_ret;exact⟨by rw[HF.out];rfl,bt aV jH⟩):p:=h
theorem e1{p:Prop}(h:p:=by go_wp2;go_ret;exact⟨by rw[HF.out];rfl,bt aV fI⟩):p:=h
theorem e2{p:Prop}(h:p:=by go_wp2;go_ret;exact⟨by rw[HF.out];rfl,bt aV iF⟩):p:=h
theorem e3{p:Prop}(h:p:=by go_wp2;go_ret;exact⟨by rw[HF.out];rfl,bt aV pz⟩):p:=h
theorem e4{p:Prop}(h:p:=by go_wp2;go_ret;exact⟨by rw[HF.out];rfl,bt aV Fy⟩):p:=h
theorem e5{p:Prop}(h:p:=by go_wp2;go_ret;exact⟨by rw[HF.out];rfl,bt aV Md⟩):p:=h
theorem e6{p:Prop}(h:p:=by go_wp2;go_ret;exact⟨by rw[HF.out];rfl,bt aV WD⟩):p:=h
theorem e7{p:Prop}(h:p:=by go_wp2;go_ret;exact⟨by rw[HF.out];rfl,bt aV HY7⟩):p:=h
theorem e8{p:Prop}(h:p:=by go_wp2;go_ret;exact⟨by rw[HF.out];rfl,bt aV HY8⟩):p:=h
theorem e9{p:Prop}(h:p:=by go_wp2;go_ret;exact⟨by rw[HF.out];rfl,bt aV HY9⟩):p:=h
def wj(s:ByteArray)(t:Tok):Bool:=(t.kind==1)&&decide (t.text=s)
def Te(n:Int)(t:Tok):Bool:=(t.kind==2)&&VU t.text n
section
variable {g:Nat} {A:Option Addr} {c:Nat} {ts:List Tok} {now:Nat} {sz:Int}
theorem kV(s:ByteArray)(w:World)(h:gM w g A c ts now sz)(hl:ts.length≤100000)(ha:gZ ts now (wj s)=true):
 PC 200 #[.pointer (some ⟨g,0,none⟩)] w g A c ts sz (now+1) (.string s):=by
 obtain⟨hn,hP⟩:=gG ha;unfold wj at hP;simp only[Bool.and_eq_true,beq_iff_eq,decide_eq_true_eq]at hP;have:=aGX w h hn hl hP.1;rw[hP.2]at this;exact this
theorem iX(s:ByteArray)(w:World)(h:gM w g A c ts now sz)(hl:ts.length≤100000)(ha:gZ ts now (fun t=>dB t s)=true):
 Calls pG 198 #[.pointer (some ⟨g,0,none⟩),.string s] w fun e w'=>(∃v,e= .returned v)∧gM w' g A c ts (now+1) sz∧Gr (· =g) w w':=by
 obtain⟨hn,hP⟩:=gG ha;exact YX s w h hn hl hP
theorem Fm(s:ByteArray)(w:World)(h:gM w g A c ts now sz)(hl:ts.length≤100000)(ha:gZ ts now (fun t=>dB t s)=true):
 PC 195 #[.pointer (some ⟨g,0,none⟩),.string s] w g A c ts sz (now+1) (.bool true):=by
 obtain⟨hn,hP⟩:=gG ha;exact Rf s w h hn hl hP
theorem vg(s:ByteArray)(w:World)(h:gM w g A c ts now sz)(hl:ts.length≤100000)(ha:gZ ts now (fun t=> !dB t s)=true):
 CV 195 #[.pointer (some ⟨g,0,none⟩),.string s] w (.bool false):=by
 obtain⟨hn,hP⟩:=gG ha;exact EF s w h hn hl (by simpa using hP)
theorem aDD(s:ByteArray)(q:Bool)(w:World)(h:gM w g A c ts now sz)(hl:ts.length≤100000)(ha:gZ ts now (fun t=>dB t s==q)=true):
 CV 259 #[.pointer (some ⟨g,0,none⟩),.string s] w (.bool q):=by
 obtain⟨hn,hP⟩:=gG ha;have:=tJ s w h hn hl;rw[eq_of_beq hP]at this;exact this
theorem gY(s:ByteArray)(n:Int)(w:World)(h:gM w g A c ts now sz)(hl:ts.length≤100000)(ha:gZ ts now (fun t=>dB t s)=true)(hb:gZ ts (now+1) (Te n)=true):
 PC 202 #[.pointer (some ⟨g,0,none⟩),.string s] w g A c ts sz (now+2) (.int .i64 n):=by
 obtain⟨hn,hP⟩:=gG ha;obtain⟨hm,hQ⟩:=gG hb;unfold Te at hQ;simp only[Bool.and_eq_true,beq_iff_eq]at hQ;exact aCr s n w h hm hl hP hQ.1 hQ.2
def ZO(s x:ByteArray)(k:Nat):Bool:=decide (s.size≤1000)&&(match mK s 200 0 0 []with | none=>false | some l=>decide (k<100)&&decide (l[k]?=some x)&&(List.range k).all fun j=> !decide (l[j]?=some x))
theorem Ay(s x:ByteArray)(k:Nat)(w:World)(h:gM w g A c ts now sz)(hl:ts.length≤100000)(ha:gZ ts now (wj x)=true)(hp:ZO s x k=true):
 PC 262 #[.pointer (some ⟨g,0,none⟩),.string s] w g A c ts sz (now+1) (.int .u8 ((k+1:Nat):Int)):=by
 obtain⟨hn,hP⟩:=gG ha;unfold wj at hP;simp only[Bool.and_eq_true,beq_iff_eq,decide_eq_true_eq]at hP;unfold ZO at hp
 cases hs:mK s 200 0 0 []with
 | none=>rw[hs]at hp;simp at hp
 | some l=>
  rw[hs]at hp;simp only[Bool.and_eq_true,decide_eq_true_eq,List.all_eq_true,List.mem_range,Bool.not_eq_true',decide_eq_false_iff_not]at hp;obtain⟨h1,⟨h2,h3⟩,h4⟩:=hp;obtain⟨hk,hx⟩:=List.getElem?_eq_some_iff.1 h3;refine Y9 s l 200 k w h hn hl hP.1 h1 hs hk (fun j hj e=>h4 j hj ?_) h2 (hP.2.trans hx.symm);rw[List.getElem?_eq_getElem oz,e,hx]
theorem rP{f:FuncId}{args:Array Value}{w0 w:World}{p:Nat}{v:Value}{R:Ending→World→Prop}(hc:Hid (PC f args w g A c ts sz p v))(hG:Hid (Gr (· =g) w0 w))
 (k:∀w',Hid (gM w' g A c ts p sz)→Hid (Gr (· =g) w0 w')→R (.returned v) w'):Calls pG f args w R:=
 hc.out.mono fun e w' h=>by obtain⟨rfl,h1,h2⟩:=h;exact k w' (lz h1) (lz (hG.out.trans h2))
theorem Az{f:FuncId}{args:Array Value}{w0 w:World}{p:Nat}{R:Ending→World→Prop}(hc:Hid (Calls pG f args w fun e w'=>(∃v,e= .returned v)∧gM w' g A c ts p sz∧Gr (· =g) w w'))(hG:Hid (Gr (· =g) w0 w))
 (k:∀v w',Hid (gM w' g A c ts p sz)→Hid (Gr (· =g) w0 w')→R (.returned v) w'):Calls pG f args w R:=
 hc.out.mono fun e w' h=>by obtain⟨⟨v,rfl⟩,h1,h2⟩:=h;exact k v w' (lz h1) (lz (hG.out.trans h2))
theorem JL(x:ByteArray)(k:Nat)(w:World)(h:gM w g A c ts now sz)(hl:ts.length≤100000)(ha:gZ ts now (fun t=>dB t ⟨#[110,101,116]⟩)=true)(hb:gZ ts (now+1) (wj x)=true)(hp:ZO ⟨#[97,32,98]⟩ x k=true)(hk:k<2):
 PC 201 #[.pointer (some ⟨g,0,none⟩)] w g A c ts sz (now+2) (.int .i64 k):=by
 have hm:=lz (iX _ w h hl ha);have hc:=fun W (hW:gM W g A c ts (now+1) sz)=>Ay _ x k W hW hl hb hp
 have Hc:=lz hc;have hG:=lz (Gr.ak (X:=(· =g)) (Below.refl w.heap.size w));have hkk:k=0∨k=1:=by omega
 clear h ha hb hp hc hk;go_enter Tryz.func201,Tryz.ntmps201;go_wp2_with fail;refine Az hm hG fun v w1 HI1 Qe=> ?_
 go_wp2_with fail;refine rP (lz (Hc.out _ HI1.out)) Qe fun w2 HI2 C6=> ?_
 rcases hkk with rfl | rfl
 all_goals
  go_wp2;go_ret;exact⟨rfl,HI2.out,C6.out⟩
end
def Vk(ts:List Tok)(p:Nat)(x:bw):Bool:=gZ ts p (wj x.m)&&gZ ts (p+1) (fun t=>dB t ⟨#[46]⟩)&&gZ ts (p+2) (wj x.p)&&gZ ts (p+3) (fun t=>dB t ⟨#[46]⟩)&&gZ ts (p+4) (wj x.o)
section
variable {g:Nat} {A:Option Addr} {c:Nat} {ts:List Tok} {now:Nat} {sz:Int}
theorem ZP(x:bw)(w:World)(h:gM w g A c ts now sz)(hl:ts.length≤100000)(ha:Vk ts now x=true):
 PC 197 #[.pointer (some ⟨g,0,none⟩)] w g A c ts sz (now+5) x.val:=by
 unfold Vk at ha;simp only[Bool.and_eq_true]at ha;obtain⟨⟨⟨⟨a1,a2⟩,a3⟩,a4⟩,a5⟩:=ha;obtain⟨w0,hw0⟩:=ez (w.alloc (.cells #[.string ⟨#[]⟩,.string ⟨#[]⟩,.string ⟨#[]⟩] 41));have bW:Below w.heap.size w w0:=by rw[hw0];exact bN
 have jy:ah w0 w.heap.size 41 #[.string ⟨#[]⟩,.string ⟨#[]⟩,.string ⟨#[]⟩]:=by rw[hw0];exact ah.new w _ _
 have h1:=lz (kV x.m w0 (h.below bW) hl a1);have h2:=lz fun W (hW:gM W g A c ts (now+1) sz)=>iX ⟨#[46]⟩ W hW hl a2
 have h3:=lz fun W (hW:gM W g A c ts (now+2) sz)=>kV x.p W hW hl a3
 have h4:=lz fun W (hW:gM W g A c ts (now+3) sz)=>iX ⟨#[46]⟩ W hW hl a4
 have h5:=lz fun W (hW:gM W g A c ts (now+4) sz)=>kV x.o W hW hl a5
 have hG:=lz (Gr.ak (X:=(· =g)) (Below.refl w0.heap.size w0));have rT:=lz jy;have aV:=lz bW;have Mc:=lz hw0;have hlt:=h.lt;have sH:w.heap.size<w0.heap.size:=jy.lt;clear h a1 a2 a3 a4 a5 hw0 bW jy;go_enter Tryz.func197,Tryz.ntmps197;go_wp2_with fail;rw[←Mc.out];refine rP h1 hG fun w1 HI1 Qe=> ?_
 go_wp2_with fail;refine Az (lz (h2.out _ HI1.out)) Qe fun v2 w2 HI2 C6=> ?_
 go_wp2_with fail;refine rP (lz (h3.out _ HI2.out)) C6 fun w3 HI3 Qd=> ?_
 go_wp2_with fail;refine Az (lz (h4.out _ HI3.out)) Qd fun v4 w4 HI4 HG4=> ?_
 go_wp2_with fail;refine rP (lz (h5.out _ HI4.out)) HG4 fun w5 HI5 HG5=> ?_
 have hr5:ah w5 w.heap.size 41 #[.string ⟨#[]⟩,.string ⟨#[]⟩,.string ⟨#[]⟩]:=HG5.out.blk rT.out oz;clear h1 h2 h3 h4 h5 hG HI1 Qe HI2 C6 HI3 Qd HI4 HG4 Mc;have k0:=hr5.cell 0;have k1:=hr5.cell 1;have k2:=hr5.cell 2;have f0:=hr5.frozen 0;have f1:=hr5.frozen 1;have f2:=hr5.frozen 2;have FB:=lz ((Gr.ak (X:=(· =g)) aV.out).trans HG5.out);have Hr5:=lz hr5;clear hr5 rT HG5;go_wp2_with fail;have hz:ah (((w5.setCell ⟨w.heap.size,0,none⟩ (.string x.m)).setCell ⟨w.heap.size,1,none⟩ (.string x.p)).setCell ⟨w.heap.size,2,none⟩ (.string x.o)) w.heap.size 41 #[.string x.m,.string x.p,.string x.o]:=by
  simpa using((Hr5.out.bX 0 (.string x.m)).bX 1 (.string x.p)).bX 2 (.string x.o)
 have z0:=hz.cell 0;have z1:=hz.cell 1;have z2:=hz.cell 2;refine bodyPost_ret (v:=x.val) (by simp[results,Tryz.results197,go_sem,z0,z1,z2]) rfl ?_;exact⟨rfl,((HI5.out.far hlt _).far hlt _).far hlt _,((FB.out.far nL _).far nL _).far nL _⟩
def Tf(ts:List Tok)(p:Nat)(L:List bw):Bool:=(List.range L.length).all fun k=>(match L[k]? with | some x=>Vk ts (p+6*k) x | none=>false)&&gZ ts (p+6*k+5) (fun t=>dB t ⟨#[44]⟩==decide (k+1<L.length))
theorem ZQ{ts:List Tok}{p:Nat}{L:List bw}(h:Tf ts p L=true)(k:Nat)(hk:k<L.length):Vk ts (p+6*k) L[k]=true∧gZ ts (p+6*k+5) (fun t=>dB t ⟨#[44]⟩==decide (k+1<L.length))=true:=by
 unfold Tf at h;have:=List.all_eq_true.1 h k (List.mem_range.2 hk);rw[List.getElem?_eq_getElem hk]at this;simpa using this
def bw.cells(x:bw):List Value:= [.string x.m,.string x.p,.string x.o]
structure rQ(w:World)(g:Nat)(A:Option Addr)(c:Nat)(ts:List Tok)(sz:Int)(l:List bw)(v:Value)(p:Nat)(W:World):Prop where
 eX:gM W g A c ts p sz
 gr:Gr (· =g) w W
 own:W.ownsRow w.heap.size 41 3 v l.length (l.flatMap bw.cells)
theorem rQ.step{w W W':World}{l:List bw}{v:Value}{p p':Nat}(h:rQ w g A c ts sz l v p W)(hg:g<w.heap.size)(hI:gM W' g A c ts p' sz)(hG:Gr (· =g) W W'):rQ w g A c ts sz l v p' W':=
 ⟨hI,h.gr.trans hG,cO h.own hG (fun k hk e=>by have:=(h.own.lt k hk).1;omega)⟩
theorem rQ.add{w W W':World}{l:List bw}{v v':Value}{p:Nat}{o:Obj}(h:rQ w g A c ts sz l v p W)(x:bw)(hg:g<w.heap.size)(hown:W'.ownsRow w.heap.size 41 3 v' (l.length+1) (l.flatMap bw.cells++x.cells))(hG:(W.alloc o).grownBy W' v.ownBlock):
 rQ w g A c ts sz (l++ [x]) v' p W':=by
 have hb:Below W.heap.size W (W.alloc o):=bN;have h1:=h.step hg (h.eX.below hb) (Gr.ak hb);have hgr:Gr (fun k=>v.ownBlock=some k) (W.alloc o) W':=Gr.eO hG (fun k e=>e);have JQ:∀k,v.ownBlock=some k→w.heap.size≤k:=fun k hk=>(h1.own.lt k hk).1
 exact⟨h1.eX.kept hgr (fun k hk e=>by have:=JQ k e;omega),h1.gr.trans' hgr (fun k hk e=>by have:=JQ k e;omega),by simpa using hown⟩
theorem aHB:(pG.info? 41).map (fun i=>(i.zero,i.size,i.bytes))=some (some (.agg #[.string ⟨#[]⟩,.string ⟨#[]⟩,.string ⟨#[]⟩]),3,48):=by kernel_rfl
theorem aS{α:Type}(f:α→List Value)(n:Nat)(hf:∀x,(f x).length=n):∀(l:List α) (i j:Nat) (hi:i<l.length),j<n→(l.flatMap f)[i*n+j]?=(f l[i])[j]?
 | [],i,j,hi,_=>by simp at hi
 | x :: r,0,j,hi,hj=>by
  rw[List.flatMap_cons,List.getElem?_append_left (by rw[hf];omega)];simp
 | x :: r,i+1,j,hi,hj=>by
  rw[List.flatMap_cons,List.getElem?_append_right (by rw[hf,Nat.add_mul];omega),hf,show(i+1)*n+j-n=i*n+j by rw[Nat.add_mul];omega];exact aS f n hf r i j (by simpa using hi) hj
theorem L8{W:World}{base cp:Nat}{A:Option Addr}{l:List bw}(h:W.ownsRow base 41 3 (.slice A l.length cp) l.length (l.flatMap bw.cells)):jo W W.heap.size A l:=fun hn=>by
 obtain⟨b,cap,hv,_,hlt⟩:=h.form hn;have hA:A=some ⟨b,0,none⟩:=by injection hv
 subst hA;refine⟨b,0,rfl,hlt,fun i hi=> ?_⟩;have c0:=h.cells (g:=b) rfl _ _ (aS bw.cells 3 (fun _=>rfl) l i 0 hi oz);have c1:=h.cells (g:=b) rfl _ _ (aS bw.cells 3 (fun _=>rfl) l i 1 hi oz);have c2:=h.cells (g:=b) rfl _ _ (aS bw.cells 3 (fun _=>rfl) l i 2 hi oz);rw[eY]at c0 c1 c2;simpa using ai c0 (ai c1 c2)
theorem aHC(L:List bw)(w:World)(h:gM w g A c ts now sz)(hl:ts.length≤100000)(ha:Tf ts now L=true)(hL:0<L.length)(hL2:L.length≤1000):
 Calls pG 199 #[.pointer (some ⟨g,0,none⟩)] w fun e w'=>∃A' c',e= .returned (.slice A' L.length c')∧rQ w g A c ts sz L (.slice A' L.length c') (now+6*L.length-1) w':=by
 have hat:=ZQ ha;have h1:=lz (ZP L[0] w h hl (by simpa using(hat 0 hL).1));have Vw:=lz hat;have hg:=h.lt;have hG:=lz (Gr.ak (X:=(· =g)) (Below.refl w.heap.size w));obtain⟨i0,lX,hz0,hz1,hz2⟩:=info_parts aHB;clear hat h ha;go_enter Tryz.func199,Tryz.ntmps199;go_wp2_with fail;refine rP h1 hG fun w1 HI1 Qe=> ?_
 have hS1:rQ w g A c ts sz (L.take 1) (.slice (some ⟨w1.heap.size,0,none⟩) 1 1) (now+5) (w1.alloc (.cells #[.string L[0].m,.string L[0].p,.string L[0].o] 41)):=by
  have hb:Below w1.heap.size w1 (w1.alloc (.cells #[.string L[0].m,.string L[0].p,.string L[0].o] 41)):=bN;have ht:L.take 1= [L[0]]:=by
   rw[List.take_succ_eq_append_getElem hL];rfl
  refine⟨HI1.out.below hb,Qe.out.trans (Gr.ak hb),?_⟩;rw[ht];exact⟨rfl,.inr ⟨w1.heap.size,1,_,rfl,Qe.out.size,ah.new w1 _ _,nL,dz,rfl,rfl⟩⟩
 have sE:=lz hS1;clear hS1 HI1 Qe h1 hG;go_wp2;go_loopw [3] (fun v wr=>∃k:Nat,0<k∧k≤L.length∧rQ w g A c ts sz (L.take k) v (now+6*k-1) wr) (fun v wr=>2*(ts.length+1)-jZ g wr)
 case atStart=>exact⟨1,oz,oz,sE.out⟩
 case round=>
  clear sE;obtain⟨k,Vt,hkl,hS⟩:=hrel;obtain⟨l,hlk⟩:=ez (L.take k);rw[←hlk]at hS;have XK:l.length=k:=by rw[hlk];simp;omega
  have Hlk:=lz hlk;have Hll:=lz XK;obtain⟨Av,cv,rfl,_⟩:=bp hS.own;have HS:=lz hS;have hab:=(Vw.out (k-1) oz).2;rw[show now+6*(k-1)+5=now+6*k-1 from by omega,show k-1+1=k from by omega]at hab;have wW:=hS.eX.jZ;clear hS hlk XK;by_cases iJ:k=L.length
  ·rw[show decide (k<L.length)=false from by simp[iJ]]at hab
   have jT:=lz (vg ⟨#[44]⟩ wr HS.out.eX hl (by
    obtain⟨hn,hP⟩:=gG hab;unfold gZ;rw[List.getElem?_eq_getElem hn];simpa using hP))
   clear hab;go_wp2_with fail;refine jT.out.mono ?_;rintro e w2 ⟨rfl,hb⟩;have hR:=lz (HS.out.step hg (HS.out.eX.below hb) (Gr.ak hb));clear hb jT HS;go_wp2;go_ret;refine⟨Av,cv,by rw[←iJ,←Hll.out];rfl,?_⟩;have:=hR.out;rw[Hlk.out,iJ,List.take_length]at this;exact this
  ·have hlt:k<L.length:=by omega
   rw[show decide (k<L.length)=true from by simp[hlt]]at hab;have iw:=lz (Fm ⟨#[44]⟩ wr HS.out.eX hl (by
    obtain⟨hn,hP⟩:=gG hab;unfold gZ;rw[List.getElem?_eq_getElem hn];simpa using hP))
   have hrf:=lz fun W (hW:gM W g A c ts (now+6*k-1+1) sz)=>ZP L[k] W hW hl (by rw[show now+6*k-1+1=now+6*k from by omega];exact(Vw.out k hlt).1)
   have hG:=lz (Gr.ak (X:=(· =g)) (Below.refl wr.heap.size wr));clear hab;go_wp2_with fail;refine rP iw hG fun w2 HI2 C6=> ?_
   go_wp2_with fail;refine rP (lz (hrf.out _ HI2.out)) C6 fun w3 HI3 Qd=> ?_
   have pP:=lz (HS.out.step hg HI3.out Qd.out);clear iw hrf hG HI2 C6 HI3 Qd HS;go_wp2_with (at_builtin;refine wpList_append_own _ rfl (.tmp 9) (.tmp 12) 42 rfl w.heap.size 41 i0 (.agg #[.string ⟨#[]⟩,.string ⟨#[]⟩,.string ⟨#[]⟩]) 3 48 Tryz.underlying42 lX hz0 hz1 hz2 rfl dz _ _ _ rfl (pP.out.own.alloc _) ⟨w3.heap.size,0,none⟩ 1 1 [.string L[k].m,.string L[k].p,.string L[k].o] rfl rfl ?c1 ?c2 ?c3 ?c4 ?c5 ?_)
   case c1=>
    intro j u' hj;rw[bO,Nat.zero_add,(ah.new w3 41 #[.string L[k].m,.string L[k].p,.string L[k].o]).cell j];simpa using hj
   case c2=>intro u' kQ;simp at kQ;rcases kQ with rfl | rfl | rfl<;>rfl
   case c3=>have:=Hll.out;unfold maxLen;omega
   case c4=>have:=Hll.out;omega
   case c5=>have:=pP.out.gr.size;simp;omega
   intro v5 w5 dQ mE _;have HR:=lz (pP.out.add L[k] hg dQ mE);clear dQ mE pP;go_wp2;go_roundw
   case rel=>
    refine⟨k+1,oz,oz,?_⟩;have:=HR.out;rw[Hlk.out,←List.take_succ_eq_append_getElem hlt,show now+6*k-1+1+5=now+6*(k+1)-1 from by omega]at this;exact this
   case measure=>
    have h1:=HR.out.eX.jZ;rw[wW,h1];have h2:=(Vw.out k hlt).1;unfold Vk at h2;simp only[Bool.and_eq_true]at h2;obtain⟨hn,_⟩:=gG h2.2;omega
end
def L9(ts:List Tok)(p:Nat)(x:aM):Bool:=gZ ts p (fun t=>dB t ⟨#[111,117,116]⟩==x.out)&&gZ ts p (fun t=>dB t ⟨#[105,110]⟩== !x.out)&&gZ ts (p+1) (wj x.nm)&&gZ ts (p+2) (wj ⟨#[115,97,109,112,108,105,110,103]⟩)&&
 gZ ts (p+3) (fun t=>dB t ⟨#[115,105,122,101]⟩)&&gZ ts (p+4) (Te x.sz)&&gZ ts (p+5) (fun t=>dB t ⟨#[114,101,102,114,101,115,104]⟩)&&gZ ts (p+6) (Te x.rf)&&gZ ts (p+7) (fun t=>dB t ⟨#[59]⟩)&&decide (x.kd=1)&&decide (x.dp=0)
section
variable {g:Nat} {A:Option Addr} {c:Nat} {ts:List Tok} {now:Nat} {sz:Int}
theorem ZR(s:ByteArray)(q:Bool)(w:World)(h:gM w g A c ts now sz)(hl:ts.length≤100000)(ha:gZ ts now (fun t=>dB t s==q)=true):
 PC 195 #[.pointer (some ⟨g,0,none⟩),.string s] w g A c ts sz (if q then now+1 else now) (.bool q):=by
 obtain⟨hn,hP⟩:=gG ha
 cases q with
 | true=>exact Rf s w h hn hl (by simpa using hP)
 | false=>exact(EF s w h hn hl (by simpa using hP)).mono fun e w' ⟨e1,hb⟩=>⟨e1,h.below hb,Gr.ak hb⟩
structure eW(w:World)(g Bc:Nat)(A:Option Addr)(c:Nat)(ts:List Tok)(sz:Int)(t:TypeId)(rs cs:Array Value)(p:Nat)(W:World):Prop where
 eX:gM W g A c ts p sz
 gr:Gr (· =g) w W
 hg:g<w.heap.size
 res:ah W w.heap.size t rs
 blk:ah W Bc t cs
 Pp:w.heap.size<Bc
theorem eW.next{w W W':World}{Bc p p':Nat}{t:TypeId}{rs cs:Array Value}(h:eW w g Bc A c ts sz t rs cs p W)(hI:gM W' g A c ts p' sz)(hG:Gr (· =g) W W'):eW w g Bc A c ts sz t rs cs p' W':=
 ⟨hI,h.gr.trans hG,h.hg,hG.blk h.res (by have:=h.hg;omega),hG.blk h.blk (by have:=h.hg;have:=h.Pp;omega),h.Pp⟩
theorem eW.put{w W:World}{Bc p:Nat}{t:TypeId}{rs cs:Array Value}(h:eW w g Bc A c ts sz t rs cs p W)(i:Nat)(v:Value):eW w g Bc A c ts sz t rs (cs.setIfInBounds i v) p (W.setCell ⟨Bc,i,none⟩ v):=
 ⟨h.eX.far (show g<Bc by have:=h.hg;have:=h.Pp;omega) _,h.gr.far (show w.heap.size≤Bc by have:=h.Pp;omega) _,h.hg,h.res.far (show w.heap.size≠Bc by have:=h.Pp;omega) _,h.blk.bX i v,h.Pp⟩
theorem jD{f:FuncId}{args:Array Value}{w W:World}{Bc p p':Nat}{t:TypeId}{rs cs:Array Value}{v:Value}{R:Ending→World→Prop}(h:Hid (eW w g Bc A c ts sz t rs cs p W))(hc:PC f args W g A c ts sz p' v)
 (k:∀W',Hid (eW w g Bc A c ts sz t rs cs p' W')→R (.returned v) W'):Calls pG f args W R:=
 hc.mono fun e W' hh=>by obtain⟨rfl,h1,h2⟩:=hh;exact k W' (lz (h.out.next h1 h2))
theorem qQ{f:FuncId}{args:Array Value}{w W:World}{Bc p p':Nat}{t:TypeId}{rs cs:Array Value}{R:Ending→World→Prop}(h:Hid (eW w g Bc A c ts sz t rs cs p W))(hc:Calls pG f args W fun e w'=>(∃v,e= .returned v)∧gM w' g A c ts p' sz∧Gr (· =g) W w')
 (k:∀v W',Hid (eW w g Bc A c ts sz t rs cs p' W')→R (.returned v) W'):Calls pG f args W R:=
 hc.mono fun e W' hh=>by obtain⟨⟨v,rfl⟩,h1,h2⟩:=hh;exact k v W' (lz (h.out.next h1 h2))
theorem eW.kb{w W:World}{Bc p:Nat}{t:TypeId}{rs cs:Array Value}(h:Hid (eW w g Bc A c ts sz t rs cs p W)):(∀i,W.cell? ⟨Bc,i,none⟩=cs[i]?)∧(∀i,W.frozen? ⟨Bc,i,none⟩=false):=⟨h.out.blk.cell,h.out.blk.frozen⟩
theorem ZS(x:aM)(w:World)(h:gM w g A c ts now sz)(hl:ts.length≤100000)(ha:L9 ts now x=true):
 PC 295 #[.pointer (some ⟨g,0,none⟩)] w g A c ts sz (now+8) x.val:=by
 unfold L9 at ha;simp only[Bool.and_eq_true,decide_eq_true_eq]at ha;obtain⟨⟨⟨⟨⟨⟨⟨⟨⟨⟨a1,b1⟩,a2⟩,a3⟩,a4⟩,a5⟩,a6⟩,a7⟩,a8⟩,QG⟩,hdp⟩:=ha;obtain⟨nm,kd,out,Tg,dp,rf⟩:=x;dsimp only at a1 b1 a2 a3 a4 a5 a6 a7 a8 QG hdp ⊢;subst QG hdp;have hw0:Below w.heap.size w (w.alloc (.cells #[.string ⟨#[]⟩,.int .u8 0,.bool false,.int .i64 0,.int .i64 0,.int .i64 0] 73)):=bN;obtain⟨w0,hw⟩:=ez (w.alloc (.cells #[.string ⟨#[]⟩,.int .u8 0,.bool false,.int .i64 0,.int .i64 0,.int .i64 0] 73));have jy:ah w0 w.heap.size 73 #[.string ⟨#[]⟩,.int .u8 0,.bool false,.int .i64 0,.int .i64 0,.int .i64 0]:=by rw[hw];exact ah.new w _ _
 rw[←hw]at hw0;have h1:=lz (ZR ⟨#[111,117,116]⟩ out w0 (h.below hw0) hl a1);have rT:=lz jy;have aV:=lz hw0;have Mc:=lz hw;have hlt:=h.lt;have HA:=lz (ai b1 (ai a2 (ai a3 (ai a4 (ai a5 (ai a6 (ai a7 a8)))))));clear h a1 b1 a2 a3 a4 a5 a6 a7 a8 hw hw0 jy;go_enter Tryz.func295,Tryz.ntmps295;go_wp2_with fail;rw[←Mc.out];refine h1.out.mono ?_;rintro e w1 ⟨rfl,PK,sK⟩;obtain⟨y,hy⟩:=ez (w1.alloc (.cells #[.string ⟨#[]⟩,.int .u8 0,.bool out,.int .i64 0,.int .i64 0,.int .i64 0] 73));have hS:eW w g w1.heap.size A c ts sz 73 #[.string ⟨#[]⟩,.int .u8 0,.bool false,.int .i64 0,.int .i64 0,.int .i64 0] #[.string ⟨#[]⟩,.int .u8 0,.bool out,.int .i64 0,.int .i64 0,.int .i64 0] (if out then now+1 else now) y:=by
  have hB:Below w1.heap.size w1 y:=by rw[hy];exact bN
  have hs:w.heap.size<w1.heap.size:=Nat.lt_of_lt_of_le rT.out.lt sK.size;exact⟨PK.below hB,((Gr.ak aV.out).trans sK).trans (Gr.ak hB),hlt,(sK.blk rT.out oz).below hB hs,by rw[hy];exact ah.new w1 _ _,hs⟩
 have HS:=lz hS;have Hy:=lz hy;clear hS PK sK h1 hy rT aV Mc
 cases out with
 | true=>
  have k2:y.cell? ⟨w1.heap.size,2,none⟩=some (.bool true):=(eW.kb HS).1 2;go_wp2_with fail;rw[←Hy.out];have sE:=HS;clear HS Hy;refine jD sE (kV nm _ sE.out.eX hl HA.out.2.1) fun W2 sC=> ?_
  have k2:W2.cell? ⟨w1.heap.size,0,none⟩=some (.string ⟨#[]⟩):=(eW.kb sC).1 0;have f2:W2.frozen? ⟨w1.heap.size,0,none⟩=false:=(eW.kb sC).2 0;clear sE;go_wp2_with fail;have wg:=lz (sC.out.put 0 (.string nm));refine jD wg (Ay _ _ 0 _ wg.out.eX hl HA.out.2.2.1 kz) fun W3 pP=> ?_
  clear k2 f2 sC wg;have k3:W3.cell? ⟨w1.heap.size,1,none⟩=some (.int .u8 0):=(eW.kb pP).1 1;have f3:W3.frozen? ⟨w1.heap.size,1,none⟩=false:=(eW.kb pP).2 1;go_wp2_with fail;have wh:=lz (pP.out.put 1 (.int .u8 ((0+1:Nat):Int)));refine jD wh (gY _ Tg _ wh.out.eX hl HA.out.2.2.2.1 HA.out.2.2.2.2.1) fun W4 sD=> ?_
  clear k3 f3 pP wh;have k4:W4.cell? ⟨w1.heap.size,3,none⟩=some (.int .i64 0):=(eW.kb sD).1 3;have f4:W4.frozen? ⟨w1.heap.size,3,none⟩=false:=(eW.kb sD).2 3;have kk:W4.cell? ⟨w1.heap.size,1,none⟩=some (.int .u8 1):=(eW.kb sD).1 1;go_wp2_with fail;have Fo:=lz (sD.out.put 3 (.int .i64 Tg));refine jD Fo (gY _ rf _ Fo.out.eX hl HA.out.2.2.2.2.2.1 HA.out.2.2.2.2.2.2.1) fun W5 qu=> ?_
  clear k4 f4 kk sD Fo;have k5:W5.cell? ⟨w1.heap.size,5,none⟩=some (.int .i64 0):=(eW.kb qu).1 5;have f5:W5.frozen? ⟨w1.heap.size,5,none⟩=false:=(eW.kb qu).2 5;go_wp2_with fail;have Rw:=lz (qu.out.put 5 (.int .i64 rf));refine qQ Rw (iX _ _ Rw.out.eX hl HA.out.2.2.2.2.2.2.2) fun v6 W6 nN=> ?_
  clear k5 f5 qu Rw;have k0:W6.cell? ⟨w1.heap.size,0,none⟩=some (.string nm):=(eW.kb nN).1 0;have k1:W6.cell? ⟨w1.heap.size,1,none⟩=some (.int .u8 1):=(eW.kb nN).1 1;have k2:W6.cell? ⟨w1.heap.size,2,none⟩=some (.bool true):=(eW.kb nN).1 2;have k3:W6.cell? ⟨w1.heap.size,3,none⟩=some (.int .i64 Tg):=(eW.kb nN).1 3;have k4:W6.cell? ⟨w1.heap.size,4,none⟩=some (.int .i64 0):=(eW.kb nN).1 4;have k5:W6.cell? ⟨w1.heap.size,5,none⟩=some (.int .i64 rf):=(eW.kb nN).1 5;have r0:=nN.out.res.cell 0;have r1:=nN.out.res.cell 1;have r2:=nN.out.res.cell 2;have r3:=nN.out.res.cell 3;have r4:=nN.out.res.cell 4;have r5:=nN.out.res.cell 5;have f0:=nN.out.res.frozen 0;have f1:=nN.out.res.frozen 1;have f2:=nN.out.res.frozen 2;have f3:=nN.out.res.frozen 3;have f4:=nN.out.res.frozen 4;have f5:=nN.out.res.frozen 5;go_wp2_with fail;have hz:ah ((((((W6.setCell ⟨w.heap.size,0,none⟩ (.string nm)).setCell ⟨w.heap.size,1,none⟩ (.int .u8 1)).setCell ⟨w.heap.size,2,none⟩ (.bool true)).setCell ⟨w.heap.size,3,none⟩ (.int .i64 Tg)).setCell ⟨w.heap.size,4,none⟩ (.int .i64 0)).setCell ⟨w.heap.size,5,none⟩ (.int .i64 rf)) w.heap.size 73 #[.string nm,.int .u8 1,.bool true,.int .i64 Tg,.int .i64 0,.int .i64 rf]:=by simpa using((((((nN.out.res.bX 0 (.string nm)).bX 1 (.int .u8 1)).bX 2 (.bool true)).bX 3 (.int .i64 Tg)).bX 4 (.int .i64 0)).bX 5 (.int .i64 rf))
  have z0:=hz.cell 0;have z1:=hz.cell 1;have z2:=hz.cell 2;have z3:=hz.cell 3;have z4:=hz.cell 4;have z5:=hz.cell 5;refine bodyPost_ret (v:= .agg #[.string nm,.int .u8 1,.bool true,.int .i64 Tg,.int .i64 0,.int .i64 rf]) (by simp[results,Tryz.results295,go_sem,z0,z1,z2,z3,z4,z5]) rfl ?_;exact⟨rfl,((((((nN.out.eX.far (show g<w.heap.size from hlt) _).far (show g<w.heap.size from hlt) _).far (show g<w.heap.size from hlt) _).far (show g<w.heap.size from hlt) _).far (show g<w.heap.size from hlt) _).far (show g<w.heap.size from hlt) _),((((((nN.out.gr.far nL _).far nL _).far nL _).far nL _).far nL _).far nL _)⟩
 | false=>
  have k2:y.cell? ⟨w1.heap.size,2,none⟩=some (.bool false):=(eW.kb HS).1 2;go_wp2_with fail;rw[←Hy.out];refine qQ HS (iX _ _ HS.out.eX hl (by simpa using HA.out.1)) fun v1 W1 sE=> ?_
  clear HS Hy k2;go_wp2_with fail;refine jD sE (kV nm _ sE.out.eX hl HA.out.2.1) fun W2 sC=> ?_
  have k2:W2.cell? ⟨w1.heap.size,0,none⟩=some (.string ⟨#[]⟩):=(eW.kb sC).1 0;have f2:W2.frozen? ⟨w1.heap.size,0,none⟩=false:=(eW.kb sC).2 0;clear sE;go_wp2_with fail;have wg:=lz (sC.out.put 0 (.string nm));refine jD wg (Ay _ _ 0 _ wg.out.eX hl HA.out.2.2.1 kz) fun W3 pP=> ?_
  clear k2 f2 sC wg;have k3:W3.cell? ⟨w1.heap.size,1,none⟩=some (.int .u8 0):=(eW.kb pP).1 1;have f3:W3.frozen? ⟨w1.heap.size,1,none⟩=false:=(eW.kb pP).2 1;go_wp2_with fail;have wh:=lz (pP.out.put 1 (.int .u8 ((0+1:Nat):Int)));refine jD wh (gY _ Tg _ wh.out.eX hl HA.out.2.2.2.1 HA.out.2.2.2.2.1) fun W4 sD=> ?_
  clear k3 f3 pP wh;have k4:W4.cell? ⟨w1.heap.size,3,none⟩=some (.int .i64 0):=(eW.kb sD).1 3;have f4:W4.frozen? ⟨w1.heap.size,3,none⟩=false:=(eW.kb sD).2 3;have kk:W4.cell? ⟨w1.heap.size,1,none⟩=some (.int .u8 1):=(eW.kb sD).1 1;go_wp2_with fail;have Fo:=lz (sD.out.put 3 (.int .i64 Tg));refine jD Fo (gY _ rf _ Fo.out.eX hl HA.out.2.2.2.2.2.1 HA.out.2.2.2.2.2.2.1) fun W5 qu=> ?_
  clear k4 f4 kk sD Fo;have k5:W5.cell? ⟨w1.heap.size,5,none⟩=some (.int .i64 0):=(eW.kb qu).1 5;have f5:W5.frozen? ⟨w1.heap.size,5,none⟩=false:=(eW.kb qu).2 5;go_wp2_with fail;have Rw:=lz (qu.out.put 5 (.int .i64 rf));refine qQ Rw (iX _ _ Rw.out.eX hl HA.out.2.2.2.2.2.2.2) fun v6 W6 nN=> ?_
  clear k5 f5 qu Rw;have k0:W6.cell? ⟨w1.heap.size,0,none⟩=some (.string nm):=(eW.kb nN).1 0;have k1:W6.cell? ⟨w1.heap.size,1,none⟩=some (.int .u8 1):=(eW.kb nN).1 1;have k2:W6.cell? ⟨w1.heap.size,2,none⟩=some (.bool false):=(eW.kb nN).1 2;have k3:W6.cell? ⟨w1.heap.size,3,none⟩=some (.int .i64 Tg):=(eW.kb nN).1 3;have k4:W6.cell? ⟨w1.heap.size,4,none⟩=some (.int .i64 0):=(eW.kb nN).1 4;have k5:W6.cell? ⟨w1.heap.size,5,none⟩=some (.int .i64 rf):=(eW.kb nN).1 5;have r0:=nN.out.res.cell 0;have r1:=nN.out.res.cell 1;have r2:=nN.out.res.cell 2;have r3:=nN.out.res.cell 3;have r4:=nN.out.res.cell 4;have r5:=nN.out.res.cell 5;have f0:=nN.out.res.frozen 0;have f1:=nN.out.res.frozen 1;have f2:=nN.out.res.frozen 2;have f3:=nN.out.res.frozen 3;have f4:=nN.out.res.frozen 4;have f5:=nN.out.res.frozen 5;go_wp2_with fail;have hz:ah ((((((W6.setCell ⟨w.heap.size,0,none⟩ (.string nm)).setCell ⟨w.heap.size,1,none⟩ (.int .u8 1)).setCell ⟨w.heap.size,2,none⟩ (.bool false)).setCell ⟨w.heap.size,3,none⟩ (.int .i64 Tg)).setCell ⟨w.heap.size,4,none⟩ (.int .i64 0)).setCell ⟨w.heap.size,5,none⟩ (.int .i64 rf)) w.heap.size 73 #[.string nm,.int .u8 1,.bool false,.int .i64 Tg,.int .i64 0,.int .i64 rf]:=by simpa using((((((nN.out.res.bX 0 (.string nm)).bX 1 (.int .u8 1)).bX 2 (.bool false)).bX 3 (.int .i64 Tg)).bX 4 (.int .i64 0)).bX 5 (.int .i64 rf))
  have z0:=hz.cell 0;have z1:=hz.cell 1;have z2:=hz.cell 2;have z3:=hz.cell 3;have z4:=hz.cell 4;have z5:=hz.cell 5;refine bodyPost_ret (v:= .agg #[.string nm,.int .u8 1,.bool false,.int .i64 Tg,.int .i64 0,.int .i64 rf]) (by simp[results,Tryz.results295,go_sem,z0,z1,z2,z3,z4,z5]) rfl ?_;exact⟨rfl,((((((nN.out.eX.far (show g<w.heap.size from hlt) _).far (show g<w.heap.size from hlt) _).far (show g<w.heap.size from hlt) _).far (show g<w.heap.size from hlt) _).far (show g<w.heap.size from hlt) _).far (show g<w.heap.size from hlt) _),((((((nN.out.gr.far nL _).far nL _).far nL _).far nL _).far nL _).far nL _)⟩
end
def aM.cells(x:aM):List Value:= [.string x.nm,.int .u8 x.kd,.bool x.out,.int .i64 x.sz,.int .i64 x.dp,.int .i64 x.rf]
def ZT(t:Tok):Bool:=(!dB t ⟨#[125]⟩)&&(!dB t ⟨#[115,101,109,97,115]⟩)&&(!dB t ⟨#[98,117,102,115]⟩)&&(!dB t ⟨#[101,118,101,110,116,115]⟩)&&(!dB t ⟨#[98,111,97,114,100,115]⟩)&&(!dB t ⟨#[112,114,111,99]⟩)
def Ma(ts:List Tok)(p:Nat)(L:List aM):Bool:=(List.range L.length).all fun k=>(match L[k]? with | some x=>L9 ts (p+8*k) x | none=>false)&&gZ ts (p+8*k) ZT
theorem Rx{ts:List Tok}{p:Nat}{L:List aM}(h:Ma ts p L=true)(k:Nat)(hk:k<L.length):L9 ts (p+8*k) L[k]=true∧gZ ts (p+8*k) ZT=true:=by
 unfold Ma at h;have:=List.all_eq_true.1 h k (List.mem_range.2 hk);rw[List.getElem?_eq_getElem hk]at this;simpa using this
def Ry(ts:List Tok)(p:Nat)(x:aC):Bool:=gZ ts p (wj x.nm)&&gZ ts (p+1) (fun t=>dB t ⟨#[112,101,114,105,111,100]⟩)&&gZ ts (p+2) (Te x.pe)&&gZ ts (p+3) (fun t=>dB t ⟨#[108,101,110,103,116,104]⟩)&&gZ ts (p+4) (Te x.le)&&
 gZ ts (p+5) (fun t=>dB t ⟨#[109,101,109]⟩)&&gZ ts (p+6) (Te x.mem)&&gZ ts (p+7) (fun t=>dB t ⟨#[123]⟩)&&Ma ts (p+8) x.aq.l&&gZ ts (p+8+8*x.aq.l.length) (fun t=>dB t ⟨#[125]⟩)
abbrev ZU(nm:ByteArray)(pe le mem:Int)(v:Value):Array Value:= #[.string nm,.int .i64 pe,.int .i64 le,.int .i64 mem,.slice none 0 0,.int .i64 0,.int .i64 0,.slice none 0 0,v,.slice none 0 0]
theorem aHD:(pG.info? 73).map (fun i=>(i.zero,i.size,i.bytes))=some (some (.agg #[.string ⟨#[]⟩,.int .u8 0,.bool false,.int .i64 0,.int .i64 0,.int .i64 0]),6,48):=by kernel_rfl
section
variable {g:Nat} {A:Option Addr} {c:Nat} {ts:List Tok} {now:Nat} {sz:Int}
structure iA(w:World)(g Bc:Nat)(A:Option Addr)(c:Nat)(ts:List Tok)(sz:Int)(t:TypeId)(rs cs:Array Value)(e n:Nat)(v:Value)(m:Nat)(xs:List Value)(p:Nat)(W:World):Prop where
 po:eW w g Bc A c ts sz t rs cs p W
 own:W.ownsRow w.heap.size e n v m xs
theorem iA.next{w W W':World}{Bc e n m p p':Nat}{t:TypeId}{rs cs:Array Value}{v:Value}{xs:List Value}(h:iA w g Bc A c ts sz t rs cs e n v m xs p W)(hI:gM W' g A c ts p' sz)(hG:Gr (· =g) W W'):iA w g Bc A c ts sz t rs cs e n v m xs p' W':=
 ⟨h.po.next hI hG,cO h.own hG (fun k hk e=>by have:=(h.own.lt k hk).1;have:=h.po.hg;omega)⟩
theorem iA.below{w W W':World}{Bc e n m p:Nat}{t:TypeId}{rs cs:Array Value}{v:Value}{xs:List Value}(h:iA w g Bc A c ts sz t rs cs e n v m xs p W)(hb:Below W.heap.size W W'):iA w g Bc A c ts sz t rs cs e n v m xs p W':=h.next (h.po.eX.below hb) (Gr.ak hb)
theorem jR{f:FuncId}{args:Array Value}{w W:World}{Bc e n m p:Nat}{t:TypeId}{rs cs:Array Value}{u v:Value}{xs:List Value}{R:Ending→World→Prop}(h:Hid (iA w g Bc A c ts sz t rs cs e n v m xs p W))(hc:CV f args W u)
 (k:∀W',Hid (iA w g Bc A c ts sz t rs cs e n v m xs p W')→R (.returned u) W'):Calls pG f args W R:=
 hc.mono fun e W' hh=>by obtain⟨rfl,h1⟩:=hh;exact k W' (lz (h.out.below h1))
theorem iA.grow{w W W':World}{Bc e n m p:Nat}{t:TypeId}{rs cs:Array Value}{v v':Value}{xs ys:List Value}{o:Obj}(h:iA w g Bc A c ts sz t rs cs e n v m xs p W)(hown:W'.ownsRow w.heap.size e n v' (m+1) ys)(hG:(W.alloc o).grownBy W' v.ownBlock)(hne:e≠t):
 iA w g Bc A c ts sz t rs cs e n v' (m+1) ys p W':=by
 have h1:=h.below (W':=W.alloc o) (bN);have hgr:Gr (fun k=>v.ownBlock=some k) (W.alloc o) W':=Gr.eO hG (fun k e=>e);have JQ:∀k,v.ownBlock=some k→w.heap.size≤k:=fun k hk=>(h1.own.lt k hk).1
 have wu:=h.po.hg;exact⟨⟨h1.po.eX.kept hgr (fun k hk e=>by have:=JQ k e;omega),h1.po.gr.trans' hgr (fun k hk e=>by have:=JQ k e;omega),wu,hgr.blk h1.po.res (aW h1.own h1.po.res hne),hgr.blk h1.po.blk (aW h1.own h1.po.blk hne),h1.po.Pp⟩,hown⟩
theorem iA.put{w W:World}{Bc e n m p:Nat}{t:TypeId}{rs cs:Array Value}{v:Value}{xs:List Value}(h:iA w g Bc A c ts sz t rs cs e n v m xs p W)(i:Nat)(u:Value)(hne:e≠t):iA w g Bc A c ts sz t rs (cs.setIfInBounds i u) e n v m xs p (W.setCell ⟨Bc,i,none⟩ u):=
 ⟨h.po.put i u,cO h.own (Gr.setCell (X:=(· =Bc)) _ _ _ rfl) (fun k hk e=>aW h.own h.po.blk hne (e▸hk))⟩
theorem eW.sJ{w W:World}{Bc p:Nat}{t:TypeId}{rs cs:Array Value}(h:eW w g Bc A c ts sz t rs cs p W)(i:Nat)(u:Value):eW w g Bc A c ts sz t (rs.setIfInBounds i u) cs p (W.setCell ⟨w.heap.size,i,none⟩ u):=
 ⟨h.eX.far (show g<w.heap.size from h.hg) _,h.gr.far nL _,h.hg,h.res.bX i u,h.blk.far (show Bc≠w.heap.size by have:=h.Pp;omega) _,h.Pp⟩
theorem iA.sJ{w W:World}{Bc e n m p:Nat}{t:TypeId}{rs cs:Array Value}{v:Value}{xs:List Value}(h:iA w g Bc A c ts sz t rs cs e n v m xs p W)(hne:e≠t)(i:Nat)(u:Value):iA w g Bc A c ts sz t (rs.setIfInBounds i u) cs e n v m xs p (W.setCell ⟨w.heap.size,i,none⟩ u):=
 ⟨h.po.sJ i u,cO h.own (Gr.setCell (X:=(· =w.heap.size)) _ _ _ rfl) (fun k hk e=>aW h.own h.po.res hne (e▸hk))⟩
theorem aDE{f:FuncId}{args:Array Value}{w W:World}{Bc e n m p p':Nat}{t:TypeId}{rs cs:Array Value}{v:Value}{xs:List Value}{R:Ending→World→Prop}(h:Hid (iA w g Bc A c ts sz t rs cs e n v m xs p W))(hc:Calls pG f args W fun e w'=>(∃v,e= .returned v)∧gM w' g A c ts p' sz∧Gr (· =g) W w')
 (k:∀u W',Hid (iA w g Bc A c ts sz t rs cs e n v m xs p' W')→R (.returned u) W'):Calls pG f args W R:=
 hc.mono fun e W' hh=>by obtain⟨⟨u,rfl⟩,h1,h2⟩:=hh;exact k u W' (lz (h.out.next h1 h2))
theorem iA.kb{w W:World}{Bc e n m p:Nat}{t:TypeId}{rs cs:Array Value}{v:Value}{xs:List Value}(h:Hid (iA w g Bc A c ts sz t rs cs e n v m xs p W)):(∀i,W.cell? ⟨Bc,i,none⟩=cs[i]?)∧(∀i,W.frozen? ⟨Bc,i,none⟩=false):=⟨h.out.po.blk.cell,h.out.po.blk.frozen⟩
theorem iA.err{w W:World}{Bc e n m p:Nat}{t:TypeId}{rs cs:Array Value}{v:Value}{xs:List Value}(h:Hid (iA w g Bc A c ts sz t rs cs e n v m xs p W)):W.cell? ⟨g,4,none⟩=some (.int .i64 0):=h.out.po.eX.blk.cell 4
end
open Go.Act renaming put → zP
open List renaming setIfInBounds_toArray → zA, set_cons_zero → zB, set_cons_succ → zC
section
variable {g:Nat} {A:Option Addr} {c:Nat} {ts:List Tok} {now:Nat} {sz:Int}
theorem aHE(x:aC)(w:World)(h:gM w g A c ts now sz)(hl:ts.length≤100000)(ha:Ry ts now x=true)(hL:x.aq.l.length≤1000):
 Calls pG 260 #[.pointer (some ⟨g,0,none⟩)] w fun e w'=>∃A' c',e= .returned (.agg (ZU x.nm x.pe x.le x.mem (.slice A' x.aq.l.length c')))∧
  w'.ownsRow w.heap.size 73 6 (.slice A' x.aq.l.length c') x.aq.l.length (x.aq.l.flatMap aM.cells)∧gM w' g A c ts (now+9+8*x.aq.l.length) sz∧Gr (· =g) w w':=by
 unfold Ry at ha;simp only[Bool.and_eq_true]at ha;obtain⟨⟨⟨⟨⟨⟨⟨⟨⟨a1,a2⟩,a3⟩,a4⟩,a5⟩,a6⟩,a7⟩,a8⟩,a9⟩,Qf⟩:=ha;obtain⟨nm,pe,le,mem,aG,ev,bo,aX,⟨Ap,cp,L⟩,procs⟩:=x;dsimp only at a1 a2 a3 a4 a5 a6 a7 a8 a9 Qf hL ⊢;have hat:=Rx a9;obtain⟨w0,hw⟩:=ez (w.alloc (.cells #[.string ⟨#[]⟩,.int .i64 0,.int .i64 0,.int .i64 0,.slice none 0 0,.int .i64 0,.int .i64 0,.slice none 0 0,.slice none 0 0,.slice none 0 0] 71));have hw0:Below w.heap.size w w0:=by rw[hw];exact bN
 have jy:ah w0 w.heap.size 71 #[.string ⟨#[]⟩,.int .i64 0,.int .i64 0,.int .i64 0,.slice none 0 0,.int .i64 0,.int .i64 0,.slice none 0 0,.slice none 0 0,.slice none 0 0]:=by rw[hw];exact ah.new w _ _
 have h1:=lz (kV nm w0 (h.below hw0) hl a1);have rT:=lz jy;have aV:=lz hw0;have Mc:=lz hw;have hlt:=h.lt;have HA:=lz (ai a2 (ai a3 (ai a4 (ai a5 (ai a6 (ai a7 (ai a8 Qf)))))));have Vw:=lz hat;obtain⟨i0,lX,hz0,hz1,hz2⟩:=info_parts aHD;clear h a1 a2 a3 a4 a5 a6 a7 a8 a9 Qf hw hw0 jy hat;go_enter Tryz.func260,Tryz.ntmps260;go_wp2_with fail;rw[←Mc.out];refine h1.out.mono ?_;rintro e w1 ⟨rfl,PK,sK⟩;obtain⟨y,hy⟩:=ez (w1.alloc (.cells #[.string nm,.int .i64 0,.int .i64 0,.int .i64 0,.slice none 0 0,.int .i64 0,.int .i64 0,.slice none 0 0,.slice none 0 0,.slice none 0 0] 71));have hS:eW w g w1.heap.size A c ts sz 71 #[.string ⟨#[]⟩,.int .i64 0,.int .i64 0,.int .i64 0,.slice none 0 0,.int .i64 0,.int .i64 0,.slice none 0 0,.slice none 0 0,.slice none 0 0] #[.string nm,.int .i64 0,.int .i64 0,.int .i64 0,.slice none 0 0,.int .i64 0,.int .i64 0,.slice none 0 0,.slice none 0 0,.slice none 0 0] (now+1) y:=by
  have hB:Below w1.heap.size w1 y:=by rw[hy];exact bN
  have hs:w.heap.size<w1.heap.size:=Nat.lt_of_lt_of_le rT.out.lt sK.size;exact⟨PK.below hB,((Gr.ak aV.out).trans sK).trans (Gr.ak hB),hlt,(sK.blk rT.out oz).below hB hs,by rw[hy];exact ah.new w1 _ _,hs⟩
 have HS:=lz hS;have Hy:=lz hy;clear hS PK sK h1 hy rT aV Mc;go_wp2_with fail;rw[←Hy.out];refine jD HS (gY _ pe _ HS.out.eX hl HA.out.1 HA.out.2.1) fun W2 sC=> ?_
 have k2:W2.cell? ⟨w1.heap.size,1,none⟩=some (.int .i64 0):=(eW.kb sC).1 1;have f2:W2.frozen? ⟨w1.heap.size,1,none⟩=false:=(eW.kb sC).2 1;clear HS Hy;go_wp2_with fail;have wg:=lz (sC.out.put 1 (.int .i64 pe));refine jD wg (gY _ le _ wg.out.eX hl HA.out.2.2.1 HA.out.2.2.2.1) fun W3 pP=> ?_
 clear k2 f2 sC wg;have k3:W3.cell? ⟨w1.heap.size,2,none⟩=some (.int .i64 0):=(eW.kb pP).1 2;have f3:W3.frozen? ⟨w1.heap.size,2,none⟩=false:=(eW.kb pP).2 2;go_wp2_with fail;have wh:=lz (pP.out.put 2 (.int .i64 le));refine jD wh (gY _ mem _ wh.out.eX hl HA.out.2.2.2.2.1 HA.out.2.2.2.2.2.1) fun W4 sD=> ?_
 clear k3 f3 pP wh;have k4:W4.cell? ⟨w1.heap.size,3,none⟩=some (.int .i64 0):=(eW.kb sD).1 3;have f4:W4.frozen? ⟨w1.heap.size,3,none⟩=false:=(eW.kb sD).2 3;go_wp2_with fail;have Fo:=lz (sD.out.put 3 (.int .i64 mem));refine qQ Fo (iX _ _ Fo.out.eX hl HA.out.2.2.2.2.2.2.1) fun v5 W5 qu=> ?_
 have QW:Hid (iA w g w1.heap.size A c ts sz 71 #[.string ⟨#[]⟩,.int .i64 0,.int .i64 0,.int .i64 0,.slice none 0 0,.int .i64 0,.int .i64 0,.slice none 0 0,.slice none 0 0,.slice none 0 0] (ZU nm pe le mem (.slice none 0 0)) 73 6 (.slice none 0 0) 0 [] (now+8) W5):=
  lz ⟨qu.out,World.ownsRow_nil _ _ _ _⟩
 clear k4 f4 sD Fo qu;go_wp2;go_loopw [4] (fun u wr=>∃(k:Nat) (v:Value),k≤L.length∧u= .string ⟨#[]⟩∧iA w g w1.heap.size A c ts sz 71 #[.string ⟨#[]⟩,.int .i64 0,.int .i64 0,.int .i64 0,.slice none 0 0,.int .i64 0,.int .i64 0,.slice none 0 0,.slice none 0 0,.slice none 0 0] (ZU nm pe le mem v) 73 6 v k ((L.take k).flatMap aM.cells) (now+8+8*k) wr) (fun u wr=>2*(ts.length+1)-jZ g wr)
 case atStart=>exact⟨0,_,nZ,rfl,QW.out⟩
 case round=>
  clear QW;obtain⟨k,v,hk,rfl,hR⟩:=hrel;obtain⟨Av,cv,rfl,_⟩:=bp hR.own;have HR:=lz hR;have wW:=hR.po.eX.jZ;have k4:=iA.err HR;clear hR;by_cases iJ:k=L.length
  ·have hs:=lz (aDD ⟨#[125]⟩ true wr HR.out.po.eX hl (by rw[iJ];simpa using HA.out.2.2.2.2.2.2.2))
   have vQ:=lz iJ;clear iJ;go_wp2_with fail;refine jR HR hs fun W6 Om=> ?_
   clear HR hs k4;go_wp2_with fail;refine aDE Om (iX _ _ Om.out.po.eX hl (by rw[vQ.out];exact HA.out.2.2.2.2.2.2.2)) fun v7 W7 nI=> ?_
   clear Om;have c0:W7.cell? ⟨w1.heap.size,0,none⟩=some (.string nm):=(iA.kb nI).1 0;have c1:W7.cell? ⟨w1.heap.size,1,none⟩=some (.int .i64 pe):=(iA.kb nI).1 1;have c2:W7.cell? ⟨w1.heap.size,2,none⟩=some (.int .i64 le):=(iA.kb nI).1 2;have c3:W7.cell? ⟨w1.heap.size,3,none⟩=some (.int .i64 mem):=(iA.kb nI).1 3;have c4:W7.cell? ⟨w1.heap.size,4,none⟩=some (.slice none 0 0):=(iA.kb nI).1 4;have c5:W7.cell? ⟨w1.heap.size,5,none⟩=some (.int .i64 0):=(iA.kb nI).1 5;have c6:W7.cell? ⟨w1.heap.size,6,none⟩=some (.int .i64 0):=(iA.kb nI).1 6;have c7:W7.cell? ⟨w1.heap.size,7,none⟩=some (.slice none 0 0):=(iA.kb nI).1 7;have c8:W7.cell? ⟨w1.heap.size,8,none⟩=some (.slice Av k cv):=(iA.kb nI).1 8;have c9:W7.cell? ⟨w1.heap.size,9,none⟩=some (.slice none 0 0):=(iA.kb nI).1 9;have r0:=nI.out.po.res.cell 0;have r1:=nI.out.po.res.cell 1;have r2:=nI.out.po.res.cell 2;have r3:=nI.out.po.res.cell 3;have r4:=nI.out.po.res.cell 4;have r5:=nI.out.po.res.cell 5;have r6:=nI.out.po.res.cell 6;have r7:=nI.out.po.res.cell 7;have r8:=nI.out.po.res.cell 8;have r9:=nI.out.po.res.cell 9;have f0:=nI.out.po.res.frozen 0;have f1:=nI.out.po.res.frozen 1;have f2:=nI.out.po.res.frozen 2;have f3:=nI.out.po.res.frozen 3;have f4:=nI.out.po.res.frozen 4;have f5:=nI.out.po.res.frozen 5;have f6:=nI.out.po.res.frozen 6;have f7:=nI.out.po.res.frozen 7;have f8:=nI.out.po.res.frozen 8;have f9:=nI.out.po.res.frozen 9;go_wp2_with fail;have HF:=lz ((((((((((nI.out.sJ dz 0 (.string nm)).sJ dz 1 (.int .i64 pe)).sJ dz 2 (.int .i64 le)).sJ dz 3 (.int .i64 mem)).sJ dz 4 (.slice none 0 0)).sJ dz 5 (.int .i64 0)).sJ dz 6 (.int .i64 0)).sJ dz 7 (.slice none 0 0)).sJ dz 8 (.slice Av k cv)).sJ dz 9 (.slice none 0 0));obtain⟨W8,hW8⟩:=ez (((((((((((W7.setCell ⟨w.heap.size,0,none⟩ (.string nm)).setCell ⟨w.heap.size,1,none⟩ (.int .i64 pe)).setCell ⟨w.heap.size,2,none⟩ (.int .i64 le)).setCell ⟨w.heap.size,3,none⟩ (.int .i64 mem)).setCell ⟨w.heap.size,4,none⟩ (.slice none 0 0)).setCell ⟨w.heap.size,5,none⟩ (.int .i64 0)).setCell ⟨w.heap.size,6,none⟩ (.int .i64 0)).setCell ⟨w.heap.size,7,none⟩ (.slice none 0 0)).setCell ⟨w.heap.size,8,none⟩ (.slice Av k cv)).setCell ⟨w.heap.size,9,none⟩ (.slice none 0 0)));rw[←hW8]at HF ⊢;have hz:ah W8 w.heap.size 71 #[.string nm,.int .i64 pe,.int .i64 le,.int .i64 mem,.slice none 0 0,.int .i64 0,.int .i64 0,.slice none 0 0,.slice Av k cv,.slice none 0 0]:=by simpa using HF.out.po.res
   have z0:=hz.cell 0;have z1:=hz.cell 1;have z2:=hz.cell 2;have z3:=hz.cell 3;have z4:=hz.cell 4;have z5:=hz.cell 5;have z6:=hz.cell 6;have z7:=hz.cell 7;have z8:=hz.cell 8;have z9:=hz.cell 9;refine bodyPost_ret (v:= .agg #[.string nm,.int .i64 pe,.int .i64 le,.int .i64 mem,.slice none 0 0,.int .i64 0,.int .i64 0,.slice none 0 0,.slice Av k cv,.slice none 0 0]) (by simp[results,Tryz.results260,go_sem,z0,z1,z2,z3,z4,z5,z6,z7,z8,z9]) rfl ?_;refine⟨Av,cv,by rw[vQ.out],?_,?_,HF.out.po.gr⟩
   ·have:=HF.out.own;rw[vQ.out,List.take_length]at this;exact this
   ·have:=HF.out.po.eX;rw[vQ.out,show now+8+8*L.length+1=now+9+8*L.length from by omega]at this;exact this
  ·have hkl:k<L.length:=by omega
   obtain⟨Cr,zO⟩:=Vw.out k hkl;obtain⟨hn,Z7⟩:=gG zO;unfold ZT at Z7;simp only[Bool.and_eq_true,Bool.not_eq_true']at Z7;obtain⟨⟨⟨⟨⟨l1,l2⟩,l3⟩,l4⟩,l5⟩,l6⟩:=Z7;have hs1:=lz fun W (hW:gM W g A c ts (now+8+8*k) sz)=>l1▸tJ ⟨#[125]⟩ W hW hn hl
   have Pb:=lz fun W (hW:gM W g A c ts (now+8+8*k) sz)=>l2▸tJ ⟨#[115,101,109,97,115]⟩ W hW hn hl
   have QM:=lz fun W (hW:gM W g A c ts (now+8+8*k) sz)=>l3▸tJ ⟨#[98,117,102,115]⟩ W hW hn hl
   have hs4:=lz fun W (hW:gM W g A c ts (now+8+8*k) sz)=>l4▸tJ ⟨#[101,118,101,110,116,115]⟩ W hW hn hl
   have hs5:=lz fun W (hW:gM W g A c ts (now+8+8*k) sz)=>l5▸tJ ⟨#[98,111,97,114,100,115]⟩ W hW hn hl
   have uz:=lz fun W (hW:gM W g A c ts (now+8+8*k) sz)=>EF ⟨#[115,101,109,97,115]⟩ W hW hn hl l2
   have hi3:=lz fun W (hW:gM W g A c ts (now+8+8*k) sz)=>EF ⟨#[98,117,102,115]⟩ W hW hn hl l3
   have hi4:=lz fun W (hW:gM W g A c ts (now+8+8*k) sz)=>EF ⟨#[101,118,101,110,116,115]⟩ W hW hn hl l4
   have hi5:=lz fun W (hW:gM W g A c ts (now+8+8*k) sz)=>EF ⟨#[98,111,97,114,100,115]⟩ W hW hn hl l5
   have hi6:=lz fun W (hW:gM W g A c ts (now+8+8*k) sz)=>EF ⟨#[112,114,111,99]⟩ W hW hn hl l6
   have hh:=lz fun W (hW:gM W g A c ts (now+8+8*k) sz)=>ED W hW hn hl
   generalize ts[now+8+8*k]=t at *;obtain⟨tk,tx,ta⟩:=t;dsimp only[Tok.val]at hh;have TD:∀W,(Instr.field 280 (.agg #[.int .i64 tk,.string tx,.int .i64 ta]) 1).run pG W= .ok (.string tx) W:=fun _=>by kernel_rfl
   have VB:=lz fun W (hW:gM W g A c ts (now+8+8*k) sz)=>ZS L[k] W hW hl Cr
   clear l1 l2 l3 l4 l5 l6 Cr zO;go_wp2_with fail;refine jR HR (hs1.out _ HR.out.po.eX) fun W6 Om=> ?_
   clear HR k4;go_wp2_with fail;refine jR Om (hh.out _ Om.out.po.eX) fun W7 nI=> ?_
   clear Om;go_wp2_with fail;refine jR nI (Pb.out _ nI.out.po.eX) fun W8 HR8=> ?_
   clear nI;go_wp2_with fail;refine jR HR8 (QM.out _ HR8.out.po.eX) fun W9 HR9=> ?_
   clear HR8;go_wp2_with fail;refine jR HR9 (hs4.out _ HR9.out.po.eX) fun W10 aHF=> ?_
   clear HR9;go_wp2_with fail;refine jR aHF (hs5.out _ aHF.out.po.eX) fun wv aHG=> ?_
   clear aHF;go_wp2_with fail;refine jR aHG (uz.out _ aHG.out.po.eX) fun sI qO=> ?_
   clear aHG;go_wp2_with fail;refine jR qO (hi3.out _ qO.out.po.eX) fun VH qq=> ?_
   clear qO;go_wp2_with fail;refine jR qq (hi4.out _ qq.out.po.eX) fun W14 aHH=> ?_
   clear qq;go_wp2_with fail;refine jR aHH (hi5.out _ aHH.out.po.eX) fun W15 aHI=> ?_
   clear aHH;go_wp2_with fail;refine jR aHI (hi6.out _ aHI.out.po.eX) fun W16 aMJ=> ?_
   clear aHI;have HD:=lz (aMJ.out.below (W':=W16.drew) (Below.refl _ _).drew);have O5:W16.drew.cell? ⟨w1.heap.size,8,none⟩=some (.slice Av k cv):=(iA.kb HD).1 8;clear aMJ;go_wp2_with fail;refine aT (fun W'=>W'.cell? ⟨w1.heap.size,8,none⟩=some (.slice Av k cv)) 7 kz O5 (fun hHeld=> ?_);refine TS 0 rfl hHeld ?_;simp only[zP,zA,zB,zC];refine TS 1 rfl hHeld ?_;simp only[zP,zA,zB,zC];refine TS 2 rfl hHeld ?_;simp only[zP,zA,zB,zC];refine RQ 3 rfl fun K hK=> ?_
   go_simp;refine(VB.out _ HD.out.po.eX).mono ?_;rintro e Vl ⟨rfl,O6,O7⟩;have qt:=lz (HD.out.next O6 O7);have pZ:Vl.cell? ⟨w1.heap.size,8,none⟩=some (.slice Av k cv):=(iA.kb qt).1 8;refine hK.out _ _ (fun _=>pZ) ?_;clear hK hHeld O6 O7 HD O5;refine RQ 4 rfl fun K hK=> ?_
   go_simp;have qb:(Vl.alloc (.cells #[.string L[k].nm,.int .u8 L[k].kd,.bool L[k].out,.int .i64 L[k].sz,.int .i64 L[k].dp,.int .i64 L[k].rf] 73)).cell? ⟨w1.heap.size,8,none⟩=some (.slice Av k cv):=(qt.out.po.blk.alloc _).cell 8;refine hK.out _ _ (fun _=>qb) ?_;clear hK pZ;refine RQ 5 rfl fun K hK=> ?_
   refine mC (by rfl) (.tmp 52) (.tmp 55) 68 (by rfl) w.heap.size 73 i0 (.agg #[.string ⟨#[]⟩,.int .u8 0,.bool false,.int .i64 0,.int .i64 0,.int .i64 0]) 6 48 Tryz.underlying68 lX hz0 hz1 hz2 rfl dz (.slice Av k cv) k _ (by rfl) (qt.out.own.alloc _) ⟨Vl.heap.size,0,none⟩ 1 1 [.string L[k].nm,.int .u8 L[k].kd,.bool L[k].out,.int .i64 L[k].sz,.int .i64 L[k].dp,.int .i64 L[k].rf] (by rfl) (by rfl) ?c1 ?c2 ?c3 ?c4 ?c5 ?_
   case c1=>
    intro j u' hj;rw[bO,Nat.zero_add,(ah.new Vl 73 #[.string L[k].nm,.int .u8 L[k].kd,.bool L[k].out,.int .i64 L[k].sz,.int .i64 L[k].dp,.int .i64 L[k].rf]).cell j];simpa using hj
   case c2=>intro u' kQ;simp at kQ;rcases kQ with rfl | rfl | rfl | rfl | rfl | rfl<;>rfl
   case c3=>unfold maxLen;omega
   case c4=>omega
   case c5=>have:=qt.out.po.gr.size;simp;omega
   intro v19 VJ oZ O8;obtain⟨Av9,cv9,rfl,_⟩:=bp oZ;have Mb:=lz (qt.out.grow oZ O8 dz);have nJ:VJ.cell? ⟨w1.heap.size,8,none⟩=some (.slice Av k cv):=(iA.kb Mb).1 8;have aHJ:VJ.frozen? ⟨w1.heap.size,8,none⟩=false:=(iA.kb Mb).2 8;refine hK.out _ _ (fun _=>nJ) ?_;clear hK qb oZ O8 qt;refine TS 6 rfl nJ ?_;simp only[zP,zA,zB,zC];refine RQ 7 rfl fun K hK=> ?_
   go_simp;refine hK.out _ _ (fun h=>absurd h dz) ?_;clear hK;refine aL kz ?_ _;have Rz:=lz (Mb.out.put 8 (.slice Av9 (k+1) cv9) dz);clear Mb;go_wp2;go_roundw
   case rel=>
    refine⟨k+1,.slice Av9 (k+1) cv9,oz,rfl,?_⟩;have:=Rz.out;rw[show now+8+8*k+8=now+8+8*(k+1)from by omega]at this;rw[List.take_succ_eq_append_getElem hkl,List.flatMap_append,List.flatMap_cons,List.flatMap_nil,List.append_nil];exact this
   case measure=>
    have h1:=Rz.out.po.eX.jZ;rw[wW,h1];omega
end
theorem Il{W:World}{base cp:Nat}{A:Option Addr}{l:List aM}(h:W.ownsRow base 73 6 (.slice A l.length cp) l.length (l.flatMap aM.cells))(hr:∀y∈l,y.rd W W.heap.size):fu W W.heap.size A l:=fun hn=>by
 obtain⟨b,cap,hv,_,hlt⟩:=h.form hn;have hA:A=some ⟨b,0,none⟩:=by injection hv
 subst hA;refine⟨b,0,rfl,hlt,fun i hi=> ?_⟩;have c0:=h.cells (g:=b) rfl _ _ (aS aM.cells 6 (fun _=>rfl) l i 0 hi oz);have c1:=h.cells (g:=b) rfl _ _ (aS aM.cells 6 (fun _=>rfl) l i 1 hi oz);have c2:=h.cells (g:=b) rfl _ _ (aS aM.cells 6 (fun _=>rfl) l i 2 hi oz);have c3:=h.cells (g:=b) rfl _ _ (aS aM.cells 6 (fun _=>rfl) l i 3 hi oz);have c4:=h.cells (g:=b) rfl _ _ (aS aM.cells 6 (fun _=>rfl) l i 4 hi oz);have c5:=h.cells (g:=b) rfl _ _ (aS aM.cells 6 (fun _=>rfl) l i 5 hi oz);rw[eY]at c0 c1 c2 c3 c4 c5;have hq:=hr _ (List.getElem_mem hi);simpa using ai c0 (ai c1 (ai c2 (ai c3 (ai c4 (ai c5 hq)))))
def aC.cells(x:aC):List Value:= [.string x.nm,.int .i64 x.pe,.int .i64 x.le,.int .i64 x.mem,x.aG.val,.int .i64 x.ev,.int .i64 x.bo,x.aX.val,x.aq.val,x.procs.val]
theorem Im{W:World}{base cp:Nat}{A:Option Addr}{l:List aC}(h:W.ownsRow base 71 10 (.slice A l.length cp) l.length (l.flatMap aC.cells))(hr:∀y∈l,y.rd W W.heap.size):fW W W.heap.size A l:=fun hn=>by
 obtain⟨b,cap,hv,_,hlt⟩:=h.form hn;have hA:A=some ⟨b,0,none⟩:=by injection hv
 subst hA;refine⟨b,0,rfl,hlt,fun i hi=> ?_⟩;have c0:=h.cells (g:=b) rfl _ _ (aS aC.cells 10 (fun _=>rfl) l i 0 hi oz);have c1:=h.cells (g:=b) rfl _ _ (aS aC.cells 10 (fun _=>rfl) l i 1 hi oz);have c2:=h.cells (g:=b) rfl _ _ (aS aC.cells 10 (fun _=>rfl) l i 2 hi oz);have c3:=h.cells (g:=b) rfl _ _ (aS aC.cells 10 (fun _=>rfl) l i 3 hi oz);have c4:=h.cells (g:=b) rfl _ _ (aS aC.cells 10 (fun _=>rfl) l i 4 hi oz);have c5:=h.cells (g:=b) rfl _ _ (aS aC.cells 10 (fun _=>rfl) l i 5 hi oz);have c6:=h.cells (g:=b) rfl _ _ (aS aC.cells 10 (fun _=>rfl) l i 6 hi oz);have c7:=h.cells (g:=b) rfl _ _ (aS aC.cells 10 (fun _=>rfl) l i 7 hi oz);have c8:=h.cells (g:=b) rfl _ _ (aS aC.cells 10 (fun _=>rfl) l i 8 hi oz);have c9:=h.cells (g:=b) rfl _ _ (aS aC.cells 10 (fun _=>rfl) l i 9 hi oz);rw[eY]at c0 c1 c2 c3 c4 c5 c6 c7 c8 c9;have hq:=hr _ (List.getElem_mem hi);simpa using ai c0 (ai c1 (ai c2 (ai c3 (ai c4 (ai c5 (ai c6 (ai c7 (ai c8 (ai c9 hq)))))))))
def bT.cells(x:bT):List Value:= [.string x.nm,.int .i64 x.mem,.int .i64 x.fr,x.parts.val]
theorem Cd{W:World}{base cp:Nat}{A:Option Addr}{l:List bT}(h:W.ownsRow base 67 4 (.slice A l.length cp) l.length (l.flatMap bT.cells))(hr:∀y∈l,y.rd W W.heap.size):dK W W.heap.size A l:=fun hn=>by
 obtain⟨b,cap,hv,_,hlt⟩:=h.form hn;have hA:A=some ⟨b,0,none⟩:=by injection hv
 subst hA;refine⟨b,0,rfl,hlt,fun i hi=> ?_⟩;have c0:=h.cells (g:=b) rfl _ _ (aS bT.cells 4 (fun _=>rfl) l i 0 hi oz);have c1:=h.cells (g:=b) rfl _ _ (aS bT.cells 4 (fun _=>rfl) l i 1 hi oz);have c2:=h.cells (g:=b) rfl _ _ (aS bT.cells 4 (fun _=>rfl) l i 2 hi oz);have c3:=h.cells (g:=b) rfl _ _ (aS bT.cells 4 (fun _=>rfl) l i 3 hi oz);rw[eY]at c0 c1 c2 c3;have hq:=hr _ (List.getElem_mem hi);simpa using ai c0 (ai c1 (ai c2 (ai c3 hq)))
def iI.cells(x:iI):List Value:= [.string x.nm,.int .i64 x.net,.int .i64 x.dl,.int .i64 x.st]
theorem Ce{W:World}{base cp:Nat}{A:Option Addr}{l:List iI}(h:W.ownsRow base 87 4 (.slice A l.length cp) l.length (l.flatMap iI.cells)):dL W W.heap.size A l:=fun hn=>by
 obtain⟨b,cap,hv,_,hlt⟩:=h.form hn;have hA:A=some ⟨b,0,none⟩:=by injection hv
 subst hA;refine⟨b,0,rfl,hlt,fun i hi=> ?_⟩;have c0:=h.cells (g:=b) rfl _ _ (aS iI.cells 4 (fun _=>rfl) l i 0 hi oz);have c1:=h.cells (g:=b) rfl _ _ (aS iI.cells 4 (fun _=>rfl) l i 1 hi oz);have c2:=h.cells (g:=b) rfl _ _ (aS iI.cells 4 (fun _=>rfl) l i 2 hi oz);have c3:=h.cells (g:=b) rfl _ _ (aS iI.cells 4 (fun _=>rfl) l i 3 hi oz);rw[eY]at c0 c1 c2 c3;simpa using ai c0 (ai c1 (ai c2 c3))
def aO.cells(x:aO):List Value:= [.string x.a,.string x.b,.int .i64 x.net,.int .i64 x.slow]
theorem uJ{W:World}{base cp:Nat}{A:Option Addr}{l:List aO}(h:W.ownsRow base 46 4 (.slice A l.length cp) l.length (l.flatMap aO.cells)):fZ W W.heap.size A l:=fun hn=>by
 obtain⟨b,cap,hv,_,hlt⟩:=h.form hn;have hA:A=some ⟨b,0,none⟩:=by injection hv
 subst hA;refine⟨b,0,rfl,hlt,fun i hi=> ?_⟩;have c0:=h.cells (g:=b) rfl _ _ (aS aO.cells 4 (fun _=>rfl) l i 0 hi oz);have c1:=h.cells (g:=b) rfl _ _ (aS aO.cells 4 (fun _=>rfl) l i 1 hi oz);have c2:=h.cells (g:=b) rfl _ _ (aS aO.cells 4 (fun _=>rfl) l i 2 hi oz);have c3:=h.cells (g:=b) rfl _ _ (aS aO.cells 4 (fun _=>rfl) l i 3 hi oz);rw[eY]at c0 c1 c2 c3;simpa using ai c0 (ai c1 (ai c2 c3))
def fU.cells(x:fU):List Value:= [.string x.nm,.string x.src.m,.string x.src.p,.string x.src.o,.int .i64 x.lQ,.int .i64 x.mx,x.dst.val]
theorem ML{W:World}{base cp:Nat}{A:Option Addr}{l:List fU}(h:W.ownsRow base 44 7 (.slice A l.length cp) l.length (l.flatMap fU.cells))(hr:∀y∈l,y.rd W W.heap.size):mV W W.heap.size A l:=fun hn=>by
 obtain⟨b,cap,hv,_,hlt⟩:=h.form hn;have hA:A=some ⟨b,0,none⟩:=by injection hv
 subst hA;refine⟨b,0,rfl,hlt,fun i hi=> ?_⟩;have c0:=h.cells (g:=b) rfl _ _ (aS fU.cells 7 (fun _=>rfl) l i 0 hi oz);have c1:=h.cells (g:=b) rfl _ _ (aS fU.cells 7 (fun _=>rfl) l i 1 hi oz);have c2:=h.cells (g:=b) rfl _ _ (aS fU.cells 7 (fun _=>rfl) l i 2 hi oz);have c3:=h.cells (g:=b) rfl _ _ (aS fU.cells 7 (fun _=>rfl) l i 3 hi oz);have c4:=h.cells (g:=b) rfl _ _ (aS fU.cells 7 (fun _=>rfl) l i 4 hi oz);have c5:=h.cells (g:=b) rfl _ _ (aS fU.cells 7 (fun _=>rfl) l i 5 hi oz);have c6:=h.cells (g:=b) rfl _ _ (aS fU.cells 7 (fun _=>rfl) l i 6 hi oz);rw[eY]at c0 c1 c2 c3 c4 c5 c6;have hq:=hr _ (List.getElem_mem hi);simpa using ai c0 (ai c1 (ai c2 (ai c3 (ai c4 (ai c5 (ai c6 hq))))))
structure jK where
 t:TypeId
 n:Nat
 v:Value
 k:Nat
 xs:List Value
def dA(W:World)(base:Nat)(Q:List jK):Prop:=∀r∈Q,W.ownsRow base r.t r.n r.v r.k r.xs
theorem dA.gr{W W':World}{base g:Nat}{Q:List jK}(h:dA W base Q)(hG:Gr (· =g) W W')(hg:g<base):dA W' base Q:=fun r hr=>
 cO (h r hr) hG (fun k hk e=>by have:=((h r hr).lt k hk).1;omega)
theorem dA.below{W W':World}{base:Nat}{Q:List jK}(h:dA W base Q)(hb:Below W.heap.size W W'):dA W' base Q:=fun r hr=>
 cO (h r hr) (Gr.ak (X:=fun k=>W.heap.size≤k) hb) (fun k hk e=>by have:=((h r hr).lt k hk).2;omega)
theorem dA.blk{W W':World}{base B:Nat}{Q:List jK}{t:TypeId}{cs:Array Value}(h:dA W base Q)(hG:Gr (· =B) W W')(hb:ah W B t cs)(hq:∀r∈Q,r.t≠t):dA W' base Q:=fun r hr=>
 cO (h r hr) hG (fun k hk e=>aW (h r hr) hb (hq r hr) (e▸hk))
theorem dA.set{W:World}{base B i:Nat}{Q:List jK}{t:TypeId}{cs:Array Value}(h:dA W base Q)(hb:ah W B t cs)(hq:∀r∈Q,r.t≠t)(u:Value):dA (W.setCell ⟨B,i,none⟩ u) base Q:=
 h.blk (Gr.setCell (X:=(· =B)) _ _ _ rfl) hb hq
theorem dA.grown{W W':World}{base n m:Nat}{Q:List jK}{e:TypeId}{v:Value}{xs:List Value}(h:dA W base Q)(hG:W.grownBy W' v.ownBlock)(ho:W.ownsRow base e n v m xs)(hq:∀r∈Q,r.t≠e):dA W' base Q:=fun r hr=>
 cO (h r hr) (Gr.eO (X:=fun k=>v.ownBlock=some k) hG (fun k e=>e)) (fun k hk=>Db (h r hr) ho (hq r hr) k hk)
theorem dA.nil{W:World}{base:Nat}:dA W base []:=fun r hr=>by cases hr
theorem dA.app{W:World}{base:Nat}{Q R:List jK}(h:dA W base Q)(h':dA W base R):dA W base (Q++R):=fun r hr=>by
 rcases List.mem_append.1 hr with hr | hr
 ·exact h r hr
 ·exact h' r hr
theorem dA.aMM{W:World}{b b':Nat}{Q:List jK}(h:dA W b Q)(hb:b'≤b):dA W b' Q:=fun r hr=>nV (h r hr) hb
theorem dA.one{W:World}{base n k:Nat}{t:TypeId}{v:Value}{xs:List Value}(h:W.ownsRow base t n v k xs):dA W base [⟨t,n,v,k,xs⟩]:=fun r hr=>by
 rcases List.mem_cons.1 hr with rfl | hr
 ·exact h
 ·cases hr
abbrev gN{α:Type}:Sl α:=⟨none,0,[]⟩
structure qK where
 nm:ByteArray
 pe:Int
 le:Int
 mem:Int
 aq:List aM
structure DA where
 nm:ByteArray
 mem:Int
 fr:Int
 parts:List qK
structure VlT where
 nm:ByteArray
 src:bw
 lQ:Int
 mx:Int
 dst:List bw
def aC.is(y:aC)(x:qK):Prop:=∃A c,y=⟨x.nm,x.pe,x.le,x.mem,gN,0,0,gN,⟨A,c,x.aq⟩,gN⟩
def iC{α β:Type}(R:α→β→Prop):List α→List β→Prop
 | [],[]=>True
 | y :: Y,x :: X=>R y x∧iC R Y X
 | _,_=>False
theorem iC.len{α β:Type}{R:α→β→Prop}:∀{Y:List α} {X:List β},iC R Y X→Y.length=X.length
 | [],[],_=>rfl
 | y :: Y,x :: X,h=>by simp[iC.len h.2]
 | [],_ :: _,h=>h.elim
 | _ :: _,[],h=>h.elim
theorem iC.add{α β:Type}{R:α→β→Prop}{y:α}{x:β}(h:R y x):∀{Y:List α} {X:List β},iC R Y X→iC R (Y++ [y]) (X++ [x])
 | [],[],_=>⟨h,trivial⟩
 | _ :: _,_ :: _,k=>⟨k.1,iC.add h k.2⟩
 | [],_ :: _,k=>k.elim
 | _ :: _,[],k=>k.elim
def bT.is(y:bT)(x:DA):Prop:=∃A c P,y=⟨x.nm,x.mem,x.fr,⟨A,c,P⟩⟩∧iC aC.is P x.parts
def fU.is(y:fU)(x:VlT):Prop:=∃A c,y=⟨x.nm,x.src,x.lQ,x.mx,⟨A,c,x.dst⟩⟩
abbrev aC.row(y:aC):jK:=⟨73,6,y.aq.val,y.aq.l.length,y.aq.l.flatMap aM.cells⟩
abbrev bT.row(y:bT):jK:=⟨71,10,y.parts.val,y.parts.l.length,y.parts.l.flatMap aC.cells⟩
def bT.rows(y:bT):List jK:=y.row :: y.parts.l.map aC.row
abbrev fU.row(y:fU):jK:=⟨41,3,y.dst.val,y.dst.l.length,y.dst.l.flatMap bw.cells⟩
theorem aHK:(pG.info? 71).map (fun i=>(i.zero,i.size,i.bytes))=some (some (.agg #[.string ⟨#[]⟩,.int .i64 0,.int .i64 0,.int .i64 0,.slice none 0 0,.int .i64 0,.int .i64 0,.slice none 0 0,.slice none 0 0,.slice none 0 0]),10,152):=by kernel_rfl
theorem aHL:(pG.info? 67).map (fun i=>(i.zero,i.size,i.bytes))=some (some (.agg #[.string ⟨#[]⟩,.int .i64 0,.int .i64 0,.slice none 0 0]),4,56):=by kernel_rfl
theorem aHM:(pG.info? 87).map (fun i=>(i.zero,i.size,i.bytes))=some (some (.agg #[.string ⟨#[]⟩,.int .i64 0,.int .i64 0,.int .i64 0]),4,40):=by kernel_rfl
theorem aHN:(pG.info? 46).map (fun i=>(i.zero,i.size,i.bytes))=some (some (.agg #[.string ⟨#[]⟩,.string ⟨#[]⟩,.int .i64 0,.int .i64 0]),4,48):=by kernel_rfl
theorem aHO:(pG.info? 44).map (fun i=>(i.zero,i.size,i.bytes))=some (some (.agg #[.string ⟨#[]⟩,.string ⟨#[]⟩,.string ⟨#[]⟩,.string ⟨#[]⟩,.int .i64 0,.int .i64 0,.slice none 0 0]),7,104):=by kernel_rfl
theorem ZV{W:World}{base:Nat}{y:aC}{x:qK}(h:y.is x)(ho:W.ownsRow base 73 6 y.aq.val y.aq.l.length (y.aq.l.flatMap aM.cells))(hk:∀p∈x.aq,0≤p.kd∧p.kd≤255):y.rd W W.heap.size:=by
 obtain⟨A,c,rfl⟩:=h;obtain⟨A',c',hv,h1,h2⟩:=bp ho
 cases hv
 exact⟨nL,nZ,fun h=>absurd h (Nat.lt_irrefl 0),nL,nZ,fun h=>absurd h (Nat.lt_irrefl 0),h1,h2,Il ho (fun p hp=>⟨hk p hp⟩),nL,nZ,fun h=>absurd h (Nat.lt_irrefl 0)⟩
theorem iC.mem{α β:Type}{R:α→β→Prop}:∀{Y:List α} {X:List β},iC R Y X→∀y∈Y,∃x∈X,R y x
 | [],[],_,y,hy=>by cases hy
 | y :: Y,x :: X,h,z,hz=>by
  rcases List.mem_cons.1 hz with rfl | hz
  ·exact⟨x,qz,h.1⟩
  ·obtain⟨x',hx',k⟩:=iC.mem h.2 z hz
   exact⟨x',by simp[hx'],k⟩
 | [],_ :: _,h,_,_=>h.elim
 | _ :: _,[],h,_,_=>h.elim
theorem aAu{W:World}{base:Nat}{y:bT}{x:DA}(h:y.is x)(ho:dA W base y.rows)(hk:∀p∈x.parts,∀q∈p.aq,0≤q.kd∧q.kd≤255):y.rd W W.heap.size:=by
 obtain⟨A,c,P,rfl,hP⟩:=h;have h0:=ho _ (List.mem_cons_self ..);obtain⟨A',c',hv,h1,h2⟩:=bp h0
 cases hv
 refine⟨h1,h2,Im h0 fun p hp=> ?_⟩;obtain⟨q,hq,hi⟩:=iC.mem hP p hp;exact ZV hi (ho p.row (List.mem_cons_of_mem _ (List.mem_map.2 ⟨p,hp,rfl⟩))) (hk q hq)
theorem aEb{W:World}{base:Nat}{y:fU}(ho:W.ownsRow base 41 3 y.dst.val y.dst.l.length (y.dst.l.flatMap bw.cells)):y.rd W W.heap.size:=by
 obtain⟨A',c',hv,h1,h2⟩:=bp ho;obtain⟨nm,src,lQ,mx,⟨A,c,l⟩⟩:=y
 cases hv
 exact⟨h1,h2,L8 ho⟩
end
end Go.Proofs.YtmdgooofdmpcjaaGreatDoor
