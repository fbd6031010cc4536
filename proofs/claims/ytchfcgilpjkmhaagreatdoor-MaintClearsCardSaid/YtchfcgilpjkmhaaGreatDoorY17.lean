import Derived.Test.YtchfcgilpjkmhaaGreatDoorY16
import Derived.Test.YtchfcgilpjkmhaaGreatDoorY0
set_option maxRecDepth 100000
set_option linter.unusedSimpArgs false
set_option linter.unusedVariables false
set_option linter.unusedSectionVars false
namespace Go.Proofs.YtchfcgilpjkmhaaGreatDoor
open Go.ChangeShapes Go.WideShapes Go.ChangeAt Go.RowKit
attribute [local go_sem] Oper.semAt_some
abbrev CV(f:FuncId)(a:Array Value)(w:World)(v:Value):Prop:=Calls Tryz.prog f a w fun e w'=>e= .returned v∧Below w.heap.size w w'
abbrev CB(f:FuncId)(a:Array Value)(w:World)(b:Bool):Prop:=CV f a w (.bool b)
abbrev Ent(g:Nat):Prop:=∀args w,(callFunc g args).run Tryz.prog w= .ok (.enter g args) w
abbrev ListI{α:Type}(f:FuncId)(Pr:Nat→Array Value→(α→Bool)→List α→World→Prop)(Rd:World→Nat→Option Addr→List α→Prop):Prop:=
 ∀(g:Nat) (lb:Array Value) (p:α→Bool),Ent g→∀(l:List α) (A:Option Addr) (c:Nat) (w:World),Pr g lb p l w→Rd w w.heap.size A l→l.length≤9223372036854775807→CV f #[.slice A l.length c,.func (.func g) #[] lb] w (.int .i64 (idxI p l))
abbrev ListN{α:Type}(f:FuncId)(Pr:Nat→Array Value→(α→Bool)→List α→World→Prop)(Rd:World→Nat→Option Addr→List α→Prop):Prop:=
 ∀(g:Nat) (lb:Array Value) (p:α→Bool),Ent g→∀(l:List α) (A:Option Addr) (c:Nat) (w:World),Pr g lb p l w→Rd w w.heap.size A l→l.length≤9223372036854775807→CV f #[.slice A l.length c,.func (.func g) #[] lb] w (.bool (l.any p))
abbrev ListA{α:Type}(f:FuncId)(Pr:Nat→Array Value→(α→Bool)→List α→World→Prop)(Rd:World→Nat→Option Addr→List α→Prop):Prop:=
 ∀(g:Nat) (lb:Array Value) (p:α→Bool),Ent g→∀(l:List α) (A:Option Addr) (c:Nat) (w:World),Pr g lb p l w→Rd w w.heap.size A l→l.length≤9223372036854775807→CV f #[.slice A l.length c,.func (.func g) #[] lb] w (.bool (l.all p))
abbrev NotS{α:Type}(v:α→Value)(f:FuncId)(t:TypeId):Prop:=
 ∀(g:Nat) (lb:Array Value),Ent g→∀(Bx:Nat) (b:Bool) (x:α) (W:World),Blk W Bx t #[.func (.func g) #[] lb]→(∀W',Below W.heap.size W W'→CB g (#[v x]++lb) W' b)→CB f #[v x,.pointer (some ⟨Bx,0,none⟩)] W (!b)
section
variable {a b c:World}
theorem bt(h:Hid (Below a.heap.size a b))(k:Hid (Below b.heap.size b c)):Below a.heap.size a c:=h.out.trans (k.out.mono h.out.size)
end
theorem box_hd(w:World)(t:TypeId)(cs:Array Value):∃y0,Hid (y0=w.alloc (.cells cs t))∧Hid (Below w.heap.size w y0)∧Hid (∀W,Below y0.heap.size y0 W→Blk W w.heap.size t cs)∧Hid (Below y0.heap.size y0 y0)∧Hid (y0.heap.size=w.heap.size+1)∧Blk (w.alloc (.cells cs t)) w.heap.size t cs:=
 ⟨_,lz rfl,lz ((Below.refl _ _).alloc (Nat.le_refl _) _),lz fun W hW=>(Blk.new w t cs).below hW (Blk.new w t cs).lt,lz (Below.refl _ _),lz (by simp),Blk.new w t cs⟩
theorem box_new(w:World)(t:TypeId)(cs:Array Value):Blk (w.alloc (.cells cs t)) w.heap.size t cs∧Below w.heap.size w (w.alloc (.cells cs t)):=⟨Blk.new w t cs,(Below.refl _ w).alloc (Nat.le_refl _) _⟩
theorem bl3{a b c d:World}(h:Below a.heap.size a b)(k:Below b.heap.size b c)(l:Below c.heap.size c d):Below a.heap.size a d:=h.trans ((k.mono h.size).trans (l.mono (Nat.le_trans h.size k.size)))
theorem box_far{w y0:World}{t0 t:TypeId}{c0 cs:Array Value}{g:Nat}(hy:Hid (y0=w.alloc (.cells c0 t0)))(hB:Hid (Below w.heap.size w y0))(h:Blk w g t cs):Hid (∀W,Below y0.heap.size y0 W→Blk W g t cs):=
 lz fun W hW=>(h.below hB.out h.lt).below hW (Nat.lt_of_lt_of_le h.lt hB.out.size)
theorem callB{f:FuncId}{args:Array Value}{y0 y z:World}{v:Value}{R:Ending→World→Prop}(hc:Hid (Calls Tryz.prog f args z fun e w'=>e= .returned v∧Below y.heap.size y w'))(hy:Hid (Below y0.heap.size y0 y))(k:∀w',Hid (Below y0.heap.size y0 w')→R (.returned v) w'):Calls Tryz.prog f args z R:=
 hc.out.mono fun e w' h=>by
  obtain⟨rfl,hb⟩:=h;exact k w' (lz (bt hy (lz hb)))
abbrev InsV.obj(x:InsV):Obj:= .cells #[.int .u8 x.op,.int .i64 x.a,.int .i64 x.b,.int .i64 x.d] 167
abbrev RefV.obj(x:RefV):Obj:= .cells #[.string x.m,.string x.p,.string x.o] 82
abbrev PortV.obj(x:PortV):Obj:= .cells #[.string x.nm,.int .u8 x.kd,.bool x.out,.int .i64 x.sz,.int .i64 x.dp,.int .i64 x.rf] 77
abbrev ProcV.obj(x:ProcV):Obj:= .cells #[.string x.nm,.int .i64 x.pr,.int .i64 x.pe,.int .i64 x.li,.slice x.code.a x.code.l.length x.code.c] 80
abbrev PartV.obj(x:PartV):Obj:= .cells #[.string x.nm,.int .i64 x.pe,.int .i64 x.le,.int .i64 x.mem,.slice x.semas.a x.semas.l.length x.semas.c,.int .i64 x.ev,.int .i64 x.bo,.slice x.bufs.a x.bufs.l.length x.bufs.c,.slice x.ports.a x.ports.l.length x.ports.c,.slice x.procs.a x.procs.l.length x.procs.c] 75
abbrev ModV.obj(x:ModV):Obj:= .cells #[.string x.nm,.int .i64 x.mem,.int .i64 x.fr,.slice x.parts.a x.parts.l.length x.parts.c] 70
abbrev ChanV.obj(x:ChanV):Obj:= .cells #[.string x.src.m,.string x.src.p,.string x.src.o,.slice x.dst.a x.dst.l.length x.dst.c] 85
abbrev SwV.obj(x:SwV):Obj:= .cells #[.string x.nm,.int .i64 x.net,.int .i64 x.dl,.int .i64 x.st] 90
abbrev LinkV.obj(x:LinkV):Obj:= .cells #[.string x.a,.string x.b,.int .i64 x.net,.int .i64 x.slow] 92
abbrev VlV.obj(x:VlV):Obj:= .cells #[.string x.nm,.string x.src.m,.string x.src.p,.string x.src.o,.int .i64 x.bag,.int .i64 x.mx,.slice x.dst.a x.dst.l.length x.dst.c] 88
abbrev HeaV.obj(x:HeaV):Obj:= .cells #[.string x.m,.string x.p,.int .u8 x.flt,.int .u8 x.lv,.int .u8 x.dd] 94
abbrev VsnV.obj(x:VsnV):Obj:= .cells #[.string x.a,.int .i64 x.va,.string x.b,.int .i64 x.vb] 96
theorem InsV.kl{x:InsV}{W:World}{g:Nat}(h:Blk W g 167 #[.int .u8 x.op,.int .i64 x.a,.int .i64 x.b,.int .i64 x.d]):W.cell? ⟨g,0,none⟩=some (.int .u8 x.op)∧W.cell? ⟨g,1,none⟩=some (.int .i64 x.a)∧W.cell? ⟨g,2,none⟩=some (.int .i64 x.b)∧W.cell? ⟨g,3,none⟩=some (.int .i64 x.d):=⟨h.cell 0,h.cell 1,h.cell 2,h.cell 3⟩
theorem RefV.kl{x:RefV}{W:World}{g:Nat}(h:Blk W g 82 #[.string x.m,.string x.p,.string x.o]):W.cell? ⟨g,0,none⟩=some (.string x.m)∧W.cell? ⟨g,1,none⟩=some (.string x.p)∧W.cell? ⟨g,2,none⟩=some (.string x.o):=⟨h.cell 0,h.cell 1,h.cell 2⟩
theorem PortV.kl{x:PortV}{W:World}{g:Nat}(h:Blk W g 77 #[.string x.nm,.int .u8 x.kd,.bool x.out,.int .i64 x.sz,.int .i64 x.dp,.int .i64 x.rf]):W.cell? ⟨g,0,none⟩=some (.string x.nm)∧W.cell? ⟨g,1,none⟩=some (.int .u8 x.kd)∧W.cell? ⟨g,2,none⟩=some (.bool x.out)∧W.cell? ⟨g,3,none⟩=some (.int .i64 x.sz)∧W.cell? ⟨g,4,none⟩=some (.int .i64 x.dp)∧W.cell? ⟨g,5,none⟩=some (.int .i64 x.rf):=⟨h.cell 0,h.cell 1,h.cell 2,h.cell 3,h.cell 4,h.cell 5⟩
theorem ProcV.kl{x:ProcV}{W:World}{g:Nat}(h:Blk W g 80 #[.string x.nm,.int .i64 x.pr,.int .i64 x.pe,.int .i64 x.li,.slice x.code.a x.code.l.length x.code.c]):W.cell? ⟨g,0,none⟩=some (.string x.nm)∧W.cell? ⟨g,1,none⟩=some (.int .i64 x.pr)∧W.cell? ⟨g,2,none⟩=some (.int .i64 x.pe)∧W.cell? ⟨g,3,none⟩=some (.int .i64 x.li)∧W.cell? ⟨g,4,none⟩=some (.slice x.code.a x.code.l.length x.code.c):=⟨h.cell 0,h.cell 1,h.cell 2,h.cell 3,h.cell 4⟩
theorem PartV.kl{x:PartV}{W:World}{g:Nat}(h:Blk W g 75 #[.string x.nm,.int .i64 x.pe,.int .i64 x.le,.int .i64 x.mem,.slice x.semas.a x.semas.l.length x.semas.c,.int .i64 x.ev,.int .i64 x.bo,.slice x.bufs.a x.bufs.l.length x.bufs.c,.slice x.ports.a x.ports.l.length x.ports.c,.slice x.procs.a x.procs.l.length x.procs.c]):W.cell? ⟨g,0,none⟩=some (.string x.nm)∧W.cell? ⟨g,1,none⟩=some (.int .i64 x.pe)∧W.cell? ⟨g,2,none⟩=some (.int .i64 x.le)∧W.cell? ⟨g,3,none⟩=some (.int .i64 x.mem)∧W.cell? ⟨g,4,none⟩=some (.slice x.semas.a x.semas.l.length x.semas.c)∧W.cell? ⟨g,5,none⟩=some (.int .i64 x.ev)∧W.cell? ⟨g,6,none⟩=some (.int .i64 x.bo)∧W.cell? ⟨g,7,none⟩=some (.slice x.bufs.a x.bufs.l.length x.bufs.c)∧W.cell? ⟨g,8,none⟩=some (.slice x.ports.a x.ports.l.length x.ports.c)∧W.cell? ⟨g,9,none⟩=some (.slice x.procs.a x.procs.l.length x.procs.c):=⟨h.cell 0,h.cell 1,h.cell 2,h.cell 3,h.cell 4,h.cell 5,h.cell 6,h.cell 7,h.cell 8,h.cell 9⟩
theorem ModV.kl{x:ModV}{W:World}{g:Nat}(h:Blk W g 70 #[.string x.nm,.int .i64 x.mem,.int .i64 x.fr,.slice x.parts.a x.parts.l.length x.parts.c]):W.cell? ⟨g,0,none⟩=some (.string x.nm)∧W.cell? ⟨g,1,none⟩=some (.int .i64 x.mem)∧W.cell? ⟨g,2,none⟩=some (.int .i64 x.fr)∧W.cell? ⟨g,3,none⟩=some (.slice x.parts.a x.parts.l.length x.parts.c):=⟨h.cell 0,h.cell 1,h.cell 2,h.cell 3⟩
theorem ChanV.kl{x:ChanV}{W:World}{g:Nat}(h:Blk W g 85 #[.string x.src.m,.string x.src.p,.string x.src.o,.slice x.dst.a x.dst.l.length x.dst.c]):W.cell? ⟨g,0,none⟩=some (.string x.src.m)∧W.cell? ⟨g,1,none⟩=some (.string x.src.p)∧W.cell? ⟨g,2,none⟩=some (.string x.src.o)∧W.cell? ⟨g,3,none⟩=some (.slice x.dst.a x.dst.l.length x.dst.c):=⟨h.cell 0,h.cell 1,h.cell 2,h.cell 3⟩
theorem SwV.kl{x:SwV}{W:World}{g:Nat}(h:Blk W g 90 #[.string x.nm,.int .i64 x.net,.int .i64 x.dl,.int .i64 x.st]):W.cell? ⟨g,0,none⟩=some (.string x.nm)∧W.cell? ⟨g,1,none⟩=some (.int .i64 x.net)∧W.cell? ⟨g,2,none⟩=some (.int .i64 x.dl)∧W.cell? ⟨g,3,none⟩=some (.int .i64 x.st):=⟨h.cell 0,h.cell 1,h.cell 2,h.cell 3⟩
theorem LinkV.kl{x:LinkV}{W:World}{g:Nat}(h:Blk W g 92 #[.string x.a,.string x.b,.int .i64 x.net,.int .i64 x.slow]):W.cell? ⟨g,0,none⟩=some (.string x.a)∧W.cell? ⟨g,1,none⟩=some (.string x.b)∧W.cell? ⟨g,2,none⟩=some (.int .i64 x.net)∧W.cell? ⟨g,3,none⟩=some (.int .i64 x.slow):=⟨h.cell 0,h.cell 1,h.cell 2,h.cell 3⟩
theorem VlV.kl{x:VlV}{W:World}{g:Nat}(h:Blk W g 88 #[.string x.nm,.string x.src.m,.string x.src.p,.string x.src.o,.int .i64 x.bag,.int .i64 x.mx,.slice x.dst.a x.dst.l.length x.dst.c]):W.cell? ⟨g,0,none⟩=some (.string x.nm)∧W.cell? ⟨g,1,none⟩=some (.string x.src.m)∧W.cell? ⟨g,2,none⟩=some (.string x.src.p)∧W.cell? ⟨g,3,none⟩=some (.string x.src.o)∧W.cell? ⟨g,4,none⟩=some (.int .i64 x.bag)∧W.cell? ⟨g,5,none⟩=some (.int .i64 x.mx)∧W.cell? ⟨g,6,none⟩=some (.slice x.dst.a x.dst.l.length x.dst.c):=⟨h.cell 0,h.cell 1,h.cell 2,h.cell 3,h.cell 4,h.cell 5,h.cell 6⟩
theorem HeaV.kl{x:HeaV}{W:World}{g:Nat}(h:Blk W g 94 #[.string x.m,.string x.p,.int .u8 x.flt,.int .u8 x.lv,.int .u8 x.dd]):W.cell? ⟨g,0,none⟩=some (.string x.m)∧W.cell? ⟨g,1,none⟩=some (.string x.p)∧W.cell? ⟨g,2,none⟩=some (.int .u8 x.flt)∧W.cell? ⟨g,3,none⟩=some (.int .u8 x.lv)∧W.cell? ⟨g,4,none⟩=some (.int .u8 x.dd):=⟨h.cell 0,h.cell 1,h.cell 2,h.cell 3,h.cell 4⟩
theorem VsnV.kl{x:VsnV}{W:World}{g:Nat}(h:Blk W g 96 #[.string x.a,.int .i64 x.va,.string x.b,.int .i64 x.vb]):W.cell? ⟨g,0,none⟩=some (.string x.a)∧W.cell? ⟨g,1,none⟩=some (.int .i64 x.va)∧W.cell? ⟨g,2,none⟩=some (.string x.b)∧W.cell? ⟨g,3,none⟩=some (.int .i64 x.vb):=⟨h.cell 0,h.cell 1,h.cell 2,h.cell 3⟩
theorem Rep.kl{x:Rep}{W:World}{g:Nat}(h:Blk W g 41 #[.string x.unit,.int .i64 x.code]):W.cell? ⟨g,0,none⟩=some (.string x.unit)∧W.cell? ⟨g,1,none⟩=some (.int .i64 x.code):=⟨h.cell 0,h.cell 1⟩
theorem CsV.kl{x:CsV}{W:World}{g:Nat}(h:Blk W g 48 #[.string x.c.unit,.slice x.n.a x.n.n x.n.c,.slice x.x.a x.x.n x.x.c]):W.cell? ⟨g,0,none⟩=some (.string x.c.unit)∧W.cell? ⟨g,1,none⟩=some (.slice x.n.a x.n.n x.n.c)∧W.cell? ⟨g,2,none⟩=some (.slice x.x.a x.x.n x.x.c):=⟨h.cell 0,h.cell 1,h.cell 2⟩
theorem CfgV.kl{x:CfgV}{W:World}{g:Nat}(h:Blk W g 31 #[.slice x.mods.a x.mods.l.length x.mods.c,.slice x.chans.a x.chans.l.length x.chans.c,.slice x.sws.a x.sws.l.length x.sws.c,.slice x.links.a x.links.l.length x.links.c,.slice x.vls.a x.vls.l.length x.vls.c,.slice x.hea.a x.hea.l.length x.hea.c,.slice x.causes.a x.causes.l.length x.causes.c,.slice x.vers.a x.vers.l.length x.vers.c]):W.cell? ⟨g,0,none⟩=some (.slice x.mods.a x.mods.l.length x.mods.c)∧W.cell? ⟨g,1,none⟩=some (.slice x.chans.a x.chans.l.length x.chans.c)∧W.cell? ⟨g,2,none⟩=some (.slice x.sws.a x.sws.l.length x.sws.c)∧W.cell? ⟨g,3,none⟩=some (.slice x.links.a x.links.l.length x.links.c)∧W.cell? ⟨g,4,none⟩=some (.slice x.vls.a x.vls.l.length x.vls.c)∧W.cell? ⟨g,5,none⟩=some (.slice x.hea.a x.hea.l.length x.hea.c)∧W.cell? ⟨g,6,none⟩=some (.slice x.causes.a x.causes.l.length x.causes.c)∧W.cell? ⟨g,7,none⟩=some (.slice x.vers.a x.vers.l.length x.vers.c):=⟨h.cell 0,h.cell 1,h.cell 2,h.cell 3,h.cell 4,h.cell 5,h.cell 6,h.cell 7⟩
theorem tkS{ops:Array Oper}{Q:Exit→Act→World→Prop}{S:World→Prop}{md:Region.Mode}{s:Nat}(i:Nat){oi:Oper}{v:Value}{fuel:Nat}{listed:Array Bool}{a:Act}{w:World}(hi:ops[i]?=some oi)(hS:S w)(hy:Region.wanted oi (yielded ops a.tmps)=true∧∀w,S w→(execOp a.eval oi).run Tryz.prog w= .ok (.value v) w)
 (h:wpAnyS Tryz.prog md ops Q S s fuel (listed.setIfInBounds i true) (a.put oi.dst v) w) (hs:Region.noSelect ops=true:=by kernel_rfl) (hf:Region.free md ops listed i=true:=by kernel_rfl) (hr:(Region.ready md ops listed).contains i=true:=by kernel_rfl) (hw:waits md ops (after_ md ops i) s i listed=true:=by kernel_rfl)
 (hQ:∀c a w,Q (.panic c) (a.put oi.dst v) w→Q (.panic c) a w:=by exact fun c a w h=>h):wpAnyS Tryz.prog md ops Q S s (fuel+1) listed a w:=wpAnyS_take hi hs hf hr hw hQ (Or.inl hy) hS h
theorem tkY{q:Prop}(z:q:=by
 intro w hSw;first
 | obtain⟨hS0,hS1,hS2,hS3,hS4,hS5,hS6,hS7,hS8,hS9,hS10,hS11,hS12⟩:=hSw
 | obtain⟨hS0,hS1,hS2,hS3,hS4,hS5,hS6,hS7,hS8,hS9⟩:=hSw
 | obtain⟨hS0,hS1,hS2,hS3,hS4,hS5,hS6,hS7,hS8⟩:=hSw
 | obtain⟨hS0,hS1,hS2,hS3,hS4,hS5,hS6,hS7⟩:=hSw
 | obtain⟨hS0,hS1,hS2,hS3,hS4,hS5,hS6⟩:=hSw
 | obtain⟨hS0,hS1,hS2,hS3,hS4⟩:=hSw
 | obtain⟨hS0,hS1,hS2⟩:=hSw
 | obtain⟨hS0,hS1⟩:=hSw
 exact gz):q:=z
theorem e0{p:Prop}(h:p:=by go_wp2_with fail;rw[←Hy0.out];go_ret;exact⟨by rw[HF.out];rfl,bt HB0 HY0⟩):p:=h
theorem e1{p:Prop}(h:p:=by go_wp2_with fail;go_ret;exact⟨by rw[HF.out];rfl,bt HB0 HY1⟩):p:=h
theorem e2{p:Prop}(h:p:=by go_wp2_with fail;go_ret;exact⟨by rw[HF.out];rfl,bt HB0 HY2⟩):p:=h
theorem e3{p:Prop}(h:p:=by go_wp2_with fail;go_ret;exact⟨by rw[HF.out];rfl,bt HB0 HY3⟩):p:=h
theorem e4{p:Prop}(h:p:=by go_wp2_with fail;go_ret;exact⟨by rw[HF.out];rfl,bt HB0 HY4⟩):p:=h
theorem e5{p:Prop}(h:p:=by go_wp2_with fail;go_ret;exact⟨by rw[HF.out];rfl,bt HB0 HY5⟩):p:=h
theorem e6{p:Prop}(h:p:=by go_wp2_with fail;go_ret;exact⟨by rw[HF.out];rfl,bt HB0 HY6⟩):p:=h
theorem e7{p:Prop}(h:p:=by go_wp2_with fail;go_ret;exact⟨by rw[HF.out];rfl,bt HB0 HY7⟩):p:=h
theorem e8{p:Prop}(h:p:=by go_wp2_with fail;go_ret;exact⟨by rw[HF.out];rfl,bt HB0 HY8⟩):p:=h
theorem e9{p:Prop}(h:p:=by go_wp2_with fail;go_ret;exact⟨by rw[HF.out];rfl,bt HB0 HY9⟩):p:=h
theorem pIdx{q:Prop}(z:q:=by
 go_wp2;go_loopw [5,8] (fun _ i wr=>∃k:Nat,k≤l.length∧i= .int .i64 k∧Below w.heap.size w wr∧Hid (∀j (h:j<l.length),j<k→p l[j]=false)) (fun _ i _=>l.length-(intOf i).toNat)
 case atStart=>exact⟨0,Nat.zero_le _,rfl,Below.refl _ _,fun j _ h=>absurd h (by omega)⟩
 case round=>
  obtain⟨k,hk,rfl,hB,hall⟩:=hrel;by_cases hlt:k<l.length
  ·obtain⟨b,o,rfl,hb,hc⟩:=h.keep hB (by omega)
   have hck:=hc k hlt;have hcall:CU g (#[(l[k]).val]++lb) wr (.bool (p l[k])):=by
    first
    | exact hp wr l[k] (List.getElem_mem hlt) hB
    | exact hp wr l[k] (List.getElem_mem hlt) hB (hck.2.2.2.2.more hB.size)
    | exact hp wr l[k] (List.getElem_mem hlt) hB (hck.2.2.2.2.2.more hB.size)
    | exact hp wr l[k] (List.getElem_mem hlt) hB (hck.2.2.2.2.2.2.more hB.size)
    | exact hp wr l[k] (List.getElem_mem hlt) hB (hck.2.2.2.2.2.2.2.more hB.size)
    | exact hp wr l[k] (List.getElem_mem hlt) hB (hck.2.2.2.2.2.2.2.2.2.2.more hB.size)
   clear hc hp h;have hs:=hB.size;have hfin:p l[k]=true→idxI p l=k:=fun hq=>idxI_hit hlt hq hall.out
   have hnext:p l[k]=false→∀j (h:j<l.length),j<k+1→p l[j]=false:=fun hq=>forall_succ (p:=fun r=>p r=false) hall.out hq
   have Hfin:=lz hfin;have Hnext:=lz hnext;clear hfin hnext hall;generalize l[k]=r at hck hcall Hfin Hnext;first
   | obtain⟨c0,c1,c2,c3,c4,c5,c6,c7,c8,c9,_⟩:=hck
   | obtain⟨c0,c1,c2,c3,c4,c5,c6,_⟩:=hck
   | obtain⟨c0,c1,c2,c3,c4,c5,_⟩:=hck
   | obtain⟨c0,c1,c2,c3,c4,_⟩:=hck
   | obtain⟨c0,c1,c2,c3,_⟩:=hck
   | obtain⟨c0,c1,c2,c3⟩:=hck
   | obtain⟨c0,c1,c2⟩:=hck
   have Hcall:=lz hcall;clear hcall
   cases hq:p r with
   | true=>
    have hfin:=lz (Hfin.out hq);rw[hq]at Hcall;clear Hfin Hnext hq;go_wp2_with (go_at_fn g;refine Hcall.out.mono ?_;rintro e w' ⟨rfl,hb'⟩);go_ret;exact⟨ret_int hfin.out.symm,hB.trans (hb'.mono hs)⟩
   | false=>
    have hnext:=lz (Hnext.out hq);rw[hq]at Hcall;clear Hfin Hnext hq;go_wp2_with (go_at_fn g;refine Hcall.out.mono ?_;rintro e w' ⟨rfl,hb'⟩);go_roundw
    case rel=>exact⟨k+1,by omega,by go_num,hB.trans (hb'.mono hs),hnext⟩
    case measure=>simp[intOf];omega
  ·go_wp2
   go_ret;exact⟨ret_int (idxI_miss fun j hj=>hall.out j hj (by omega)).symm,hB⟩):q:=z
theorem pCon{q:Prop}(z:q:=by
 go_wp2_with fail;refine hI.mono ?_;rintro e w1 ⟨rfl,hb1⟩;clear hI;go_wp2;go_ret;exact⟨rfl,hb1⟩):q:=z
theorem pNot{q:Prop}(z:q:=by
 have Hc:=lz (hcall (W.alloc x.obj) ((Below.refl _ W).alloc (Nat.le_refl _) _));have c0:(W.alloc x.obj).cell? ⟨Bx,0,none⟩=some (.func (.func g) #[] lb):=(hb.alloc _).cell 0;have hlt:=hb.lt;clear hcall hb;go_wp2_with (go_at_fn g;refine Hc.out.mono ?_;rintro e w' ⟨rfl,hb'⟩);go_ret;exact⟨rfl,((Below.refl _ W).alloc (Nat.le_refl _) x.obj).trans (hb'.mono (by simp))⟩):q:=z
theorem pAll{q:Prop}(z:q:=by
 have Hcon:=lz hcon;have HB1:=lz hB1;generalize l.all p=b at *;clear h1 hB1 hcon hp h;go_wp2_with fail;refine Hcon.out.mono ?_;rintro e w1 ⟨rfl,hb1⟩;have HB:=lz (HB1.out.trans (hb1.mono HB1.out.size));clear Hcon hb1;go_wp2;go_ret;exact⟨by cases b<;>rfl,HB.out⟩):q:=z
theorem index_Ins:ListI 228 PredIns RdIns:=by
 intro g lb p eg l A c w hp h hl;go_enter Tryz.func228,Tryz.ntmps228;exact pIdx
theorem contains_Ins:ListN 161 PredIns RdIns:=by
 intro g lb p eg l A c w hp h hl;have hI:=index_Ins g lb p eg l A c w hp h hl;rw[←idxI_ge];generalize idxI p l=q at hI ⊢;clear h hp;go_enter Tryz.func161,Tryz.ntmps161;exact pCon
theorem index_Ref:ListI 318 PredRef RdRef:=by
 intro g lb p eg l A c w hp h hl;go_enter Tryz.func318,Tryz.ntmps318;exact pIdx
theorem contains_Ref:ListN 297 PredRef RdRef:=by
 intro g lb p eg l A c w hp h hl;have hI:=index_Ref g lb p eg l A c w hp h hl;rw[←idxI_ge];generalize idxI p l=q at hI ⊢;clear h hp;go_enter Tryz.func297,Tryz.ntmps297;exact pCon
theorem index_Port:ListI 224 PredPort RdPort:=by
 intro g lb p eg l A c w hp h hl;go_enter Tryz.func224,Tryz.ntmps224;exact pIdx
theorem contains_Port:ListN 137 PredPort RdPort:=by
 intro g lb p eg l A c w hp h hl;have hI:=index_Port g lb p eg l A c w hp h hl;rw[←idxI_ge];generalize idxI p l=q at hI ⊢;clear h hp;go_enter Tryz.func137,Tryz.ntmps137;exact pCon
theorem index_Proc:ListI 225 PredProc RdProc:=by
 intro g lb p eg l A c w hp h hl;go_enter Tryz.func225,Tryz.ntmps225;exact pIdx
theorem contains_Proc:ListN 139 PredProc RdProc:=by
 intro g lb p eg l A c w hp h hl;have hI:=index_Proc g lb p eg l A c w hp h hl;rw[←idxI_ge];generalize idxI p l=q at hI ⊢;clear h hp;go_enter Tryz.func139,Tryz.ntmps139;exact pCon
theorem index_Part:ListI 226 PredPart RdPart:=by
 intro g lb p eg l A c w hp h hl;go_enter Tryz.func226,Tryz.ntmps226;exact pIdx
theorem contains_Part:ListN 141 PredPart RdPart:=by
 intro g lb p eg l A c w hp h hl;have hI:=index_Part g lb p eg l A c w hp h hl;rw[←idxI_ge];generalize idxI p l=q at hI ⊢;clear h hp;go_enter Tryz.func141,Tryz.ntmps141;exact pCon
theorem index_Module:ListI 174 PredModule RdModule:=by
 intro g lb p eg l A c w hp h hl;go_enter Tryz.func174,Tryz.ntmps174;exact pIdx
theorem contains_Module:ListN 145 PredModule RdModule:=by
 intro g lb p eg l A c w hp h hl;have hI:=index_Module g lb p eg l A c w hp h hl;rw[←idxI_ge];generalize idxI p l=q at hI ⊢;clear h hp;go_enter Tryz.func145,Tryz.ntmps145;exact pCon
theorem index_Channel:ListI 260 PredChannel RdChannel:=by
 intro g lb p eg l A c w hp h hl;go_enter Tryz.func260,Tryz.ntmps260;exact pIdx
theorem contains_Channel:ListN 207 PredChannel RdChannel:=by
 intro g lb p eg l A c w hp h hl;have hI:=index_Channel g lb p eg l A c w hp h hl;rw[←idxI_ge];generalize idxI p l=q at hI ⊢;clear h hp;go_enter Tryz.func207,Tryz.ntmps207;exact pCon
theorem index_Switch:ListI 156 PredSwitch RdSwitch:=by
 intro g lb p eg l A c w hp h hl;go_enter Tryz.func156,Tryz.ntmps156;exact pIdx
theorem contains_Switch:ListN 147 PredSwitch RdSwitch:=by
 intro g lb p eg l A c w hp h hl;have hI:=index_Switch g lb p eg l A c w hp h hl;rw[←idxI_ge];generalize idxI p l=q at hI ⊢;clear h hp;go_enter Tryz.func147,Tryz.ntmps147;exact pCon
theorem index_Link:ListI 227 PredLink RdLink:=by
 intro g lb p eg l A c w hp h hl;go_enter Tryz.func227,Tryz.ntmps227;exact pIdx
theorem contains_Link:ListN 149 PredLink RdLink:=by
 intro g lb p eg l A c w hp h hl;have hI:=index_Link g lb p eg l A c w hp h hl;rw[←idxI_ge];generalize idxI p l=q at hI ⊢;clear h hp;go_enter Tryz.func149,Tryz.ntmps149;exact pCon
theorem index_VL:ListI 237 PredVL RdVL:=by
 intro g lb p eg l A c w hp h hl;go_enter Tryz.func237,Tryz.ntmps237;exact pIdx
theorem contains_VL:ListN 172 PredVL RdVL:=by
 intro g lb p eg l A c w hp h hl;have hI:=index_VL g lb p eg l A c w hp h hl;rw[←idxI_ge];generalize idxI p l=q at hI ⊢;clear h hp;go_enter Tryz.func172,Tryz.ntmps172;exact pCon
theorem index_Health:ListI 238 PredHealth RdHealth:=by
 intro g lb p eg l A c w hp h hl;go_enter Tryz.func238,Tryz.ntmps238;exact pIdx
theorem contains_Health:ListN 176 PredHealth RdHealth:=by
 intro g lb p eg l A c w hp h hl;have hI:=index_Health g lb p eg l A c w hp h hl;rw[←idxI_ge];generalize idxI p l=q at hI ⊢;clear h hp;go_enter Tryz.func176,Tryz.ntmps176;exact pCon
theorem index_Version:ListI 239 PredVersion RdVersion:=by
 intro g lb p eg l A c w hp h hl;go_enter Tryz.func239,Tryz.ntmps239;exact pIdx
theorem contains_Version:ListN 178 PredVersion RdVersion:=by
 intro g lb p eg l A c w hp h hl;have hI:=index_Version g lb p eg l A c w hp h hl;rw[←idxI_ge];generalize idxI p l=q at hI ⊢;clear h hp;go_enter Tryz.func178,Tryz.ntmps178;exact pCon
theorem not_call_Port:NotS PortV.val 138 129:=by
 intro g lb eg Bx b x W hb hcall;go_enter Tryz.func138,Tryz.ntmps138;exact pNot
theorem call_Port:ListA 51 PredPort RdPort:=by
 intro g lb p eg l A c w hp h hl;obtain⟨h1,hB1⟩:=box_new w 129 #[.func (.func g) #[] lb];have hcon:=contains_Port 138 #[.pointer (some ⟨w.heap.size,0,none⟩)] (fun x=> !p x) (enters_of Tryz.func138 kz rfl) l A c _ (fun W x hx hW hrd=>not_call_Port g lb eg _ (p x) x W (h1.below hW h1.lt) fun W' hW'=>hp W' x hx (bl3 hB1 hW hW') (hrd.below hW')) (h.below hB1) hl;rw[any_not]at hcon;go_enter Tryz.func51,Tryz.ntmps51;exact pAll
theorem not_call_Proc:NotS ProcV.val 140 130:=by
 intro g lb eg Bx b x W hb hcall;go_enter Tryz.func140,Tryz.ntmps140;exact pNot
theorem call_Proc:ListA 52 PredProc RdProc:=by
 intro g lb p eg l A c w hp h hl;obtain⟨h1,hB1⟩:=box_new w 130 #[.func (.func g) #[] lb];have hcon:=contains_Proc 140 #[.pointer (some ⟨w.heap.size,0,none⟩)] (fun x=> !p x) (enters_of Tryz.func140 kz rfl) l A c _ (fun W x hx hW hrd=>not_call_Proc g lb eg _ (p x) x W (h1.below hW h1.lt) fun W' hW'=>hp W' x hx (bl3 hB1 hW hW') (hrd.below hW')) (h.below hB1) hl;rw[any_not]at hcon;go_enter Tryz.func52,Tryz.ntmps52;exact pAll
theorem not_call_Part:NotS PartV.val 142 133:=by
 intro g lb eg Bx b x W hb hcall;go_enter Tryz.func142,Tryz.ntmps142;exact pNot
theorem call_Part:ListA 54 PredPart RdPart:=by
 intro g lb p eg l A c w hp h hl;obtain⟨h1,hB1⟩:=box_new w 133 #[.func (.func g) #[] lb];have hcon:=contains_Part 142 #[.pointer (some ⟨w.heap.size,0,none⟩)] (fun x=> !p x) (enters_of Tryz.func142 kz rfl) l A c _ (fun W x hx hW hrd=>not_call_Part g lb eg _ (p x) x W (h1.below hW h1.lt) fun W' hW'=>hp W' x hx (bl3 hB1 hW hW') (hrd.below hW')) (h.below hB1) hl;rw[any_not]at hcon;go_enter Tryz.func54,Tryz.ntmps54;exact pAll
theorem not_call_Module:NotS ModV.val 146 135:=by
 intro g lb eg Bx b x W hb hcall;go_enter Tryz.func146,Tryz.ntmps146;exact pNot
theorem call_Module:ListA 61 PredModule RdModule:=by
 intro g lb p eg l A c w hp h hl;obtain⟨h1,hB1⟩:=box_new w 135 #[.func (.func g) #[] lb];have hcon:=contains_Module 146 #[.pointer (some ⟨w.heap.size,0,none⟩)] (fun x=> !p x) (enters_of Tryz.func146 kz rfl) l A c _ (fun W x hx hW hrd=>not_call_Module g lb eg _ (p x) x W (h1.below hW h1.lt) fun W' hW'=>hp W' x hx (bl3 hB1 hW hW') (hrd.below hW')) (h.below hB1) hl;rw[any_not]at hcon;go_enter Tryz.func61,Tryz.ntmps61;exact pAll
theorem not_call_Switch:NotS SwV.val 148 136:=by
 intro g lb eg Bx b x W hb hcall;go_enter Tryz.func148,Tryz.ntmps148;exact pNot
theorem call_Switch:ListA 62 PredSwitch RdSwitch:=by
 intro g lb p eg l A c w hp h hl;obtain⟨h1,hB1⟩:=box_new w 136 #[.func (.func g) #[] lb];have hcon:=contains_Switch 148 #[.pointer (some ⟨w.heap.size,0,none⟩)] (fun x=> !p x) (enters_of Tryz.func148 kz rfl) l A c _ (fun W x hx hW=>not_call_Switch g lb eg _ (p x) x W (h1.below hW h1.lt) fun W' hW'=>hp W' x hx (bl3 hB1 hW hW')) (h.below hB1) hl;rw[any_not]at hcon;go_enter Tryz.func62,Tryz.ntmps62;exact pAll
theorem not_call_Link:NotS LinkV.val 150 137:=by
 intro g lb eg Bx b x W hb hcall;go_enter Tryz.func150,Tryz.ntmps150;exact pNot
theorem call_Link:ListA 63 PredLink RdLink:=by
 intro g lb p eg l A c w hp h hl;obtain⟨h1,hB1⟩:=box_new w 137 #[.func (.func g) #[] lb];have hcon:=contains_Link 150 #[.pointer (some ⟨w.heap.size,0,none⟩)] (fun x=> !p x) (enters_of Tryz.func150 kz rfl) l A c _ (fun W x hx hW=>not_call_Link g lb eg _ (p x) x W (h1.below hW h1.lt) fun W' hW'=>hp W' x hx (bl3 hB1 hW hW')) (h.below hB1) hl;rw[any_not]at hcon;go_enter Tryz.func63,Tryz.ntmps63;exact pAll
theorem not_call_VL:NotS VlV.val 173 178:=by
 intro g lb eg Bx b x W hb hcall;go_enter Tryz.func173,Tryz.ntmps173;exact pNot
theorem call_VL:ListA 87 PredVL RdVL:=by
 intro g lb p eg l A c w hp h hl;obtain⟨h1,hB1⟩:=box_new w 178 #[.func (.func g) #[] lb];have hcon:=contains_VL 173 #[.pointer (some ⟨w.heap.size,0,none⟩)] (fun x=> !p x) (enters_of Tryz.func173 kz rfl) l A c _ (fun W x hx hW hrd=>not_call_VL g lb eg _ (p x) x W (h1.below hW h1.lt) fun W' hW'=>hp W' x hx (bl3 hB1 hW hW') (hrd.below hW')) (h.below hB1) hl;rw[any_not]at hcon;go_enter Tryz.func87,Tryz.ntmps87;exact pAll
theorem not_call_Ins:NotS InsV.val 162 169:=by
 intro g lb eg Bx b x W hb hcall;go_enter Tryz.func162,Tryz.ntmps162;exact pNot
theorem call_Ins:ListA 81 PredIns RdIns:=by
 intro g lb p eg l A c w hp h hl;obtain⟨h1,hB1⟩:=box_new w 169 #[.func (.func g) #[] lb];have hcon:=contains_Ins 162 #[.pointer (some ⟨w.heap.size,0,none⟩)] (fun x=> !p x) (enters_of Tryz.func162 kz rfl) l A c _ (fun W x hx hW hrd=>not_call_Ins g lb eg _ (p x) x W (h1.below hW h1.lt) fun W' hW'=>hp W' x hx (bl3 hB1 hW hW') (hrd.below hW')) (h.below hB1) hl;rw[any_not]at hcon;go_enter Tryz.func81,Tryz.ntmps81;exact pAll
theorem not_call_Health:NotS HeaV.val 177 181:=by
 intro g lb eg Bx b x W hb hcall;go_enter Tryz.func177,Tryz.ntmps177;exact pNot
theorem call_Health:ListA 92 PredHealth RdHealth:=by
 intro g lb p eg l A c w hp h hl;obtain⟨h1,hB1⟩:=box_new w 181 #[.func (.func g) #[] lb];have hcon:=contains_Health 177 #[.pointer (some ⟨w.heap.size,0,none⟩)] (fun x=> !p x) (enters_of Tryz.func177 kz rfl) l A c _ (fun W x hx hW hrd=>not_call_Health g lb eg _ (p x) x W (h1.below hW h1.lt) fun W' hW'=>hp W' x hx (bl3 hB1 hW hW') (hrd.below hW')) (h.below hB1) hl;rw[any_not]at hcon;go_enter Tryz.func92,Tryz.ntmps92;exact pAll
theorem not_call_Version:NotS VsnV.val 179 182:=by
 intro g lb eg Bx b x W hb hcall;go_enter Tryz.func179,Tryz.ntmps179;exact pNot
theorem call_Version:ListA 93 PredVersion RdVersion:=by
 intro g lb p eg l A c w hp h hl;obtain⟨h1,hB1⟩:=box_new w 182 #[.func (.func g) #[] lb];have hcon:=contains_Version 179 #[.pointer (some ⟨w.heap.size,0,none⟩)] (fun x=> !p x) (enters_of Tryz.func179 kz rfl) l A c _ (fun W x hx hW=>not_call_Version g lb eg _ (p x) x W (h1.below hW h1.lt) fun W' hW'=>hp W' x hx (bl3 hB1 hW hW')) (h.below hB1) hl;rw[any_not]at hcon;go_enter Tryz.func93,Tryz.ntmps93;exact pAll
end Go.Proofs.YtchfcgilpjkmhaaGreatDoor
