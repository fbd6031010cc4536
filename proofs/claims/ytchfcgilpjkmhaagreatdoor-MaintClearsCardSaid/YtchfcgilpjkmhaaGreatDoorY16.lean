import Derived.Test.YtchfcgilpjkmhaaGreatDoorY14
import Derived.Test.YtchfcgilpjkmhaaGreatDoorY13
import Derived.Test.YtchfcgilpjkmhaaGreatDoorY15
import Derived.Test.YtchfcgilpjkmhaaGreatDoorY0
set_option maxRecDepth 100000
set_option linter.unusedSimpArgs false
set_option linter.unusedVariables false
set_option linter.unusedSectionVars false
namespace Go.Proofs.YtchfcgilpjkmhaaGreatDoor
open Go.ChangeShapes Go.WideShapes Go.ChangeAt Go.RowKit
attribute [local go_sem] Oper.semAt_some
structure Sl(α:Type) where
 a:Option Addr
 c:Nat
 l:List α
abbrev Sl.val{α:Type}(s:Sl α):Value:= .slice s.a s.l.length s.c
theorem RdInt.to_{w w':World}{B B':Nat}{A:Option Addr}{l:List Int}(h:RdInt w B A l)(hB:B≤B')(hk:∀b o,b<B→w'.cell? ⟨b,o,none⟩=w.cell? ⟨b,o,none⟩):RdInt w' B' A l:=fun hn=>by
 obtain⟨b,o,rfl,hbB,hc⟩:=h hn;exact⟨b,o,rfl,by omega,fun i hi=>(hk b _ hbB).trans (hc i hi)⟩
theorem RdInt.below{w w':World}{A:Option Addr}{l:List Int}(h:RdInt w w.heap.size A l)(hb:Below w.heap.size w w'):RdInt w' w'.heap.size A l:=h.to_ hb.size (bcell hb)
theorem RdInt.more{w:World}{B B':Nat}{A:Option Addr}{l:List Int}(h:RdInt w B A l)(hB:B≤B'):RdInt w B' A l:=h.to_ hB fun _ _ _=>rfl
structure InsV where
 op:Int
 a:Int
 b:Int
 d:Int
abbrev InsV.val(x:InsV):Value:= .agg #[.int .u8 x.op,.int .i64 x.a,.int .i64 x.b,.int .i64 x.d]
structure InsV.rd(w:World)(B:Nat)(x:InsV):Prop where
 op0:0≤x.op∧x.op≤255
theorem InsV.rd.to_{w w':World}{B B':Nat}{x:InsV}(h:x.rd w B)(hB:B≤B')(hk:∀b o,b<B→w'.cell? ⟨b,o,none⟩=w.cell? ⟨b,o,none⟩):x.rd w' B':=
 ⟨h.op0⟩
theorem InsV.rd.below{w w':World}{x:InsV}(h:x.rd w w.heap.size)(hb:Below w.heap.size w w'):x.rd w' w'.heap.size:=h.to_ hb.size (bcell hb)
theorem InsV.rd.more{w:World}{B B':Nat}{x:InsV}(h:x.rd w B)(hB:B≤B'):x.rd w B':=h.to_ hB fun _ _ _=>rfl
def RdIns(w:World)(B:Nat)(A:Option Addr)(l:List InsV):Prop:=
 0<l.length→∃b o,A=some ⟨b,o,none⟩∧b<B∧∀i (h:i<l.length),w.cell? ⟨b,o+i*4,none⟩=some (.int .u8 l[i].op)∧w.cell? ⟨b,o+i*4+1,none⟩=some (.int .i64 l[i].a)∧w.cell? ⟨b,o+i*4+2,none⟩=some (.int .i64 l[i].b)∧w.cell? ⟨b,o+i*4+3,none⟩=some (.int .i64 l[i].d)∧l[i].rd w B
theorem RdIns.to_{w w':World}{B B':Nat}{A:Option Addr}{l:List InsV}(h:RdIns w B A l)(hB:B≤B')(hk:∀b o,b<B→w'.cell? ⟨b,o,none⟩=w.cell? ⟨b,o,none⟩):RdIns w' B' A l:=fun hn=>by
 obtain⟨b,o,rfl,hbB,hc⟩:=h hn;refine⟨b,o,rfl,by omega,fun i hi=> ?_⟩;obtain⟨c0,c1,c2,c3,hr⟩:=hc i hi;exact⟨(hk b _ hbB).trans c0,(hk b _ hbB).trans c1,(hk b _ hbB).trans c2,(hk b _ hbB).trans c3,hr.to_ hB hk⟩
theorem RdIns.below{w w':World}{A:Option Addr}{l:List InsV}(h:RdIns w w.heap.size A l)(hb:Below w.heap.size w w'):RdIns w' w'.heap.size A l:=h.to_ hb.size (bcell hb)
theorem RdIns.keep{w w':World}{B:Nat}{A:Option Addr}{l:List InsV}(h:RdIns w B A l)(hb:Below B w w'):RdIns w' B A l:=h.to_ (Nat.le_refl _) (bcell hb)
theorem RdIns.more{w:World}{B B':Nat}{A:Option Addr}{l:List InsV}(h:RdIns w B A l)(hB:B≤B'):RdIns w B' A l:=h.to_ hB fun _ _ _=>rfl
def PredIns(g:Nat)(lb:Array Value)(p:InsV→Bool)(l:List InsV)(w:World):Prop:=
 ∀(W:World) (r:InsV),r∈l→Below w.heap.size w W→r.rd W W.heap.size→CU g (#[r.val]++lb) W (.bool (p r))
structure RefV where
 m:ByteArray
 p:ByteArray
 o:ByteArray
abbrev RefV.val(x:RefV):Value:= .agg #[.string x.m,.string x.p,.string x.o]
def RdRef(w:World)(B:Nat)(A:Option Addr)(l:List RefV):Prop:=
 0<l.length→∃b o,A=some ⟨b,o,none⟩∧b<B∧∀i (h:i<l.length),w.cell? ⟨b,o+i*3,none⟩=some (.string l[i].m)∧w.cell? ⟨b,o+i*3+1,none⟩=some (.string l[i].p)∧w.cell? ⟨b,o+i*3+2,none⟩=some (.string l[i].o)
theorem RdRef.to_{w w':World}{B B':Nat}{A:Option Addr}{l:List RefV}(h:RdRef w B A l)(hB:B≤B')(hk:∀b o,b<B→w'.cell? ⟨b,o,none⟩=w.cell? ⟨b,o,none⟩):RdRef w' B' A l:=fun hn=>by
 obtain⟨b,o,rfl,hbB,hc⟩:=h hn;refine⟨b,o,rfl,by omega,fun i hi=> ?_⟩;obtain⟨c0,c1,c2⟩:=hc i hi;exact⟨(hk b _ hbB).trans c0,(hk b _ hbB).trans c1,(hk b _ hbB).trans c2⟩
theorem RdRef.below{w w':World}{A:Option Addr}{l:List RefV}(h:RdRef w w.heap.size A l)(hb:Below w.heap.size w w'):RdRef w' w'.heap.size A l:=h.to_ hb.size (bcell hb)
theorem RdRef.keep{w w':World}{B:Nat}{A:Option Addr}{l:List RefV}(h:RdRef w B A l)(hb:Below B w w'):RdRef w' B A l:=h.to_ (Nat.le_refl _) (bcell hb)
theorem RdRef.more{w:World}{B B':Nat}{A:Option Addr}{l:List RefV}(h:RdRef w B A l)(hB:B≤B'):RdRef w B' A l:=h.to_ hB fun _ _ _=>rfl
def PredRef(g:Nat)(lb:Array Value)(p:RefV→Bool)(l:List RefV)(w:World):Prop:=
 ∀(W:World) (r:RefV),r∈l→Below w.heap.size w W→CU g (#[r.val]++lb) W (.bool (p r))
structure PortV where
 nm:ByteArray
 kd:Int
 out:Bool
 sz:Int
 dp:Int
 rf:Int
abbrev PortV.val(x:PortV):Value:= .agg #[.string x.nm,.int .u8 x.kd,.bool x.out,.int .i64 x.sz,.int .i64 x.dp,.int .i64 x.rf]
structure PortV.rd(w:World)(B:Nat)(x:PortV):Prop where
 kd0:0≤x.kd∧x.kd≤255
theorem PortV.rd.to_{w w':World}{B B':Nat}{x:PortV}(h:x.rd w B)(hB:B≤B')(hk:∀b o,b<B→w'.cell? ⟨b,o,none⟩=w.cell? ⟨b,o,none⟩):x.rd w' B':=
 ⟨h.kd0⟩
theorem PortV.rd.below{w w':World}{x:PortV}(h:x.rd w w.heap.size)(hb:Below w.heap.size w w'):x.rd w' w'.heap.size:=h.to_ hb.size (bcell hb)
theorem PortV.rd.more{w:World}{B B':Nat}{x:PortV}(h:x.rd w B)(hB:B≤B'):x.rd w B':=h.to_ hB fun _ _ _=>rfl
def RdPort(w:World)(B:Nat)(A:Option Addr)(l:List PortV):Prop:=
 0<l.length→∃b o,A=some ⟨b,o,none⟩∧b<B∧∀i (h:i<l.length),w.cell? ⟨b,o+i*6,none⟩=some (.string l[i].nm)∧w.cell? ⟨b,o+i*6+1,none⟩=some (.int .u8 l[i].kd)∧w.cell? ⟨b,o+i*6+2,none⟩=some (.bool l[i].out)∧w.cell? ⟨b,o+i*6+3,none⟩=some (.int .i64 l[i].sz)∧w.cell? ⟨b,o+i*6+4,none⟩=some (.int .i64 l[i].dp)∧w.cell? ⟨b,o+i*6+5,none⟩=some (.int .i64 l[i].rf)∧l[i].rd w B
theorem RdPort.to_{w w':World}{B B':Nat}{A:Option Addr}{l:List PortV}(h:RdPort w B A l)(hB:B≤B')(hk:∀b o,b<B→w'.cell? ⟨b,o,none⟩=w.cell? ⟨b,o,none⟩):RdPort w' B' A l:=fun hn=>by
 obtain⟨b,o,rfl,hbB,hc⟩:=h hn;refine⟨b,o,rfl,by omega,fun i hi=> ?_⟩;obtain⟨c0,c1,c2,c3,c4,c5,hr⟩:=hc i hi;exact⟨(hk b _ hbB).trans c0,(hk b _ hbB).trans c1,(hk b _ hbB).trans c2,(hk b _ hbB).trans c3,(hk b _ hbB).trans c4,(hk b _ hbB).trans c5,hr.to_ hB hk⟩
theorem RdPort.below{w w':World}{A:Option Addr}{l:List PortV}(h:RdPort w w.heap.size A l)(hb:Below w.heap.size w w'):RdPort w' w'.heap.size A l:=h.to_ hb.size (bcell hb)
theorem RdPort.keep{w w':World}{B:Nat}{A:Option Addr}{l:List PortV}(h:RdPort w B A l)(hb:Below B w w'):RdPort w' B A l:=h.to_ (Nat.le_refl _) (bcell hb)
theorem RdPort.more{w:World}{B B':Nat}{A:Option Addr}{l:List PortV}(h:RdPort w B A l)(hB:B≤B'):RdPort w B' A l:=h.to_ hB fun _ _ _=>rfl
def PredPort(g:Nat)(lb:Array Value)(p:PortV→Bool)(l:List PortV)(w:World):Prop:=
 ∀(W:World) (r:PortV),r∈l→Below w.heap.size w W→r.rd W W.heap.size→CU g (#[r.val]++lb) W (.bool (p r))
structure ProcV where
 nm:ByteArray
 pr:Int
 pe:Int
 li:Int
 code:Sl InsV
abbrev ProcV.val(x:ProcV):Value:= .agg #[.string x.nm,.int .i64 x.pr,.int .i64 x.pe,.int .i64 x.li,x.code.val]
structure ProcV.rd(w:World)(B:Nat)(x:ProcV):Prop where
 code1:x.code.l.length≤x.code.c
 code2:x.code.c≤maxLen
 code:RdIns w B x.code.a x.code.l
theorem ProcV.rd.to_{w w':World}{B B':Nat}{x:ProcV}(h:x.rd w B)(hB:B≤B')(hk:∀b o,b<B→w'.cell? ⟨b,o,none⟩=w.cell? ⟨b,o,none⟩):x.rd w' B':=
 ⟨h.code1,h.code2,h.code.to_ hB hk⟩
theorem ProcV.rd.below{w w':World}{x:ProcV}(h:x.rd w w.heap.size)(hb:Below w.heap.size w w'):x.rd w' w'.heap.size:=h.to_ hb.size (bcell hb)
theorem ProcV.rd.more{w:World}{B B':Nat}{x:ProcV}(h:x.rd w B)(hB:B≤B'):x.rd w B':=h.to_ hB fun _ _ _=>rfl
def RdProc(w:World)(B:Nat)(A:Option Addr)(l:List ProcV):Prop:=
 0<l.length→∃b o,A=some ⟨b,o,none⟩∧b<B∧∀i (h:i<l.length),w.cell? ⟨b,o+i*5,none⟩=some (.string l[i].nm)∧w.cell? ⟨b,o+i*5+1,none⟩=some (.int .i64 l[i].pr)∧w.cell? ⟨b,o+i*5+2,none⟩=some (.int .i64 l[i].pe)∧w.cell? ⟨b,o+i*5+3,none⟩=some (.int .i64 l[i].li)∧w.cell? ⟨b,o+i*5+4,none⟩=some (l[i].code.val)∧l[i].rd w B
theorem RdProc.to_{w w':World}{B B':Nat}{A:Option Addr}{l:List ProcV}(h:RdProc w B A l)(hB:B≤B')(hk:∀b o,b<B→w'.cell? ⟨b,o,none⟩=w.cell? ⟨b,o,none⟩):RdProc w' B' A l:=fun hn=>by
 obtain⟨b,o,rfl,hbB,hc⟩:=h hn;refine⟨b,o,rfl,by omega,fun i hi=> ?_⟩;obtain⟨c0,c1,c2,c3,c4,hr⟩:=hc i hi;exact⟨(hk b _ hbB).trans c0,(hk b _ hbB).trans c1,(hk b _ hbB).trans c2,(hk b _ hbB).trans c3,(hk b _ hbB).trans c4,hr.to_ hB hk⟩
theorem RdProc.below{w w':World}{A:Option Addr}{l:List ProcV}(h:RdProc w w.heap.size A l)(hb:Below w.heap.size w w'):RdProc w' w'.heap.size A l:=h.to_ hb.size (bcell hb)
theorem RdProc.keep{w w':World}{B:Nat}{A:Option Addr}{l:List ProcV}(h:RdProc w B A l)(hb:Below B w w'):RdProc w' B A l:=h.to_ (Nat.le_refl _) (bcell hb)
theorem RdProc.more{w:World}{B B':Nat}{A:Option Addr}{l:List ProcV}(h:RdProc w B A l)(hB:B≤B'):RdProc w B' A l:=h.to_ hB fun _ _ _=>rfl
def PredProc(g:Nat)(lb:Array Value)(p:ProcV→Bool)(l:List ProcV)(w:World):Prop:=
 ∀(W:World) (r:ProcV),r∈l→Below w.heap.size w W→r.rd W W.heap.size→CU g (#[r.val]++lb) W (.bool (p r))
structure PartV where
 nm:ByteArray
 pe:Int
 le:Int
 mem:Int
 semas:Sl Int
 ev:Int
 bo:Int
 bufs:Sl Int
 ports:Sl PortV
 procs:Sl ProcV
abbrev PartV.val(x:PartV):Value:= .agg #[.string x.nm,.int .i64 x.pe,.int .i64 x.le,.int .i64 x.mem,x.semas.val,.int .i64 x.ev,.int .i64 x.bo,x.bufs.val,x.ports.val,x.procs.val]
structure PartV.rd(w:World)(B:Nat)(x:PartV):Prop where
 semas1:x.semas.l.length≤x.semas.c
 semas2:x.semas.c≤maxLen
 semas:RdInt w B x.semas.a x.semas.l
 bufs1:x.bufs.l.length≤x.bufs.c
 bufs2:x.bufs.c≤maxLen
 bufs:RdInt w B x.bufs.a x.bufs.l
 ports1:x.ports.l.length≤x.ports.c
 ports2:x.ports.c≤maxLen
 ports:RdPort w B x.ports.a x.ports.l
 procs1:x.procs.l.length≤x.procs.c
 procs2:x.procs.c≤maxLen
 procs:RdProc w B x.procs.a x.procs.l
theorem PartV.rd.to_{w w':World}{B B':Nat}{x:PartV}(h:x.rd w B)(hB:B≤B')(hk:∀b o,b<B→w'.cell? ⟨b,o,none⟩=w.cell? ⟨b,o,none⟩):x.rd w' B':=
 ⟨h.semas1,h.semas2,h.semas.to_ hB hk,h.bufs1,h.bufs2,h.bufs.to_ hB hk,h.ports1,h.ports2,h.ports.to_ hB hk,h.procs1,h.procs2,h.procs.to_ hB hk⟩
theorem PartV.rd.below{w w':World}{x:PartV}(h:x.rd w w.heap.size)(hb:Below w.heap.size w w'):x.rd w' w'.heap.size:=h.to_ hb.size (bcell hb)
theorem PartV.rd.more{w:World}{B B':Nat}{x:PartV}(h:x.rd w B)(hB:B≤B'):x.rd w B':=h.to_ hB fun _ _ _=>rfl
def RdPart(w:World)(B:Nat)(A:Option Addr)(l:List PartV):Prop:=
 0<l.length→∃b o,A=some ⟨b,o,none⟩∧b<B∧∀i (h:i<l.length),w.cell? ⟨b,o+i*10,none⟩=some (.string l[i].nm)∧w.cell? ⟨b,o+i*10+1,none⟩=some (.int .i64 l[i].pe)∧w.cell? ⟨b,o+i*10+2,none⟩=some (.int .i64 l[i].le)∧w.cell? ⟨b,o+i*10+3,none⟩=some (.int .i64 l[i].mem)∧w.cell? ⟨b,o+i*10+4,none⟩=some (l[i].semas.val)∧w.cell? ⟨b,o+i*10+5,none⟩=some (.int .i64 l[i].ev)∧w.cell? ⟨b,o+i*10+6,none⟩=some (.int .i64 l[i].bo)∧w.cell? ⟨b,o+i*10+7,none⟩=some (l[i].bufs.val)∧w.cell? ⟨b,o+i*10+8,none⟩=some (l[i].ports.val)∧w.cell? ⟨b,o+i*10+9,none⟩=some (l[i].procs.val)∧l[i].rd w B
theorem RdPart.to_{w w':World}{B B':Nat}{A:Option Addr}{l:List PartV}(h:RdPart w B A l)(hB:B≤B')(hk:∀b o,b<B→w'.cell? ⟨b,o,none⟩=w.cell? ⟨b,o,none⟩):RdPart w' B' A l:=fun hn=>by
 obtain⟨b,o,rfl,hbB,hc⟩:=h hn;refine⟨b,o,rfl,by omega,fun i hi=> ?_⟩;obtain⟨c0,c1,c2,c3,c4,c5,c6,c7,c8,c9,hr⟩:=hc i hi;exact⟨(hk b _ hbB).trans c0,(hk b _ hbB).trans c1,(hk b _ hbB).trans c2,(hk b _ hbB).trans c3,(hk b _ hbB).trans c4,(hk b _ hbB).trans c5,(hk b _ hbB).trans c6,(hk b _ hbB).trans c7,(hk b _ hbB).trans c8,(hk b _ hbB).trans c9,hr.to_ hB hk⟩
theorem RdPart.below{w w':World}{A:Option Addr}{l:List PartV}(h:RdPart w w.heap.size A l)(hb:Below w.heap.size w w'):RdPart w' w'.heap.size A l:=h.to_ hb.size (bcell hb)
theorem RdPart.keep{w w':World}{B:Nat}{A:Option Addr}{l:List PartV}(h:RdPart w B A l)(hb:Below B w w'):RdPart w' B A l:=h.to_ (Nat.le_refl _) (bcell hb)
theorem RdPart.more{w:World}{B B':Nat}{A:Option Addr}{l:List PartV}(h:RdPart w B A l)(hB:B≤B'):RdPart w B' A l:=h.to_ hB fun _ _ _=>rfl
def PredPart(g:Nat)(lb:Array Value)(p:PartV→Bool)(l:List PartV)(w:World):Prop:=
 ∀(W:World) (r:PartV),r∈l→Below w.heap.size w W→r.rd W W.heap.size→CU g (#[r.val]++lb) W (.bool (p r))
structure ModV where
 nm:ByteArray
 mem:Int
 fr:Int
 parts:Sl PartV
abbrev ModV.val(x:ModV):Value:= .agg #[.string x.nm,.int .i64 x.mem,.int .i64 x.fr,x.parts.val]
structure ModV.rd(w:World)(B:Nat)(x:ModV):Prop where
 parts1:x.parts.l.length≤x.parts.c
 parts2:x.parts.c≤maxLen
 parts:RdPart w B x.parts.a x.parts.l
theorem ModV.rd.to_{w w':World}{B B':Nat}{x:ModV}(h:x.rd w B)(hB:B≤B')(hk:∀b o,b<B→w'.cell? ⟨b,o,none⟩=w.cell? ⟨b,o,none⟩):x.rd w' B':=
 ⟨h.parts1,h.parts2,h.parts.to_ hB hk⟩
theorem ModV.rd.below{w w':World}{x:ModV}(h:x.rd w w.heap.size)(hb:Below w.heap.size w w'):x.rd w' w'.heap.size:=h.to_ hb.size (bcell hb)
theorem ModV.rd.more{w:World}{B B':Nat}{x:ModV}(h:x.rd w B)(hB:B≤B'):x.rd w B':=h.to_ hB fun _ _ _=>rfl
def RdModule(w:World)(B:Nat)(A:Option Addr)(l:List ModV):Prop:=
 0<l.length→∃b o,A=some ⟨b,o,none⟩∧b<B∧∀i (h:i<l.length),w.cell? ⟨b,o+i*4,none⟩=some (.string l[i].nm)∧w.cell? ⟨b,o+i*4+1,none⟩=some (.int .i64 l[i].mem)∧w.cell? ⟨b,o+i*4+2,none⟩=some (.int .i64 l[i].fr)∧w.cell? ⟨b,o+i*4+3,none⟩=some (l[i].parts.val)∧l[i].rd w B
theorem RdModule.to_{w w':World}{B B':Nat}{A:Option Addr}{l:List ModV}(h:RdModule w B A l)(hB:B≤B')(hk:∀b o,b<B→w'.cell? ⟨b,o,none⟩=w.cell? ⟨b,o,none⟩):RdModule w' B' A l:=fun hn=>by
 obtain⟨b,o,rfl,hbB,hc⟩:=h hn;refine⟨b,o,rfl,by omega,fun i hi=> ?_⟩;obtain⟨c0,c1,c2,c3,hr⟩:=hc i hi;exact⟨(hk b _ hbB).trans c0,(hk b _ hbB).trans c1,(hk b _ hbB).trans c2,(hk b _ hbB).trans c3,hr.to_ hB hk⟩
theorem RdModule.below{w w':World}{A:Option Addr}{l:List ModV}(h:RdModule w w.heap.size A l)(hb:Below w.heap.size w w'):RdModule w' w'.heap.size A l:=h.to_ hb.size (bcell hb)
theorem RdModule.keep{w w':World}{B:Nat}{A:Option Addr}{l:List ModV}(h:RdModule w B A l)(hb:Below B w w'):RdModule w' B A l:=h.to_ (Nat.le_refl _) (bcell hb)
theorem RdModule.more{w:World}{B B':Nat}{A:Option Addr}{l:List ModV}(h:RdModule w B A l)(hB:B≤B'):RdModule w B' A l:=h.to_ hB fun _ _ _=>rfl
def PredModule(g:Nat)(lb:Array Value)(p:ModV→Bool)(l:List ModV)(w:World):Prop:=
 ∀(W:World) (r:ModV),r∈l→Below w.heap.size w W→r.rd W W.heap.size→CU g (#[r.val]++lb) W (.bool (p r))
structure ChanV where
 src:RefV
 dst:Sl RefV
abbrev ChanV.val(x:ChanV):Value:= .agg #[.string x.src.m,.string x.src.p,.string x.src.o,x.dst.val]
structure ChanV.rd(w:World)(B:Nat)(x:ChanV):Prop where
 dst1:x.dst.l.length≤x.dst.c
 dst2:x.dst.c≤maxLen
 dst:RdRef w B x.dst.a x.dst.l
theorem ChanV.rd.to_{w w':World}{B B':Nat}{x:ChanV}(h:x.rd w B)(hB:B≤B')(hk:∀b o,b<B→w'.cell? ⟨b,o,none⟩=w.cell? ⟨b,o,none⟩):x.rd w' B':=
 ⟨h.dst1,h.dst2,h.dst.to_ hB hk⟩
theorem ChanV.rd.below{w w':World}{x:ChanV}(h:x.rd w w.heap.size)(hb:Below w.heap.size w w'):x.rd w' w'.heap.size:=h.to_ hb.size (bcell hb)
theorem ChanV.rd.more{w:World}{B B':Nat}{x:ChanV}(h:x.rd w B)(hB:B≤B'):x.rd w B':=h.to_ hB fun _ _ _=>rfl
def RdChannel(w:World)(B:Nat)(A:Option Addr)(l:List ChanV):Prop:=
 0<l.length→∃b o,A=some ⟨b,o,none⟩∧b<B∧∀i (h:i<l.length),w.cell? ⟨b,o+i*4,none⟩=some (.string l[i].src.m)∧w.cell? ⟨b,o+i*4+1,none⟩=some (.string l[i].src.p)∧w.cell? ⟨b,o+i*4+2,none⟩=some (.string l[i].src.o)∧w.cell? ⟨b,o+i*4+3,none⟩=some (l[i].dst.val)∧l[i].rd w B
theorem RdChannel.to_{w w':World}{B B':Nat}{A:Option Addr}{l:List ChanV}(h:RdChannel w B A l)(hB:B≤B')(hk:∀b o,b<B→w'.cell? ⟨b,o,none⟩=w.cell? ⟨b,o,none⟩):RdChannel w' B' A l:=fun hn=>by
 obtain⟨b,o,rfl,hbB,hc⟩:=h hn;refine⟨b,o,rfl,by omega,fun i hi=> ?_⟩;obtain⟨c0,c1,c2,c3,hr⟩:=hc i hi;exact⟨(hk b _ hbB).trans c0,(hk b _ hbB).trans c1,(hk b _ hbB).trans c2,(hk b _ hbB).trans c3,hr.to_ hB hk⟩
theorem RdChannel.below{w w':World}{A:Option Addr}{l:List ChanV}(h:RdChannel w w.heap.size A l)(hb:Below w.heap.size w w'):RdChannel w' w'.heap.size A l:=h.to_ hb.size (bcell hb)
theorem RdChannel.keep{w w':World}{B:Nat}{A:Option Addr}{l:List ChanV}(h:RdChannel w B A l)(hb:Below B w w'):RdChannel w' B A l:=h.to_ (Nat.le_refl _) (bcell hb)
theorem RdChannel.more{w:World}{B B':Nat}{A:Option Addr}{l:List ChanV}(h:RdChannel w B A l)(hB:B≤B'):RdChannel w B' A l:=h.to_ hB fun _ _ _=>rfl
def PredChannel(g:Nat)(lb:Array Value)(p:ChanV→Bool)(l:List ChanV)(w:World):Prop:=
 ∀(W:World) (r:ChanV),r∈l→Below w.heap.size w W→r.rd W W.heap.size→CU g (#[r.val]++lb) W (.bool (p r))
structure SwV where
 nm:ByteArray
 net:Int
 dl:Int
 st:Int
abbrev SwV.val(x:SwV):Value:= .agg #[.string x.nm,.int .i64 x.net,.int .i64 x.dl,.int .i64 x.st]
def RdSwitch(w:World)(B:Nat)(A:Option Addr)(l:List SwV):Prop:=
 0<l.length→∃b o,A=some ⟨b,o,none⟩∧b<B∧∀i (h:i<l.length),w.cell? ⟨b,o+i*4,none⟩=some (.string l[i].nm)∧w.cell? ⟨b,o+i*4+1,none⟩=some (.int .i64 l[i].net)∧w.cell? ⟨b,o+i*4+2,none⟩=some (.int .i64 l[i].dl)∧w.cell? ⟨b,o+i*4+3,none⟩=some (.int .i64 l[i].st)
theorem RdSwitch.to_{w w':World}{B B':Nat}{A:Option Addr}{l:List SwV}(h:RdSwitch w B A l)(hB:B≤B')(hk:∀b o,b<B→w'.cell? ⟨b,o,none⟩=w.cell? ⟨b,o,none⟩):RdSwitch w' B' A l:=fun hn=>by
 obtain⟨b,o,rfl,hbB,hc⟩:=h hn;refine⟨b,o,rfl,by omega,fun i hi=> ?_⟩;obtain⟨c0,c1,c2,c3⟩:=hc i hi;exact⟨(hk b _ hbB).trans c0,(hk b _ hbB).trans c1,(hk b _ hbB).trans c2,(hk b _ hbB).trans c3⟩
theorem RdSwitch.below{w w':World}{A:Option Addr}{l:List SwV}(h:RdSwitch w w.heap.size A l)(hb:Below w.heap.size w w'):RdSwitch w' w'.heap.size A l:=h.to_ hb.size (bcell hb)
theorem RdSwitch.keep{w w':World}{B:Nat}{A:Option Addr}{l:List SwV}(h:RdSwitch w B A l)(hb:Below B w w'):RdSwitch w' B A l:=h.to_ (Nat.le_refl _) (bcell hb)
theorem RdSwitch.more{w:World}{B B':Nat}{A:Option Addr}{l:List SwV}(h:RdSwitch w B A l)(hB:B≤B'):RdSwitch w B' A l:=h.to_ hB fun _ _ _=>rfl
def PredSwitch(g:Nat)(lb:Array Value)(p:SwV→Bool)(l:List SwV)(w:World):Prop:=
 ∀(W:World) (r:SwV),r∈l→Below w.heap.size w W→CU g (#[r.val]++lb) W (.bool (p r))
structure LinkV where
 a:ByteArray
 b:ByteArray
 net:Int
 slow:Int
abbrev LinkV.val(x:LinkV):Value:= .agg #[.string x.a,.string x.b,.int .i64 x.net,.int .i64 x.slow]
def RdLink(w:World)(B:Nat)(A:Option Addr)(l:List LinkV):Prop:=
 0<l.length→∃b o,A=some ⟨b,o,none⟩∧b<B∧∀i (h:i<l.length),w.cell? ⟨b,o+i*4,none⟩=some (.string l[i].a)∧w.cell? ⟨b,o+i*4+1,none⟩=some (.string l[i].b)∧w.cell? ⟨b,o+i*4+2,none⟩=some (.int .i64 l[i].net)∧w.cell? ⟨b,o+i*4+3,none⟩=some (.int .i64 l[i].slow)
theorem RdLink.to_{w w':World}{B B':Nat}{A:Option Addr}{l:List LinkV}(h:RdLink w B A l)(hB:B≤B')(hk:∀b o,b<B→w'.cell? ⟨b,o,none⟩=w.cell? ⟨b,o,none⟩):RdLink w' B' A l:=fun hn=>by
 obtain⟨b,o,rfl,hbB,hc⟩:=h hn;refine⟨b,o,rfl,by omega,fun i hi=> ?_⟩;obtain⟨c0,c1,c2,c3⟩:=hc i hi;exact⟨(hk b _ hbB).trans c0,(hk b _ hbB).trans c1,(hk b _ hbB).trans c2,(hk b _ hbB).trans c3⟩
theorem RdLink.below{w w':World}{A:Option Addr}{l:List LinkV}(h:RdLink w w.heap.size A l)(hb:Below w.heap.size w w'):RdLink w' w'.heap.size A l:=h.to_ hb.size (bcell hb)
theorem RdLink.keep{w w':World}{B:Nat}{A:Option Addr}{l:List LinkV}(h:RdLink w B A l)(hb:Below B w w'):RdLink w' B A l:=h.to_ (Nat.le_refl _) (bcell hb)
theorem RdLink.more{w:World}{B B':Nat}{A:Option Addr}{l:List LinkV}(h:RdLink w B A l)(hB:B≤B'):RdLink w B' A l:=h.to_ hB fun _ _ _=>rfl
def PredLink(g:Nat)(lb:Array Value)(p:LinkV→Bool)(l:List LinkV)(w:World):Prop:=
 ∀(W:World) (r:LinkV),r∈l→Below w.heap.size w W→CU g (#[r.val]++lb) W (.bool (p r))
structure VlV where
 nm:ByteArray
 src:RefV
 bag:Int
 mx:Int
 dst:Sl RefV
abbrev VlV.val(x:VlV):Value:= .agg #[.string x.nm,.string x.src.m,.string x.src.p,.string x.src.o,.int .i64 x.bag,.int .i64 x.mx,x.dst.val]
structure VlV.rd(w:World)(B:Nat)(x:VlV):Prop where
 dst1:x.dst.l.length≤x.dst.c
 dst2:x.dst.c≤maxLen
 dst:RdRef w B x.dst.a x.dst.l
theorem VlV.rd.to_{w w':World}{B B':Nat}{x:VlV}(h:x.rd w B)(hB:B≤B')(hk:∀b o,b<B→w'.cell? ⟨b,o,none⟩=w.cell? ⟨b,o,none⟩):x.rd w' B':=
 ⟨h.dst1,h.dst2,h.dst.to_ hB hk⟩
theorem VlV.rd.below{w w':World}{x:VlV}(h:x.rd w w.heap.size)(hb:Below w.heap.size w w'):x.rd w' w'.heap.size:=h.to_ hb.size (bcell hb)
theorem VlV.rd.more{w:World}{B B':Nat}{x:VlV}(h:x.rd w B)(hB:B≤B'):x.rd w B':=h.to_ hB fun _ _ _=>rfl
def RdVL(w:World)(B:Nat)(A:Option Addr)(l:List VlV):Prop:=
 0<l.length→∃b o,A=some ⟨b,o,none⟩∧b<B∧∀i (h:i<l.length),w.cell? ⟨b,o+i*7,none⟩=some (.string l[i].nm)∧w.cell? ⟨b,o+i*7+1,none⟩=some (.string l[i].src.m)∧w.cell? ⟨b,o+i*7+2,none⟩=some (.string l[i].src.p)∧w.cell? ⟨b,o+i*7+3,none⟩=some (.string l[i].src.o)∧w.cell? ⟨b,o+i*7+4,none⟩=some (.int .i64 l[i].bag)∧w.cell? ⟨b,o+i*7+5,none⟩=some (.int .i64 l[i].mx)∧w.cell? ⟨b,o+i*7+6,none⟩=some (l[i].dst.val)∧l[i].rd w B
theorem RdVL.to_{w w':World}{B B':Nat}{A:Option Addr}{l:List VlV}(h:RdVL w B A l)(hB:B≤B')(hk:∀b o,b<B→w'.cell? ⟨b,o,none⟩=w.cell? ⟨b,o,none⟩):RdVL w' B' A l:=fun hn=>by
 obtain⟨b,o,rfl,hbB,hc⟩:=h hn;refine⟨b,o,rfl,by omega,fun i hi=> ?_⟩;obtain⟨c0,c1,c2,c3,c4,c5,c6,hr⟩:=hc i hi;exact⟨(hk b _ hbB).trans c0,(hk b _ hbB).trans c1,(hk b _ hbB).trans c2,(hk b _ hbB).trans c3,(hk b _ hbB).trans c4,(hk b _ hbB).trans c5,(hk b _ hbB).trans c6,hr.to_ hB hk⟩
theorem RdVL.below{w w':World}{A:Option Addr}{l:List VlV}(h:RdVL w w.heap.size A l)(hb:Below w.heap.size w w'):RdVL w' w'.heap.size A l:=h.to_ hb.size (bcell hb)
theorem RdVL.keep{w w':World}{B:Nat}{A:Option Addr}{l:List VlV}(h:RdVL w B A l)(hb:Below B w w'):RdVL w' B A l:=h.to_ (Nat.le_refl _) (bcell hb)
theorem RdVL.more{w:World}{B B':Nat}{A:Option Addr}{l:List VlV}(h:RdVL w B A l)(hB:B≤B'):RdVL w B' A l:=h.to_ hB fun _ _ _=>rfl
def PredVL(g:Nat)(lb:Array Value)(p:VlV→Bool)(l:List VlV)(w:World):Prop:=
 ∀(W:World) (r:VlV),r∈l→Below w.heap.size w W→r.rd W W.heap.size→CU g (#[r.val]++lb) W (.bool (p r))
structure HeaV where
 m:ByteArray
 p:ByteArray
 flt:Int
 lv:Int
 dd:Int
abbrev HeaV.val(x:HeaV):Value:= .agg #[.string x.m,.string x.p,.int .u8 x.flt,.int .u8 x.lv,.int .u8 x.dd]
structure HeaV.rd(w:World)(B:Nat)(x:HeaV):Prop where
 flt0:0≤x.flt∧x.flt≤255
 lv0:0≤x.lv∧x.lv≤255
 dd0:0≤x.dd∧x.dd≤255
theorem HeaV.rd.to_{w w':World}{B B':Nat}{x:HeaV}(h:x.rd w B)(hB:B≤B')(hk:∀b o,b<B→w'.cell? ⟨b,o,none⟩=w.cell? ⟨b,o,none⟩):x.rd w' B':=
 ⟨h.flt0,h.lv0,h.dd0⟩
theorem HeaV.rd.below{w w':World}{x:HeaV}(h:x.rd w w.heap.size)(hb:Below w.heap.size w w'):x.rd w' w'.heap.size:=h.to_ hb.size (bcell hb)
theorem HeaV.rd.more{w:World}{B B':Nat}{x:HeaV}(h:x.rd w B)(hB:B≤B'):x.rd w B':=h.to_ hB fun _ _ _=>rfl
def RdHealth(w:World)(B:Nat)(A:Option Addr)(l:List HeaV):Prop:=
 0<l.length→∃b o,A=some ⟨b,o,none⟩∧b<B∧∀i (h:i<l.length),w.cell? ⟨b,o+i*5,none⟩=some (.string l[i].m)∧w.cell? ⟨b,o+i*5+1,none⟩=some (.string l[i].p)∧w.cell? ⟨b,o+i*5+2,none⟩=some (.int .u8 l[i].flt)∧w.cell? ⟨b,o+i*5+3,none⟩=some (.int .u8 l[i].lv)∧w.cell? ⟨b,o+i*5+4,none⟩=some (.int .u8 l[i].dd)∧l[i].rd w B
theorem RdHealth.to_{w w':World}{B B':Nat}{A:Option Addr}{l:List HeaV}(h:RdHealth w B A l)(hB:B≤B')(hk:∀b o,b<B→w'.cell? ⟨b,o,none⟩=w.cell? ⟨b,o,none⟩):RdHealth w' B' A l:=fun hn=>by
 obtain⟨b,o,rfl,hbB,hc⟩:=h hn;refine⟨b,o,rfl,by omega,fun i hi=> ?_⟩;obtain⟨c0,c1,c2,c3,c4,hr⟩:=hc i hi;exact⟨(hk b _ hbB).trans c0,(hk b _ hbB).trans c1,(hk b _ hbB).trans c2,(hk b _ hbB).trans c3,(hk b _ hbB).trans c4,hr.to_ hB hk⟩
theorem RdHealth.below{w w':World}{A:Option Addr}{l:List HeaV}(h:RdHealth w w.heap.size A l)(hb:Below w.heap.size w w'):RdHealth w' w'.heap.size A l:=h.to_ hb.size (bcell hb)
theorem RdHealth.keep{w w':World}{B:Nat}{A:Option Addr}{l:List HeaV}(h:RdHealth w B A l)(hb:Below B w w'):RdHealth w' B A l:=h.to_ (Nat.le_refl _) (bcell hb)
theorem RdHealth.more{w:World}{B B':Nat}{A:Option Addr}{l:List HeaV}(h:RdHealth w B A l)(hB:B≤B'):RdHealth w B' A l:=h.to_ hB fun _ _ _=>rfl
def PredHealth(g:Nat)(lb:Array Value)(p:HeaV→Bool)(l:List HeaV)(w:World):Prop:=
 ∀(W:World) (r:HeaV),r∈l→Below w.heap.size w W→r.rd W W.heap.size→CU g (#[r.val]++lb) W (.bool (p r))
structure VsnV where
 a:ByteArray
 va:Int
 b:ByteArray
 vb:Int
abbrev VsnV.val(x:VsnV):Value:= .agg #[.string x.a,.int .i64 x.va,.string x.b,.int .i64 x.vb]
def RdVersion(w:World)(B:Nat)(A:Option Addr)(l:List VsnV):Prop:=
 0<l.length→∃b o,A=some ⟨b,o,none⟩∧b<B∧∀i (h:i<l.length),w.cell? ⟨b,o+i*4,none⟩=some (.string l[i].a)∧w.cell? ⟨b,o+i*4+1,none⟩=some (.int .i64 l[i].va)∧w.cell? ⟨b,o+i*4+2,none⟩=some (.string l[i].b)∧w.cell? ⟨b,o+i*4+3,none⟩=some (.int .i64 l[i].vb)
theorem RdVersion.to_{w w':World}{B B':Nat}{A:Option Addr}{l:List VsnV}(h:RdVersion w B A l)(hB:B≤B')(hk:∀b o,b<B→w'.cell? ⟨b,o,none⟩=w.cell? ⟨b,o,none⟩):RdVersion w' B' A l:=fun hn=>by
 obtain⟨b,o,rfl,hbB,hc⟩:=h hn;refine⟨b,o,rfl,by omega,fun i hi=> ?_⟩;obtain⟨c0,c1,c2,c3⟩:=hc i hi;exact⟨(hk b _ hbB).trans c0,(hk b _ hbB).trans c1,(hk b _ hbB).trans c2,(hk b _ hbB).trans c3⟩
theorem RdVersion.below{w w':World}{A:Option Addr}{l:List VsnV}(h:RdVersion w w.heap.size A l)(hb:Below w.heap.size w w'):RdVersion w' w'.heap.size A l:=h.to_ hb.size (bcell hb)
theorem RdVersion.keep{w w':World}{B:Nat}{A:Option Addr}{l:List VsnV}(h:RdVersion w B A l)(hb:Below B w w'):RdVersion w' B A l:=h.to_ (Nat.le_refl _) (bcell hb)
theorem RdVersion.more{w:World}{B B':Nat}{A:Option Addr}{l:List VsnV}(h:RdVersion w B A l)(hB:B≤B'):RdVersion w B' A l:=h.to_ hB fun _ _ _=>rfl
def PredVersion(g:Nat)(lb:Array Value)(p:VsnV→Bool)(l:List VsnV)(w:World):Prop:=
 ∀(W:World) (r:VsnV),r∈l→Below w.heap.size w W→CU g (#[r.val]++lb) W (.bool (p r))
structure CfgV where
 mods:Sl ModV
 chans:Sl ChanV
 sws:Sl SwV
 links:Sl LinkV
 vls:Sl VlV
 hea:Sl HeaV
 causes:Sl CsV
 vers:Sl VsnV
abbrev CfgV.val(x:CfgV):Value:= .agg #[x.mods.val,x.chans.val,x.sws.val,x.links.val,x.vls.val,x.hea.val,x.causes.val,x.vers.val]
structure CfgV.rd(w:World)(B:Nat)(x:CfgV):Prop where
 mods1:x.mods.l.length≤x.mods.c
 mods2:x.mods.c≤maxLen
 mods:RdModule w B x.mods.a x.mods.l
 chans1:x.chans.l.length≤x.chans.c
 chans2:x.chans.c≤maxLen
 chans:RdChannel w B x.chans.a x.chans.l
 sws1:x.sws.l.length≤x.sws.c
 sws2:x.sws.c≤maxLen
 sws:RdSwitch w B x.sws.a x.sws.l
 links1:x.links.l.length≤x.links.c
 links2:x.links.c≤maxLen
 links:RdLink w B x.links.a x.links.l
 vls1:x.vls.l.length≤x.vls.c
 vls2:x.vls.c≤maxLen
 vls:RdVL w B x.vls.a x.vls.l
 hea1:x.hea.l.length≤x.hea.c
 hea2:x.hea.c≤maxLen
 hea:RdHealth w B x.hea.a x.hea.l
 causes1:x.causes.l.length≤x.causes.c
 causes2:x.causes.c≤maxLen
 causes:RdCs w B x.causes.a x.causes.l
 vers1:x.vers.l.length≤x.vers.c
 vers2:x.vers.c≤maxLen
 vers:RdVersion w B x.vers.a x.vers.l
theorem CfgV.rd.to_{w w':World}{B B':Nat}{x:CfgV}(h:x.rd w B)(hB:B≤B')(hk:∀b o,b<B→w'.cell? ⟨b,o,none⟩=w.cell? ⟨b,o,none⟩):x.rd w' B':=
 ⟨h.mods1,h.mods2,h.mods.to_ hB hk,h.chans1,h.chans2,h.chans.to_ hB hk,h.sws1,h.sws2,h.sws.to_ hB hk,h.links1,h.links2,h.links.to_ hB hk,h.vls1,h.vls2,h.vls.to_ hB hk,h.hea1,h.hea2,h.hea.to_ hB hk,h.causes1,h.causes2,h.causes.to_ hB hk,h.vers1,h.vers2,h.vers.to_ hB hk⟩
theorem CfgV.rd.below{w w':World}{x:CfgV}(h:x.rd w w.heap.size)(hb:Below w.heap.size w w'):x.rd w' w'.heap.size:=h.to_ hb.size (bcell hb)
theorem CfgV.rd.more{w:World}{B B':Nat}{x:CfgV}(h:x.rd w B)(hB:B≤B'):x.rd w B':=h.to_ hB fun _ _ _=>rfl
end Go.Proofs.YtchfcgilpjkmhaaGreatDoor
