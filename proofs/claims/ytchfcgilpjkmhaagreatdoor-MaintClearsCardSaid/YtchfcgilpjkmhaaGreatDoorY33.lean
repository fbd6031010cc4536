import Derived.Test.YtchfcgilpjkmhaaGreatDoorY32
import Derived.Test.YtchfcgilpjkmhaaGreatDoorY0
set_option maxRecDepth 100000
set_option linter.unusedSimpArgs false
set_option linter.unusedVariables false
set_option linter.unusedSectionVars false
namespace Go.Proofs.YtchfcgilpjkmhaaGreatDoor
open Go.ChangeShapes Go.WideShapes Go.ChangeAt Go.RowKit
attribute [local go_sem] Oper.semAt_some
structure Ok6(C:Ctx):Prop where
 e1:sl C.a0 1= .int .i64 C.n
 e3:sl C.a0 3=pt C.g3 0
 e5:sl C.a0 5=pt C.g5 0
 e9:sl C.a0 9= .func (.func 164) #[] #[pt C.g3 0]
 e10:sl C.a0 10=fnV 166
 hp:C.p.bk C.w0 C.g3
section
variable {Q:Exit→Act→World→Prop} {C:Ctx} {mb:Nat} {listed:Array Bool} {a:Act} {w:World} {o:Oper} {i d:Nat}
theorem run_move{x:Operand}{v:Value}(hop:o.op= .move x)(hv:a.eval x=v):(execOp a.eval o).run Tryz.prog w= .ok (.value v) w:=by
 simp[execOp,hop,hv]
theorem run_assign{x:Operand}{v:Value}(hop:o.op= .assign x)(hv:a.eval x=v):(execOp a.eval o).run Tryz.prog w= .ok (.value v) w:=by
 simp[execOp,hop,hv]
theorem run_fn(hop:o.op= .makeFunc (.func 169) #[] #[.tmp 5,.tmp 3])(e5:a.eval (.tmp 5)=pt C.g5 0)(e3:a.eval (.tmp 3)=pt C.g3 0):(execOp a.eval o).run Tryz.prog w= .ok (.value (.func (.func 169) #[] #[pt C.g5 0,pt C.g3 0])) w:=by
 simp only[execOp,hop];simp[e5,e3,Instr.makeFunc,Result.andThen]
theorem run_map(hop:o.op= .makeMap 216 none):(execOp a.eval o).run Tryz.prog w= .ok (.value (.map (some w.heap.size))) (w.alloc (.map #[] 0)):=by
 simp only[execOp,hop];simp[Instr.makeMap,go_sem]
theorem run_fld4(hop:o.op= .fieldAddr 75 (.tmp 3) 4)(e3:a.eval (.tmp 3)=pt C.g3 0):(execOp a.eval o).run Tryz.prog w= .ok (.value (pt C.g3 4)) w:=by
 simp only[execOp,hop,e3];simp[go_sem]
theorem run_fld5(hop:o.op= .fieldAddr 75 (.tmp 3) 5)(e3:a.eval (.tmp 3)=pt C.g3 0):(execOp a.eval o).run Tryz.prog w= .ok (.value (pt C.g3 5)) w:=by
 simp only[execOp,hop,e3];simp[go_sem]
theorem run_fld6(hop:o.op= .fieldAddr 75 (.tmp 3) 6)(e3:a.eval (.tmp 3)=pt C.g3 0):(execOp a.eval o).run Tryz.prog w= .ok (.value (pt C.g3 6)) w:=by
 simp only[execOp,hop,e3];simp[go_sem]
theorem run_fld7(hop:o.op= .fieldAddr 75 (.tmp 3) 7)(e3:a.eval (.tmp 3)=pt C.g3 0):(execOp a.eval o).run Tryz.prog w= .ok (.value (pt C.g3 7)) w:=by
 simp only[execOp,hop,e3];simp[go_sem]
theorem run_load{x:Operand}{g k:Nat}{v:Value}(hop:o.op= .load 71 x)(hx:a.eval x=pt g k)(hc:w.cell? ⟨g,k,none⟩=some v):(execOp a.eval o).run Tryz.prog w= .ok (.value v) w:=by
 simp only[execOp,hop,hx];simp[go_sem,hc]
theorem run_loadi{x:Operand}{g k:Nat}{v:Value}(hop:o.op= .load 3 x)(hx:a.eval x=pt g k)(hc:w.cell? ⟨g,k,none⟩=some v):(execOp a.eval o).run Tryz.prog w= .ok (.value v) w:=by
 simp only[execOp,hop,hx];simp[go_sem,hc]
theorem run_len{x:Operand}{A:Option Addr}{n c:Nat}(hop:o.op= .call {callee:= .builtin .len,args:= #[x],argTypes:= #[71]})(hx:a.eval x= .slice A n c):(execOp a.eval o).run Tryz.prog w= .ok (.value (.int .i64 n)) w:=by
 simp only[execOp,hop];simp only[resolve,invoke,builtin,hx,List.map_toArray,List.map_cons,List.map_nil];simp[go_sem]
theorem run_call{f:FuncId}(eg:∀args w,(callFunc f args).run Tryz.prog w= .ok (.enter f args) w){x y:Operand}{v:Value}{lb:Array Value}{ts:Array TypeId}(hop:o.op= .call {callee:= .value x,args:= #[y],argTypes:=ts})(hx:a.eval x= .func (.func f) #[] lb)(hy:a.eval y=v):(execOp a.eval o).run Tryz.prog w= .ok (.enter f (#[v]++lb)) w:=by
 simp only[execOp,hop];simp[resolve,hx,hy,Result.andThen];simp[invoke,go_sem];exact eg _ _
theorem o0:∃o,ops6[0]?=some o∧o.guard=none∧o.dst=some 24∧o.op= .makeMap 216 none:=⟨_,rfl,rfl,rfl,rfl⟩
theorem s0(hC:Ok6 C)(h:Reg6 C mb listed a w)(hcl:Shuts .any ops6 listed)(hs:listed.size=ops6.size)(hl:listed.getD 0 true=false)(hd:∀j,depB .any ops6 0 j=true→listed.getD j false=true):wpOp Tryz.prog ops6 Q 0 (Nx6 C listed 0) a w:=by
 obtain⟨o,ho,hg,hdst,hop⟩:=o0;exact step_m ho hg hdst h hcl hs hl (run_map hop)
theorem o4:∃o,ops6[4]?=some o∧o.guard=none∧o.dst=some 26∧o.op= .move (.tmp 10):=⟨_,rfl,rfl,rfl,rfl⟩
theorem vs4{v:Value}:vspec C mb 4 v w=(v=fnV 166):=by simp[vspec]
theorem s4(hC:Ok6 C)(h:Reg6 C mb listed a w)(hcl:Shuts .any ops6 listed)(hs:listed.size=ops6.size)(hl:listed.getD 4 true=false)(hd:∀j,depB .any ops6 4 j=true→listed.getD j false=true):wpOp Tryz.prog ops6 Q 4 (Nx6 C listed 4) a w:=by
 obtain⟨o,ho,hg,hdst,hop⟩:=o4;exact step_v ho hg hdst (by decide) h hcl hl (run_move hop ((h.old 10 (by decide) (by decide)).trans hC.e10)) (by rw[vs4])
theorem o7:∃o,ops6[7]?=some o∧o.guard=none∧o.dst=some 28∧o.op= .move (.tmp 10):=⟨_,rfl,rfl,rfl,rfl⟩
theorem vs7{v:Value}:vspec C mb 7 v w=(v=fnV 166):=by simp[vspec]
theorem s7(hC:Ok6 C)(h:Reg6 C mb listed a w)(hcl:Shuts .any ops6 listed)(hs:listed.size=ops6.size)(hl:listed.getD 7 true=false)(hd:∀j,depB .any ops6 7 j=true→listed.getD j false=true):wpOp Tryz.prog ops6 Q 7 (Nx6 C listed 7) a w:=by
 obtain⟨o,ho,hg,hdst,hop⟩:=o7;exact step_v ho hg hdst (by decide) h hcl hl (run_move hop ((h.old 10 (by decide) (by decide)).trans hC.e10)) (by rw[vs7])
theorem o10:∃o,ops6[10]?=some o∧o.guard=none∧o.dst=some 30∧o.op= .move (.tmp 10):=⟨_,rfl,rfl,rfl,rfl⟩
theorem vs10{v:Value}:vspec C mb 10 v w=(v=fnV 166):=by simp[vspec]
theorem s10(hC:Ok6 C)(h:Reg6 C mb listed a w)(hcl:Shuts .any ops6 listed)(hs:listed.size=ops6.size)(hl:listed.getD 10 true=false)(hd:∀j,depB .any ops6 10 j=true→listed.getD j false=true):wpOp Tryz.prog ops6 Q 10 (Nx6 C listed 10) a w:=by
 obtain⟨o,ho,hg,hdst,hop⟩:=o10;exact step_v ho hg hdst (by decide) h hcl hl (run_move hop ((h.old 10 (by decide) (by decide)).trans hC.e10)) (by rw[vs10])
theorem o13:∃o,ops6[13]?=some o∧o.guard=none∧o.dst=some 32∧o.op= .move (.tmp 10):=⟨_,rfl,rfl,rfl,rfl⟩
theorem vs13{v:Value}:vspec C mb 13 v w=(v=fnV 166):=by simp[vspec]
theorem s13(hC:Ok6 C)(h:Reg6 C mb listed a w)(hcl:Shuts .any ops6 listed)(hs:listed.size=ops6.size)(hl:listed.getD 13 true=false)(hd:∀j,depB .any ops6 13 j=true→listed.getD j false=true):wpOp Tryz.prog ops6 Q 13 (Nx6 C listed 13) a w:=by
 obtain⟨o,ho,hg,hdst,hop⟩:=o13;exact step_v ho hg hdst (by decide) h hcl hl (run_move hop ((h.old 10 (by decide) (by decide)).trans hC.e10)) (by rw[vs13])
theorem o22:∃o,ops6[22]?=some o∧o.guard=none∧o.dst=some 38∧o.op= .move (.tmp 10):=⟨_,rfl,rfl,rfl,rfl⟩
theorem vs22{v:Value}:vspec C mb 22 v w=(v=fnV 166):=by simp[vspec]
theorem s22(hC:Ok6 C)(h:Reg6 C mb listed a w)(hcl:Shuts .any ops6 listed)(hs:listed.size=ops6.size)(hl:listed.getD 22 true=false)(hd:∀j,depB .any ops6 22 j=true→listed.getD j false=true):wpOp Tryz.prog ops6 Q 22 (Nx6 C listed 22) a w:=by
 obtain⟨o,ho,hg,hdst,hop⟩:=o22;exact step_v ho hg hdst (by decide) h hcl hl (run_move hop ((h.old 10 (by decide) (by decide)).trans hC.e10)) (by rw[vs22])
theorem o28:∃o,ops6[28]?=some o∧o.guard=none∧o.dst=some 43∧o.op= .move (.tmp 10):=⟨_,rfl,rfl,rfl,rfl⟩
theorem vs28{v:Value}:vspec C mb 28 v w=(v=fnV 166):=by simp[vspec]
theorem s28(hC:Ok6 C)(h:Reg6 C mb listed a w)(hcl:Shuts .any ops6 listed)(hs:listed.size=ops6.size)(hl:listed.getD 28 true=false)(hd:∀j,depB .any ops6 28 j=true→listed.getD j false=true):wpOp Tryz.prog ops6 Q 28 (Nx6 C listed 28) a w:=by
 obtain⟨o,ho,hg,hdst,hop⟩:=o28;exact step_v ho hg hdst (by decide) h hcl hl (run_move hop ((h.old 10 (by decide) (by decide)).trans hC.e10)) (by rw[vs28])
theorem o34:∃o,ops6[34]?=some o∧o.guard=none∧o.dst=some 48∧o.op= .move (.tmp 10):=⟨_,rfl,rfl,rfl,rfl⟩
theorem vs34{v:Value}:vspec C mb 34 v w=(v=fnV 166):=by simp[vspec]
theorem s34(hC:Ok6 C)(h:Reg6 C mb listed a w)(hcl:Shuts .any ops6 listed)(hs:listed.size=ops6.size)(hl:listed.getD 34 true=false)(hd:∀j,depB .any ops6 34 j=true→listed.getD j false=true):wpOp Tryz.prog ops6 Q 34 (Nx6 C listed 34) a w:=by
 obtain⟨o,ho,hg,hdst,hop⟩:=o34;exact step_v ho hg hdst (by decide) h hcl hl (run_move hop ((h.old 10 (by decide) (by decide)).trans hC.e10)) (by rw[vs34])
theorem o39:∃o,ops6[39]?=some o∧o.guard=none∧o.dst=some 52∧o.op= .move (.tmp 10):=⟨_,rfl,rfl,rfl,rfl⟩
theorem vs39{v:Value}:vspec C mb 39 v w=(v=fnV 166):=by simp[vspec]
theorem s39(hC:Ok6 C)(h:Reg6 C mb listed a w)(hcl:Shuts .any ops6 listed)(hs:listed.size=ops6.size)(hl:listed.getD 39 true=false)(hd:∀j,depB .any ops6 39 j=true→listed.getD j false=true):wpOp Tryz.prog ops6 Q 39 (Nx6 C listed 39) a w:=by
 obtain⟨o,ho,hg,hdst,hop⟩:=o39;exact step_v ho hg hdst (by decide) h hcl hl (run_move hop ((h.old 10 (by decide) (by decide)).trans hC.e10)) (by rw[vs39])
theorem o44:∃o,ops6[44]?=some o∧o.guard=none∧o.dst=some 56∧o.op= .move (.tmp 10):=⟨_,rfl,rfl,rfl,rfl⟩
theorem vs44{v:Value}:vspec C mb 44 v w=(v=fnV 166):=by simp[vspec]
theorem s44(hC:Ok6 C)(h:Reg6 C mb listed a w)(hcl:Shuts .any ops6 listed)(hs:listed.size=ops6.size)(hl:listed.getD 44 true=false)(hd:∀j,depB .any ops6 44 j=true→listed.getD j false=true):wpOp Tryz.prog ops6 Q 44 (Nx6 C listed 44) a w:=by
 obtain⟨o,ho,hg,hdst,hop⟩:=o44;exact step_v ho hg hdst (by decide) h hcl hl (run_move hop ((h.old 10 (by decide) (by decide)).trans hC.e10)) (by rw[vs44])
theorem o16:∃o,ops6[16]?=some o∧o.guard=none∧o.dst=some 34∧o.op= .move (.tmp 9):=⟨_,rfl,rfl,rfl,rfl⟩
theorem vs16{v:Value}:vspec C mb 16 v w=(v= .func (.func 164) #[] #[pt C.g3 0]):=by simp[vspec]
theorem s16(hC:Ok6 C)(h:Reg6 C mb listed a w)(hcl:Shuts .any ops6 listed)(hs:listed.size=ops6.size)(hl:listed.getD 16 true=false)(hd:∀j,depB .any ops6 16 j=true→listed.getD j false=true):wpOp Tryz.prog ops6 Q 16 (Nx6 C listed 16) a w:=by
 obtain⟨o,ho,hg,hdst,hop⟩:=o16;exact step_v ho hg hdst (by decide) h hcl hl (run_move hop ((h.old 9 (by decide) (by decide)).trans hC.e9)) (by rw[vs16])
theorem o19:∃o,ops6[19]?=some o∧o.guard=none∧o.dst=some 36∧o.op= .move (.tmp 9):=⟨_,rfl,rfl,rfl,rfl⟩
theorem vs19{v:Value}:vspec C mb 19 v w=(v= .func (.func 164) #[] #[pt C.g3 0]):=by simp[vspec]
theorem s19(hC:Ok6 C)(h:Reg6 C mb listed a w)(hcl:Shuts .any ops6 listed)(hs:listed.size=ops6.size)(hl:listed.getD 19 true=false)(hd:∀j,depB .any ops6 19 j=true→listed.getD j false=true):wpOp Tryz.prog ops6 Q 19 (Nx6 C listed 19) a w:=by
 obtain⟨o,ho,hg,hdst,hop⟩:=o19;exact step_v ho hg hdst (by decide) h hcl hl (run_move hop ((h.old 9 (by decide) (by decide)).trans hC.e9)) (by rw[vs19])
theorem o2:∃o,ops6[2]?=some o∧o.guard=none∧o.dst=some 25∧o.op= .makeFunc (.func 169) #[] #[.tmp 5,.tmp 3]:=⟨_,rfl,rfl,rfl,rfl⟩
theorem vs2{v:Value}:vspec C mb 2 v w=(v= .func (.func 169) #[] #[pt C.g5 0,pt C.g3 0]):=by simp[vspec]
theorem s2(hC:Ok6 C)(h:Reg6 C mb listed a w)(hcl:Shuts .any ops6 listed)(hs:listed.size=ops6.size)(hl:listed.getD 2 true=false)(hd:∀j,depB .any ops6 2 j=true→listed.getD j false=true):wpOp Tryz.prog ops6 Q 2 (Nx6 C listed 2) a w:=by
 obtain⟨o,ho,hg,hdst,hop⟩:=o2;exact step_v ho hg hdst (by decide) h hcl hl (run_fn hop ((h.old 5 (by decide) (by decide)).trans hC.e5) ((h.old 3 (by decide) (by decide)).trans hC.e3)) (by rw[vs2])
theorem o45:∃o,ops6[45]?=some o∧o.guard=none∧o.dst=some 57∧o.op= .move (.tmp 1):=⟨_,rfl,rfl,rfl,rfl⟩
theorem vs45{v:Value}:vspec C mb 45 v w=(v= .int .i64 C.n):=by simp[vspec]
theorem s45(hC:Ok6 C)(h:Reg6 C mb listed a w)(hcl:Shuts .any ops6 listed)(hs:listed.size=ops6.size)(hl:listed.getD 45 true=false)(hd:∀j,depB .any ops6 45 j=true→listed.getD j false=true):wpOp Tryz.prog ops6 Q 45 (Nx6 C listed 45) a w:=by
 obtain⟨o,ho,hg,hdst,hop⟩:=o45;exact step_v ho hg hdst (by decide) h hcl hl (run_move hop ((h.old 1 (by decide) (by decide)).trans hC.e1)) (by rw[vs45])
theorem o23:∃o,ops6[23]?=some o∧o.guard=none∧o.dst=some 39∧o.op= .fieldAddr 75 (.tmp 3) 4:=⟨_,rfl,rfl,rfl,rfl⟩
theorem vs23{v:Value}:vspec C mb 23 v w=(v=pt C.g3 4):=by simp[vspec]
theorem s23(hC:Ok6 C)(h:Reg6 C mb listed a w)(hcl:Shuts .any ops6 listed)(hs:listed.size=ops6.size)(hl:listed.getD 23 true=false)(hd:∀j,depB .any ops6 23 j=true→listed.getD j false=true):wpOp Tryz.prog ops6 Q 23 (Nx6 C listed 23) a w:=by
 obtain⟨o,ho,hg,hdst,hop⟩:=o23;exact step_v ho hg hdst (by decide) h hcl hl (run_fld4 hop ((h.old 3 (by decide) (by decide)).trans hC.e3)) (by rw[vs23])
theorem o29:∃o,ops6[29]?=some o∧o.guard=none∧o.dst=some 44∧o.op= .fieldAddr 75 (.tmp 3) 7:=⟨_,rfl,rfl,rfl,rfl⟩
theorem vs29{v:Value}:vspec C mb 29 v w=(v=pt C.g3 7):=by simp[vspec]
theorem s29(hC:Ok6 C)(h:Reg6 C mb listed a w)(hcl:Shuts .any ops6 listed)(hs:listed.size=ops6.size)(hl:listed.getD 29 true=false)(hd:∀j,depB .any ops6 29 j=true→listed.getD j false=true):wpOp Tryz.prog ops6 Q 29 (Nx6 C listed 29) a w:=by
 obtain⟨o,ho,hg,hdst,hop⟩:=o29;exact step_v ho hg hdst (by decide) h hcl hl (run_fld7 hop ((h.old 3 (by decide) (by decide)).trans hC.e3)) (by rw[vs29])
theorem o35:∃o,ops6[35]?=some o∧o.guard=none∧o.dst=some 49∧o.op= .fieldAddr 75 (.tmp 3) 5:=⟨_,rfl,rfl,rfl,rfl⟩
theorem vs35{v:Value}:vspec C mb 35 v w=(v=pt C.g3 5):=by simp[vspec]
theorem s35(hC:Ok6 C)(h:Reg6 C mb listed a w)(hcl:Shuts .any ops6 listed)(hs:listed.size=ops6.size)(hl:listed.getD 35 true=false)(hd:∀j,depB .any ops6 35 j=true→listed.getD j false=true):wpOp Tryz.prog ops6 Q 35 (Nx6 C listed 35) a w:=by
 obtain⟨o,ho,hg,hdst,hop⟩:=o35;exact step_v ho hg hdst (by decide) h hcl hl (run_fld5 hop ((h.old 3 (by decide) (by decide)).trans hC.e3)) (by rw[vs35])
theorem o40:∃o,ops6[40]?=some o∧o.guard=none∧o.dst=some 53∧o.op= .fieldAddr 75 (.tmp 3) 6:=⟨_,rfl,rfl,rfl,rfl⟩
theorem vs40{v:Value}:vspec C mb 40 v w=(v=pt C.g3 6):=by simp[vspec]
theorem s40(hC:Ok6 C)(h:Reg6 C mb listed a w)(hcl:Shuts .any ops6 listed)(hs:listed.size=ops6.size)(hl:listed.getD 40 true=false)(hd:∀j,depB .any ops6 40 j=true→listed.getD j false=true):wpOp Tryz.prog ops6 Q 40 (Nx6 C listed 40) a w:=by
 obtain⟨o,ho,hg,hdst,hop⟩:=o40;exact step_v ho hg hdst (by decide) h hcl hl (run_fld6 hop ((h.old 3 (by decide) (by decide)).trans hC.e3)) (by rw[vs40])
theorem o24:∃o,ops6[24]?=some o∧o.guard=none∧o.dst=some 40∧o.op= .load 71 (.tmp 39):=⟨_,rfl,rfl,rfl,rfl⟩
theorem vs24{v:Value}:vspec C mb 24 v w=(v=C.p.semas.val):=by simp[vspec]
theorem s24(hC:Ok6 C)(h:Reg6 C mb listed a w)(hcl:Shuts .any ops6 listed)(hs:listed.size=ops6.size)(hl:listed.getD 24 true=false)(hd:∀j,depB .any ops6 24 j=true→listed.getD j false=true):wpOp Tryz.prog ops6 Q 24 (Nx6 C listed 24) a w:=by
 obtain⟨o,ho,hg,hdst,hop⟩:=o24;have e39:=h.val (23,39) (by decide) (hd 23 kz);rw[vs23]at e39;exact step_v ho hg hdst (by decide) h hcl hl (run_load hop e39 ((hC.hp.below h.bel hC.hp.lt).cell 4)) (by rw[vs24];rfl)
theorem o30:∃o,ops6[30]?=some o∧o.guard=none∧o.dst=some 45∧o.op= .load 71 (.tmp 44):=⟨_,rfl,rfl,rfl,rfl⟩
theorem vs30{v:Value}:vspec C mb 30 v w=(v=C.p.bufs.val):=by simp[vspec]
theorem s30(hC:Ok6 C)(h:Reg6 C mb listed a w)(hcl:Shuts .any ops6 listed)(hs:listed.size=ops6.size)(hl:listed.getD 30 true=false)(hd:∀j,depB .any ops6 30 j=true→listed.getD j false=true):wpOp Tryz.prog ops6 Q 30 (Nx6 C listed 30) a w:=by
 obtain⟨o,ho,hg,hdst,hop⟩:=o30;have e44:=h.val (29,44) (by decide) (hd 29 kz);rw[vs29]at e44;exact step_v ho hg hdst (by decide) h hcl hl (run_load hop e44 ((hC.hp.below h.bel hC.hp.lt).cell 7)) (by rw[vs30];rfl)
theorem o36:∃o,ops6[36]?=some o∧o.guard=none∧o.dst=some 50∧o.op= .load 3 (.tmp 49):=⟨_,rfl,rfl,rfl,rfl⟩
theorem vs36{v:Value}:vspec C mb 36 v w=(v= .int .i64 C.p.ev):=by simp[vspec]
theorem s36(hC:Ok6 C)(h:Reg6 C mb listed a w)(hcl:Shuts .any ops6 listed)(hs:listed.size=ops6.size)(hl:listed.getD 36 true=false)(hd:∀j,depB .any ops6 36 j=true→listed.getD j false=true):wpOp Tryz.prog ops6 Q 36 (Nx6 C listed 36) a w:=by
 obtain⟨o,ho,hg,hdst,hop⟩:=o36;have e49:=h.val (35,49) (by decide) (hd 35 kz);rw[vs35]at e49;exact step_v ho hg hdst (by decide) h hcl hl (run_loadi hop e49 ((hC.hp.below h.bel hC.hp.lt).cell 5)) (by rw[vs36];rfl)
theorem o41:∃o,ops6[41]?=some o∧o.guard=none∧o.dst=some 54∧o.op= .load 3 (.tmp 53):=⟨_,rfl,rfl,rfl,rfl⟩
theorem vs41{v:Value}:vspec C mb 41 v w=(v= .int .i64 C.p.bo):=by simp[vspec]
theorem s41(hC:Ok6 C)(h:Reg6 C mb listed a w)(hcl:Shuts .any ops6 listed)(hs:listed.size=ops6.size)(hl:listed.getD 41 true=false)(hd:∀j,depB .any ops6 41 j=true→listed.getD j false=true):wpOp Tryz.prog ops6 Q 41 (Nx6 C listed 41) a w:=by
 obtain⟨o,ho,hg,hdst,hop⟩:=o41;have e53:=h.val (40,53) (by decide) (hd 40 kz);rw[vs40]at e53;exact step_v ho hg hdst (by decide) h hcl hl (run_loadi hop e53 ((hC.hp.below h.bel hC.hp.lt).cell 6)) (by rw[vs41];rfl)
theorem o25:∃o,ops6[25]?=some o∧o.guard=none∧o.dst=some 41∧o.op= .call {callee:= .builtin .len,args:= #[.tmp 40],argTypes:= #[71]}:=⟨_,rfl,rfl,rfl,rfl⟩
theorem vs25{v:Value}:vspec C mb 25 v w=(v= .int .i64 C.p.semas.l.length):=by simp[vspec]
theorem s25(hC:Ok6 C)(h:Reg6 C mb listed a w)(hcl:Shuts .any ops6 listed)(hs:listed.size=ops6.size)(hl:listed.getD 25 true=false)(hd:∀j,depB .any ops6 25 j=true→listed.getD j false=true):wpOp Tryz.prog ops6 Q 25 (Nx6 C listed 25) a w:=by
 obtain⟨o,ho,hg,hdst,hop⟩:=o25;have e40:=h.val (24,40) (by decide) (hd 24 kz);rw[vs24]at e40;exact step_v ho hg hdst (by decide) h hcl hl (run_len hop e40) (by rw[vs25])
theorem o31:∃o,ops6[31]?=some o∧o.guard=none∧o.dst=some 46∧o.op= .call {callee:= .builtin .len,args:= #[.tmp 45],argTypes:= #[71]}:=⟨_,rfl,rfl,rfl,rfl⟩
theorem vs31{v:Value}:vspec C mb 31 v w=(v= .int .i64 C.p.bufs.l.length):=by simp[vspec]
theorem s31(hC:Ok6 C)(h:Reg6 C mb listed a w)(hcl:Shuts .any ops6 listed)(hs:listed.size=ops6.size)(hl:listed.getD 31 true=false)(hd:∀j,depB .any ops6 31 j=true→listed.getD j false=true):wpOp Tryz.prog ops6 Q 31 (Nx6 C listed 31) a w:=by
 obtain⟨o,ho,hg,hdst,hop⟩:=o31;have e45:=h.val (30,45) (by decide) (hd 30 kz);rw[vs30]at e45;exact step_v ho hg hdst (by decide) h hcl hl (run_len hop e45) (by rw[vs31])
theorem o5:∃o,ops6[5]?=some o∧o.guard=none∧o.dst=some 27∧o.op= .call {callee:= .value (.tmp 26),args:= #[.const (.int .i64 4)],argTypes:= #[3]}:=⟨_,rfl,rfl,rfl,rfl⟩
theorem vs5{v:Value}:vspec C mb 5 v w=(IsBelow C 4 v w):=by simp[vspec]
theorem s5(hC:Ok6 C)(h:Reg6 C mb listed a w)(hcl:Shuts .any ops6 listed)(hs:listed.size=ops6.size)(hl:listed.getD 5 true=false)(hd:∀j,depB .any ops6 5 j=true→listed.getD j false=true):wpOp Tryz.prog ops6 Q 5 (Nx6 C listed 5) a w:=by
 obtain⟨o,ho,hg,hdst,hop⟩:=o5;have e26:=h.val (4,26) (by decide) (hd 4 kz);rw[vs4]at e26;refine step_c ho hg hdst (by decide) h hcl hl (run_call (enters_of Tryz.func166 kz rfl) hop e26 rfl) ((below_c 4 w).mono ?_);rintro e w' ⟨rfl,rfl⟩;exact⟨_,rfl,(Below.refl _ w).alloc (Nat.le_refl _) _,by rw[vs5];exact⟨_,rfl,(Blk.new w _ _).cell 0⟩⟩
theorem o8:∃o,ops6[8]?=some o∧o.guard=none∧o.dst=some 29∧o.op= .call {callee:= .value (.tmp 28),args:= #[.const (.int .i64 256)],argTypes:= #[3]}:=⟨_,rfl,rfl,rfl,rfl⟩
theorem vs8{v:Value}:vspec C mb 8 v w=(IsBelow C 256 v w):=by simp[vspec]
theorem s8(hC:Ok6 C)(h:Reg6 C mb listed a w)(hcl:Shuts .any ops6 listed)(hs:listed.size=ops6.size)(hl:listed.getD 8 true=false)(hd:∀j,depB .any ops6 8 j=true→listed.getD j false=true):wpOp Tryz.prog ops6 Q 8 (Nx6 C listed 8) a w:=by
 obtain⟨o,ho,hg,hdst,hop⟩:=o8;have e28:=h.val (7,28) (by decide) (hd 7 kz);rw[vs7]at e28;refine step_c ho hg hdst (by decide) h hcl hl (run_call (enters_of Tryz.func166 kz rfl) hop e28 rfl) ((below_c 256 w).mono ?_);rintro e w' ⟨rfl,rfl⟩;exact⟨_,rfl,(Below.refl _ w).alloc (Nat.le_refl _) _,by rw[vs8];exact⟨_,rfl,(Blk.new w _ _).cell 0⟩⟩
theorem o11:∃o,ops6[11]?=some o∧o.guard=none∧o.dst=some 31∧o.op= .call {callee:= .value (.tmp 30),args:= #[.const (.int .i64 256)],argTypes:= #[3]}:=⟨_,rfl,rfl,rfl,rfl⟩
theorem vs11{v:Value}:vspec C mb 11 v w=(IsBelow C 256 v w):=by simp[vspec]
theorem s11(hC:Ok6 C)(h:Reg6 C mb listed a w)(hcl:Shuts .any ops6 listed)(hs:listed.size=ops6.size)(hl:listed.getD 11 true=false)(hd:∀j,depB .any ops6 11 j=true→listed.getD j false=true):wpOp Tryz.prog ops6 Q 11 (Nx6 C listed 11) a w:=by
 obtain⟨o,ho,hg,hdst,hop⟩:=o11;have e30:=h.val (10,30) (by decide) (hd 10 kz);rw[vs10]at e30;refine step_c ho hg hdst (by decide) h hcl hl (run_call (enters_of Tryz.func166 kz rfl) hop e30 rfl) ((below_c 256 w).mono ?_);rintro e w' ⟨rfl,rfl⟩;exact⟨_,rfl,(Below.refl _ w).alloc (Nat.le_refl _) _,by rw[vs11];exact⟨_,rfl,(Blk.new w _ _).cell 0⟩⟩
theorem o14:∃o,ops6[14]?=some o∧o.guard=none∧o.dst=some 33∧o.op= .call {callee:= .value (.tmp 32),args:= #[.const (.int .i64 4096)],argTypes:= #[3]}:=⟨_,rfl,rfl,rfl,rfl⟩
theorem vs14{v:Value}:vspec C mb 14 v w=(IsBelow C 4096 v w):=by simp[vspec]
theorem s14(hC:Ok6 C)(h:Reg6 C mb listed a w)(hcl:Shuts .any ops6 listed)(hs:listed.size=ops6.size)(hl:listed.getD 14 true=false)(hd:∀j,depB .any ops6 14 j=true→listed.getD j false=true):wpOp Tryz.prog ops6 Q 14 (Nx6 C listed 14) a w:=by
 obtain⟨o,ho,hg,hdst,hop⟩:=o14;have e32:=h.val (13,32) (by decide) (hd 13 kz);rw[vs13]at e32;refine step_c ho hg hdst (by decide) h hcl hl (run_call (enters_of Tryz.func166 kz rfl) hop e32 rfl) ((below_c 4096 w).mono ?_);rintro e w' ⟨rfl,rfl⟩;exact⟨_,rfl,(Below.refl _ w).alloc (Nat.le_refl _) _,by rw[vs14];exact⟨_,rfl,(Blk.new w _ _).cell 0⟩⟩
theorem o26:∃o,ops6[26]?=some o∧o.guard=none∧o.dst=some 42∧o.op= .call {callee:= .value (.tmp 38),args:= #[.tmp 41],argTypes:= #[3]}:=⟨_,rfl,rfl,rfl,rfl⟩
theorem vs26{v:Value}:vspec C mb 26 v w=(IsBelow C (C.p.semas.l.length:Int) v w):=by simp[vspec]
theorem s26(hC:Ok6 C)(h:Reg6 C mb listed a w)(hcl:Shuts .any ops6 listed)(hs:listed.size=ops6.size)(hl:listed.getD 26 true=false)(hd:∀j,depB .any ops6 26 j=true→listed.getD j false=true):wpOp Tryz.prog ops6 Q 26 (Nx6 C listed 26) a w:=by
 obtain⟨o,ho,hg,hdst,hop⟩:=o26;have e38:=h.val (22,38) (by decide) (hd 22 kz);rw[vs22]at e38;have e41:=h.val (25,41) (by decide) (hd 25 kz);rw[vs25]at e41;refine step_c ho hg hdst (by decide) h hcl hl (run_call (enters_of Tryz.func166 kz rfl) hop e38 e41) ((below_c (C.p.semas.l.length:Int) w).mono ?_);rintro e w' ⟨rfl,rfl⟩;exact⟨_,rfl,(Below.refl _ w).alloc (Nat.le_refl _) _,by rw[vs26];exact⟨_,rfl,(Blk.new w _ _).cell 0⟩⟩
theorem o32:∃o,ops6[32]?=some o∧o.guard=none∧o.dst=some 47∧o.op= .call {callee:= .value (.tmp 43),args:= #[.tmp 46],argTypes:= #[3]}:=⟨_,rfl,rfl,rfl,rfl⟩
theorem vs32{v:Value}:vspec C mb 32 v w=(IsBelow C (C.p.bufs.l.length:Int) v w):=by simp[vspec]
theorem s32(hC:Ok6 C)(h:Reg6 C mb listed a w)(hcl:Shuts .any ops6 listed)(hs:listed.size=ops6.size)(hl:listed.getD 32 true=false)(hd:∀j,depB .any ops6 32 j=true→listed.getD j false=true):wpOp Tryz.prog ops6 Q 32 (Nx6 C listed 32) a w:=by
 obtain⟨o,ho,hg,hdst,hop⟩:=o32;have e43:=h.val (28,43) (by decide) (hd 28 kz);rw[vs28]at e43;have e46:=h.val (31,46) (by decide) (hd 31 kz);rw[vs31]at e46;refine step_c ho hg hdst (by decide) h hcl hl (run_call (enters_of Tryz.func166 kz rfl) hop e43 e46) ((below_c (C.p.bufs.l.length:Int) w).mono ?_);rintro e w' ⟨rfl,rfl⟩;exact⟨_,rfl,(Below.refl _ w).alloc (Nat.le_refl _) _,by rw[vs32];exact⟨_,rfl,(Blk.new w _ _).cell 0⟩⟩
theorem o37:∃o,ops6[37]?=some o∧o.guard=none∧o.dst=some 51∧o.op= .call {callee:= .value (.tmp 48),args:= #[.tmp 50],argTypes:= #[3]}:=⟨_,rfl,rfl,rfl,rfl⟩
theorem vs37{v:Value}:vspec C mb 37 v w=(IsBelow C C.p.ev v w):=by simp[vspec]
theorem s37(hC:Ok6 C)(h:Reg6 C mb listed a w)(hcl:Shuts .any ops6 listed)(hs:listed.size=ops6.size)(hl:listed.getD 37 true=false)(hd:∀j,depB .any ops6 37 j=true→listed.getD j false=true):wpOp Tryz.prog ops6 Q 37 (Nx6 C listed 37) a w:=by
 obtain⟨o,ho,hg,hdst,hop⟩:=o37;have e48:=h.val (34,48) (by decide) (hd 34 kz);rw[vs34]at e48;have e50:=h.val (36,50) (by decide) (hd 36 kz);rw[vs36]at e50;refine step_c ho hg hdst (by decide) h hcl hl (run_call (enters_of Tryz.func166 kz rfl) hop e48 e50) ((below_c C.p.ev w).mono ?_);rintro e w' ⟨rfl,rfl⟩;exact⟨_,rfl,(Below.refl _ w).alloc (Nat.le_refl _) _,by rw[vs37];exact⟨_,rfl,(Blk.new w _ _).cell 0⟩⟩
theorem o42:∃o,ops6[42]?=some o∧o.guard=none∧o.dst=some 55∧o.op= .call {callee:= .value (.tmp 52),args:= #[.tmp 54],argTypes:= #[3]}:=⟨_,rfl,rfl,rfl,rfl⟩
theorem vs42{v:Value}:vspec C mb 42 v w=(IsBelow C C.p.bo v w):=by simp[vspec]
theorem s42(hC:Ok6 C)(h:Reg6 C mb listed a w)(hcl:Shuts .any ops6 listed)(hs:listed.size=ops6.size)(hl:listed.getD 42 true=false)(hd:∀j,depB .any ops6 42 j=true→listed.getD j false=true):wpOp Tryz.prog ops6 Q 42 (Nx6 C listed 42) a w:=by
 obtain⟨o,ho,hg,hdst,hop⟩:=o42;have e52:=h.val (39,52) (by decide) (hd 39 kz);rw[vs39]at e52;have e54:=h.val (41,54) (by decide) (hd 41 kz);rw[vs41]at e54;refine step_c ho hg hdst (by decide) h hcl hl (run_call (enters_of Tryz.func166 kz rfl) hop e52 e54) ((below_c C.p.bo w).mono ?_);rintro e w' ⟨rfl,rfl⟩;exact⟨_,rfl,(Below.refl _ w).alloc (Nat.le_refl _) _,by rw[vs42];exact⟨_,rfl,(Blk.new w _ _).cell 0⟩⟩
theorem o46:∃o,ops6[46]?=some o∧o.guard=none∧o.dst=some 58∧o.op= .call {callee:= .value (.tmp 56),args:= #[.tmp 57],argTypes:= #[3]}:=⟨_,rfl,rfl,rfl,rfl⟩
theorem vs46{v:Value}:vspec C mb 46 v w=(IsBelow C C.n v w):=by simp[vspec]
theorem s46(hC:Ok6 C)(h:Reg6 C mb listed a w)(hcl:Shuts .any ops6 listed)(hs:listed.size=ops6.size)(hl:listed.getD 46 true=false)(hd:∀j,depB .any ops6 46 j=true→listed.getD j false=true):wpOp Tryz.prog ops6 Q 46 (Nx6 C listed 46) a w:=by
 obtain⟨o,ho,hg,hdst,hop⟩:=o46;have e56:=h.val (44,56) (by decide) (hd 44 kz);rw[vs44]at e56;have e57:=h.val (45,57) (by decide) (hd 45 kz);rw[vs45]at e57;refine step_c ho hg hdst (by decide) h hcl hl (run_call (enters_of Tryz.func166 kz rfl) hop e56 e57) ((below_c C.n w).mono ?_);rintro e w' ⟨rfl,rfl⟩;exact⟨_,rfl,(Below.refl _ w).alloc (Nat.le_refl _) _,by rw[vs46];exact⟨_,rfl,(Blk.new w _ _).cell 0⟩⟩
theorem o17:∃o,ops6[17]?=some o∧o.guard=none∧o.dst=some 35∧o.op= .call {callee:= .value (.tmp 34),args:= #[.const (.bool true)],argTypes:= #[4]}:=⟨_,rfl,rfl,rfl,rfl⟩
theorem vs17{v:Value}:vspec C mb 17 v w=(IsPort C true v w):=by simp[vspec]
theorem s17(hC:Ok6 C)(h:Reg6 C mb listed a w)(hcl:Shuts .any ops6 listed)(hs:listed.size=ops6.size)(hl:listed.getD 17 true=false)(hd:∀j,depB .any ops6 17 j=true→listed.getD j false=true):wpOp Tryz.prog ops6 Q 17 (Nx6 C listed 17) a w:=by
 obtain⟨o,ho,hg,hdst,hop⟩:=o17;have e34:=h.val (16,34) (by decide) (hd 16 kz);rw[vs16]at e34;refine step_c ho hg hdst (by decide) h hcl hl (run_call (enters_of Tryz.func164 kz rfl) hop e34 rfl) ((portf_c true C.g3 w).mono ?_);rintro e w' ⟨rfl,rfl⟩;exact⟨_,rfl,(Below.refl _ w).alloc (Nat.le_refl _) _,by rw[vs17];exact⟨_,rfl,(Blk.new w _ _).cell 0⟩⟩
theorem o20:∃o,ops6[20]?=some o∧o.guard=none∧o.dst=some 37∧o.op= .call {callee:= .value (.tmp 36),args:= #[.const (.bool false)],argTypes:= #[4]}:=⟨_,rfl,rfl,rfl,rfl⟩
theorem vs20{v:Value}:vspec C mb 20 v w=(IsPort C false v w):=by simp[vspec]
theorem s20(hC:Ok6 C)(h:Reg6 C mb listed a w)(hcl:Shuts .any ops6 listed)(hs:listed.size=ops6.size)(hl:listed.getD 20 true=false)(hd:∀j,depB .any ops6 20 j=true→listed.getD j false=true):wpOp Tryz.prog ops6 Q 20 (Nx6 C listed 20) a w:=by
 obtain⟨o,ho,hg,hdst,hop⟩:=o20;have e36:=h.val (19,36) (by decide) (hd 19 kz);rw[vs19]at e36;refine step_c ho hg hdst (by decide) h hcl hl (run_call (enters_of Tryz.func164 kz rfl) hop e36 rfl) ((portf_c false C.g3 w).mono ?_);rintro e w' ⟨rfl,rfl⟩;exact⟨_,rfl,(Below.refl _ w).alloc (Nat.le_refl _) _,by rw[vs20];exact⟨_,rfl,(Blk.new w _ _).cell 0⟩⟩
theorem o1:∃o,ops6[1]?=some o∧o.guard=none∧o.dst=none∧o.op= .insert 216 (.tmp 24) (.const (.int .i32 119)) (.func 168):=⟨_,rfl,rfl,rfl,rfl⟩
theorem s1(hC:Ok6 C)(h:Reg6 C mb listed a w)(hcl:Shuts .any ops6 listed)(hs:listed.size=ops6.size)(hl:listed.getD 1 true=false)(hd:∀j,depB .any ops6 1 j=true→listed.getD j false=true):wpOp Tryz.prog ops6 Q 1 (Nx6 C listed 1) a w:=by
 obtain⟨o,ho,hg,hdst,hop⟩:=o1;exact step_i (q:=⟨1,119,0,0⟩) (by simp[ins6]) ho hg hdst hop rfl h hcl hl (hd 0 kz)
theorem o3:∃o,ops6[3]?=some o∧o.guard=none∧o.dst=none∧o.op= .insert 216 (.tmp 24) (.const (.int .i32 108)) (.tmp 25):=⟨_,rfl,rfl,rfl,rfl⟩
theorem s3(hC:Ok6 C)(h:Reg6 C mb listed a w)(hcl:Shuts .any ops6 listed)(hs:listed.size=ops6.size)(hl:listed.getD 3 true=false)(hd:∀j,depB .any ops6 3 j=true→listed.getD j false=true):wpOp Tryz.prog ops6 Q 3 (Nx6 C listed 3) a w:=by
 obtain⟨o,ho,hg,hdst,hop⟩:=o3;exact step_i (q:=⟨3,108,25,2⟩) (by simp[ins6]) ho hg hdst hop rfl h hcl hl (hd 0 kz)
theorem o6:∃o,ops6[6]?=some o∧o.guard=none∧o.dst=none∧o.op= .insert 216 (.tmp 24) (.const (.int .i32 114)) (.tmp 27):=⟨_,rfl,rfl,rfl,rfl⟩
theorem s6(hC:Ok6 C)(h:Reg6 C mb listed a w)(hcl:Shuts .any ops6 listed)(hs:listed.size=ops6.size)(hl:listed.getD 6 true=false)(hd:∀j,depB .any ops6 6 j=true→listed.getD j false=true):wpOp Tryz.prog ops6 Q 6 (Nx6 C listed 6) a w:=by
 obtain⟨o,ho,hg,hdst,hop⟩:=o6;exact step_i (q:=⟨6,114,27,5⟩) (by simp[ins6]) ho hg hdst hop rfl h hcl hl (hd 0 kz)
theorem o9:∃o,ops6[9]?=some o∧o.guard=none∧o.dst=none∧o.op= .insert 216 (.tmp 24) (.const (.int .i32 118)) (.tmp 29):=⟨_,rfl,rfl,rfl,rfl⟩
theorem s9(hC:Ok6 C)(h:Reg6 C mb listed a w)(hcl:Shuts .any ops6 listed)(hs:listed.size=ops6.size)(hl:listed.getD 9 true=false)(hd:∀j,depB .any ops6 9 j=true→listed.getD j false=true):wpOp Tryz.prog ops6 Q 9 (Nx6 C listed 9) a w:=by
 obtain⟨o,ho,hg,hdst,hop⟩:=o9;exact step_i (q:=⟨9,118,29,8⟩) (by simp[ins6]) ho hg hdst hop rfl h hcl hl (hd 0 kz)
theorem o12:∃o,ops6[12]?=some o∧o.guard=none∧o.dst=none∧o.op= .insert 216 (.tmp 24) (.const (.int .i32 99)) (.tmp 31):=⟨_,rfl,rfl,rfl,rfl⟩
theorem s12(hC:Ok6 C)(h:Reg6 C mb listed a w)(hcl:Shuts .any ops6 listed)(hs:listed.size=ops6.size)(hl:listed.getD 12 true=false)(hd:∀j,depB .any ops6 12 j=true→listed.getD j false=true):wpOp Tryz.prog ops6 Q 12 (Nx6 C listed 12) a w:=by
 obtain⟨o,ho,hg,hdst,hop⟩:=o12;exact step_i (q:=⟨12,99,31,11⟩) (by simp[ins6]) ho hg hdst hop rfl h hcl hl (hd 0 kz)
theorem o15:∃o,ops6[15]?=some o∧o.guard=none∧o.dst=none∧o.op= .insert 216 (.tmp 24) (.const (.int .i32 97)) (.tmp 33):=⟨_,rfl,rfl,rfl,rfl⟩
theorem s15(hC:Ok6 C)(h:Reg6 C mb listed a w)(hcl:Shuts .any ops6 listed)(hs:listed.size=ops6.size)(hl:listed.getD 15 true=false)(hd:∀j,depB .any ops6 15 j=true→listed.getD j false=true):wpOp Tryz.prog ops6 Q 15 (Nx6 C listed 15) a w:=by
 obtain⟨o,ho,hg,hdst,hop⟩:=o15;exact step_i (q:=⟨15,97,33,14⟩) (by simp[ins6]) ho hg hdst hop rfl h hcl hl (hd 0 kz)
theorem o18:∃o,ops6[18]?=some o∧o.guard=none∧o.dst=none∧o.op= .insert 216 (.tmp 24) (.const (.int .i32 111)) (.tmp 35):=⟨_,rfl,rfl,rfl,rfl⟩
theorem s18(hC:Ok6 C)(h:Reg6 C mb listed a w)(hcl:Shuts .any ops6 listed)(hs:listed.size=ops6.size)(hl:listed.getD 18 true=false)(hd:∀j,depB .any ops6 18 j=true→listed.getD j false=true):wpOp Tryz.prog ops6 Q 18 (Nx6 C listed 18) a w:=by
 obtain⟨o,ho,hg,hdst,hop⟩:=o18;exact step_i (q:=⟨18,111,35,17⟩) (by simp[ins6]) ho hg hdst hop rfl h hcl hl (hd 0 kz)
theorem o21:∃o,ops6[21]?=some o∧o.guard=none∧o.dst=none∧o.op= .insert 216 (.tmp 24) (.const (.int .i32 105)) (.tmp 37):=⟨_,rfl,rfl,rfl,rfl⟩
theorem s21(hC:Ok6 C)(h:Reg6 C mb listed a w)(hcl:Shuts .any ops6 listed)(hs:listed.size=ops6.size)(hl:listed.getD 21 true=false)(hd:∀j,depB .any ops6 21 j=true→listed.getD j false=true):wpOp Tryz.prog ops6 Q 21 (Nx6 C listed 21) a w:=by
 obtain⟨o,ho,hg,hdst,hop⟩:=o21;exact step_i (q:=⟨21,105,37,20⟩) (by simp[ins6]) ho hg hdst hop rfl h hcl hl (hd 0 kz)
theorem o27:∃o,ops6[27]?=some o∧o.guard=none∧o.dst=none∧o.op= .insert 216 (.tmp 24) (.const (.int .i32 115)) (.tmp 42):=⟨_,rfl,rfl,rfl,rfl⟩
theorem s27(hC:Ok6 C)(h:Reg6 C mb listed a w)(hcl:Shuts .any ops6 listed)(hs:listed.size=ops6.size)(hl:listed.getD 27 true=false)(hd:∀j,depB .any ops6 27 j=true→listed.getD j false=true):wpOp Tryz.prog ops6 Q 27 (Nx6 C listed 27) a w:=by
 obtain⟨o,ho,hg,hdst,hop⟩:=o27;exact step_i (q:=⟨27,115,42,26⟩) (by simp[ins6]) ho hg hdst hop rfl h hcl hl (hd 0 kz)
theorem o33:∃o,ops6[33]?=some o∧o.guard=none∧o.dst=none∧o.op= .insert 216 (.tmp 24) (.const (.int .i32 98)) (.tmp 47):=⟨_,rfl,rfl,rfl,rfl⟩
theorem s33(hC:Ok6 C)(h:Reg6 C mb listed a w)(hcl:Shuts .any ops6 listed)(hs:listed.size=ops6.size)(hl:listed.getD 33 true=false)(hd:∀j,depB .any ops6 33 j=true→listed.getD j false=true):wpOp Tryz.prog ops6 Q 33 (Nx6 C listed 33) a w:=by
 obtain⟨o,ho,hg,hdst,hop⟩:=o33;exact step_i (q:=⟨33,98,47,32⟩) (by simp[ins6]) ho hg hdst hop rfl h hcl hl (hd 0 kz)
theorem o38:∃o,ops6[38]?=some o∧o.guard=none∧o.dst=none∧o.op= .insert 216 (.tmp 24) (.const (.int .i32 101)) (.tmp 51):=⟨_,rfl,rfl,rfl,rfl⟩
theorem s38(hC:Ok6 C)(h:Reg6 C mb listed a w)(hcl:Shuts .any ops6 listed)(hs:listed.size=ops6.size)(hl:listed.getD 38 true=false)(hd:∀j,depB .any ops6 38 j=true→listed.getD j false=true):wpOp Tryz.prog ops6 Q 38 (Nx6 C listed 38) a w:=by
 obtain⟨o,ho,hg,hdst,hop⟩:=o38;exact step_i (q:=⟨38,101,51,37⟩) (by simp[ins6]) ho hg hdst hop rfl h hcl hl (hd 0 kz)
theorem o43:∃o,ops6[43]?=some o∧o.guard=none∧o.dst=none∧o.op= .insert 216 (.tmp 24) (.const (.int .i32 100)) (.tmp 55):=⟨_,rfl,rfl,rfl,rfl⟩
theorem s43(hC:Ok6 C)(h:Reg6 C mb listed a w)(hcl:Shuts .any ops6 listed)(hs:listed.size=ops6.size)(hl:listed.getD 43 true=false)(hd:∀j,depB .any ops6 43 j=true→listed.getD j false=true):wpOp Tryz.prog ops6 Q 43 (Nx6 C listed 43) a w:=by
 obtain⟨o,ho,hg,hdst,hop⟩:=o43;exact step_i (q:=⟨43,100,55,42⟩) (by simp[ins6]) ho hg hdst hop rfl h hcl hl (hd 0 kz)
theorem o47:∃o,ops6[47]?=some o∧o.guard=none∧o.dst=none∧o.op= .insert 216 (.tmp 24) (.const (.int .i32 106)) (.tmp 58):=⟨_,rfl,rfl,rfl,rfl⟩
theorem s47(hC:Ok6 C)(h:Reg6 C mb listed a w)(hcl:Shuts .any ops6 listed)(hs:listed.size=ops6.size)(hl:listed.getD 47 true=false)(hd:∀j,depB .any ops6 47 j=true→listed.getD j false=true):wpOp Tryz.prog ops6 Q 47 (Nx6 C listed 47) a w:=by
 obtain⟨o,ho,hg,hdst,hop⟩:=o47;exact step_i (q:=⟨47,106,58,46⟩) (by simp[ins6]) ho hg hdst hop rfl h hcl hl (hd 0 kz)
theorem o48:∃o,ops6[48]?=some o∧o.guard=none∧o.dst=some 59∧o.op= .move (.tmp 24):=⟨_,rfl,rfl,rfl,rfl⟩
theorem vs48{v:Value}:vspec C mb 48 v w=(v= .map (some mb)):=by simp[vspec]
theorem s48(hC:Ok6 C)(h:Reg6 C mb listed a w)(hcl:Shuts .any ops6 listed)(hs:listed.size=ops6.size)(hl:listed.getD 48 true=false)(hd:∀j,depB .any ops6 48 j=true→listed.getD j false=true):wpOp Tryz.prog ops6 Q 48 (Nx6 C listed 48) a w:=by
 obtain⟨o,ho,hg,hdst,hop⟩:=o48;obtain⟨k,D,e1,_⟩:=h.map (hd 0 kz);exact step_v ho hg hdst (by decide) h hcl hl (run_move hop e1) (by rw[vs48])
theorem o49:∃o,ops6[49]?=some o∧o.guard=none∧o.dst=some 11∧o.op= .assign (.tmp 59):=⟨_,rfl,rfl,rfl,rfl⟩
theorem vs49{v:Value}:vspec C mb 49 v w=(v= .map (some mb)):=by simp[vspec]
theorem s49(hC:Ok6 C)(h:Reg6 C mb listed a w)(hcl:Shuts .any ops6 listed)(hs:listed.size=ops6.size)(hl:listed.getD 49 true=false)(hd:∀j,depB .any ops6 49 j=true→listed.getD j false=true):wpOp Tryz.prog ops6 Q 49 (Nx6 C listed 49) a w:=by
 obtain⟨o,ho,hg,hdst,hop⟩:=o49;have e59:=h.val (48,59) (by decide) (hd 48 kz);rw[vs48]at e59;exact step_v ho hg hdst (by decide) h hcl hl (run_assign hop e59) (by rw[vs49])
theorem region6_c(hC:Ok6 C)(h0:Reg6 C mb (Array.replicate 50 false) a w)(hQ:∀mb a' w',Reg6 C mb (Array.replicate 50 true) a' w'→Q .normal a' w'):
 wpAny Tryz.prog .any ops6 Q 50 (Array.replicate 50 false) a w:=by
 refine wpAny_of_inv kz (fun listed a w=>listed.size=50∧∃mb,Reg6 C mb listed a w) ?_ ?_ 50 _ a w (by rw[size6];rfl) (by decide) (fun i j _ hi=>absurd hi (by
  have:((Array.replicate 50 false).getD i false)=false:=by
   rcases Nat.lt_or_ge i 50 with h' | h'
   ·simp[Array.getD,h']
   ·simp[Array.getD,h']
  rw[this];decide)) ⟨rfl,mb,h0⟩
 ·rintro listed a w i o ⟨hz,mb,h⟩ hcl hs ho hl hall
  have hi:i<50:=by have:=(Array.getElem?_eq_some_iff.1 ho).1;rw[size6]at this;exact this
  have hd:∀j,depB .any ops6 i j=true→listed.getD j false=true:=fun j hj=>by
   obtain⟨e,he,hb,rfl⟩:=depB_mem ho hj;exact hall e he hb
  refine wpOp_mono (K:=Nx6 C listed i) (fun a' w' hx=>⟨by simpa using hz,hx⟩) ?_;clear ho hall;rcases(by omega:i=0∨i=1∨i=2∨i=3∨i=4∨i=5∨i=6∨i=7∨i=8∨i=9∨i=10∨i=11∨i=12∨i=13∨i=14∨i=15∨i=16∨i=17∨i=18∨i=19∨i=20∨i=21∨i=22∨i=23∨i=24∨i=25∨i=26∨i=27∨i=28∨i=29∨i=30∨i=31∨i=32∨i=33∨i=34∨i=35∨i=36∨i=37∨i=38∨i=39∨i=40∨i=41∨i=42∨i=43∨i=44∨i=45∨i=46∨i=47∨i=48∨i=49)with rfl | rfl | rfl | rfl | rfl | rfl | rfl | rfl | rfl | rfl | rfl | rfl | rfl | rfl | rfl | rfl | rfl | rfl | rfl | rfl | rfl | rfl | rfl | rfl | rfl | rfl | rfl | rfl | rfl | rfl | rfl | rfl | rfl | rfl | rfl | rfl | rfl | rfl | rfl | rfl | rfl | rfl | rfl | rfl | rfl | rfl | rfl | rfl | rfl | rfl
  ·exact s0 hC h hcl hs hl hd
  ·exact s1 hC h hcl hs hl hd
  ·exact s2 hC h hcl hs hl hd
  ·exact s3 hC h hcl hs hl hd
  ·exact s4 hC h hcl hs hl hd
  ·exact s5 hC h hcl hs hl hd
  ·exact s6 hC h hcl hs hl hd
  ·exact s7 hC h hcl hs hl hd
  ·exact s8 hC h hcl hs hl hd
  ·exact s9 hC h hcl hs hl hd
  ·exact s10 hC h hcl hs hl hd
  ·exact s11 hC h hcl hs hl hd
  ·exact s12 hC h hcl hs hl hd
  ·exact s13 hC h hcl hs hl hd
  ·exact s14 hC h hcl hs hl hd
  ·exact s15 hC h hcl hs hl hd
  ·exact s16 hC h hcl hs hl hd
  ·exact s17 hC h hcl hs hl hd
  ·exact s18 hC h hcl hs hl hd
  ·exact s19 hC h hcl hs hl hd
  ·exact s20 hC h hcl hs hl hd
  ·exact s21 hC h hcl hs hl hd
  ·exact s22 hC h hcl hs hl hd
  ·exact s23 hC h hcl hs hl hd
  ·exact s24 hC h hcl hs hl hd
  ·exact s25 hC h hcl hs hl hd
  ·exact s26 hC h hcl hs hl hd
  ·exact s27 hC h hcl hs hl hd
  ·exact s28 hC h hcl hs hl hd
  ·exact s29 hC h hcl hs hl hd
  ·exact s30 hC h hcl hs hl hd
  ·exact s31 hC h hcl hs hl hd
  ·exact s32 hC h hcl hs hl hd
  ·exact s33 hC h hcl hs hl hd
  ·exact s34 hC h hcl hs hl hd
  ·exact s35 hC h hcl hs hl hd
  ·exact s36 hC h hcl hs hl hd
  ·exact s37 hC h hcl hs hl hd
  ·exact s38 hC h hcl hs hl hd
  ·exact s39 hC h hcl hs hl hd
  ·exact s40 hC h hcl hs hl hd
  ·exact s41 hC h hcl hs hl hd
  ·exact s42 hC h hcl hs hl hd
  ·exact s43 hC h hcl hs hl hd
  ·exact s44 hC h hcl hs hl hd
  ·exact s45 hC h hcl hs hl hd
  ·exact s46 hC h hcl hs hl hd
  ·exact s47 hC h hcl hs hl hd
  ·exact s48 hC h hcl hs hl hd
  ·exact s49 hC h hcl hs hl hd
 ·rintro listed a w ⟨hz,mb,h⟩ hall
  have e:listed=Array.replicate 50 true:=by
   refine Array.ext (by simp[hz]) fun i h1 h2=> ?_
   have:=hall i (by rw[size6];omega);simpa [h1]using this
  exact hQ mb a w (e▸h)
end
end Go.Proofs.YtchfcgilpjkmhaaGreatDoor
