import Derived.Lib.ItoaLen
import Derived.Lib.OthersKept
import Derived.Test.YtmdgooofdmpcjaaGreatDoorY18
import Derived.Test.YtmdgooofdmpcjaaGreatDoorY12
import Derived.Test.YtmdgooofdmpcjaaGreatDoorY0
set_option maxRecDepth 100000
set_option linter.unusedSimpArgs false
set_option linter.unusedVariables false
set_option linter.unusedSectionVars false
open Go.Proofs.Tryz renaming prog → pG
namespace Go.Proofs.YtmdgooofdmpcjaaGreatDoor
section
open Go.ChangeShapes Go.WideShapes Go.ChangeAt Go.RowKit
attribute [local go_sem] Oper.semAt_some
structure mI(C:Ctx):Prop where
 e1:sl C.a0 1= .int .i64 C.n
 e3:sl C.a0 3=pt C.g3 0
 e5:sl C.a0 5=pt C.g5 0
 e9:sl C.a0 9= .func (.func 161) #[] #[pt C.g3 0]
 e10:sl C.a0 10=Uz 163
 hp:C.p.bk C.w0 C.g3
section
variable {Q:Exit→Act→World→Prop} {C:Ctx} {mb:Nat} {listed:Array Bool} {a:Act} {w:World} {o:Oper} {i d:Nat}
theorem run_move{x:Operand}{v:Value}(hop:o.op= .move x)(hv:a.eval x=v):(execOp a.eval o).run pG w= .ok (.value v) w:=by
 simp[execOp,hop,hv]
theorem run_assign{x:Operand}{v:Value}(hop:o.op= .assign x)(hv:a.eval x=v):(execOp a.eval o).run pG w= .ok (.value v) w:=by
 simp[execOp,hop,hv]
theorem aFY(hop:o.op= .makeFunc (.func 166) #[] #[.tmp 5,.tmp 3])(e5:a.eval (.tmp 5)=pt C.g5 0)(e3:a.eval (.tmp 3)=pt C.g3 0):(execOp a.eval o).run pG w= .ok (.value (.func (.func 166) #[] #[pt C.g5 0,pt C.g3 0])) w:=by
 simp only[execOp,hop];simp[e5,e3,Instr.makeFunc,Result.andThen]
theorem run_map(hop:o.op= .makeMap 214 none):(execOp a.eval o).run pG w= .ok (.value (.map (some w.heap.size))) (w.alloc (.map #[] 0)):=by
 simp only[execOp,hop];simp[Instr.makeMap,go_sem]
theorem XT(hop:o.op= .fieldAddr 71 (.tmp 3) 4)(e3:a.eval (.tmp 3)=pt C.g3 0):(execOp a.eval o).run pG w= .ok (.value (pt C.g3 4)) w:=by
 simp only[execOp,hop,e3];simp[go_sem]
theorem XU(hop:o.op= .fieldAddr 71 (.tmp 3) 5)(e3:a.eval (.tmp 3)=pt C.g3 0):(execOp a.eval o).run pG w= .ok (.value (pt C.g3 5)) w:=by
 simp only[execOp,hop,e3];simp[go_sem]
theorem XV(hop:o.op= .fieldAddr 71 (.tmp 3) 6)(e3:a.eval (.tmp 3)=pt C.g3 0):(execOp a.eval o).run pG w= .ok (.value (pt C.g3 6)) w:=by
 simp only[execOp,hop,e3];simp[go_sem]
theorem XW(hop:o.op= .fieldAddr 71 (.tmp 3) 7)(e3:a.eval (.tmp 3)=pt C.g3 0):(execOp a.eval o).run pG w= .ok (.value (pt C.g3 7)) w:=by
 simp only[execOp,hop,e3];simp[go_sem]
theorem run_load{x:Operand}{g k:Nat}{v:Value}(hop:o.op= .load 36 x)(hx:a.eval x=pt g k)(hc:w.cell? ⟨g,k,none⟩=some v):(execOp a.eval o).run pG w= .ok (.value v) w:=by
 simp only[execOp,hop,hx];simp[go_sem,hc]
theorem Je{x:Operand}{g k:Nat}{v:Value}(hop:o.op= .load 3 x)(hx:a.eval x=pt g k)(hc:w.cell? ⟨g,k,none⟩=some v):(execOp a.eval o).run pG w= .ok (.value v) w:=by
 simp only[execOp,hop,hx];simp[go_sem,hc]
theorem SB{x:Operand}{A:Option Addr}{n c:Nat}(hop:o.op= .call {callee:= .builtin .len,args:= #[x],argTypes:= #[36]})(hx:a.eval x= .slice A n c):(execOp a.eval o).run pG w= .ok (.value (.int .i64 n)) w:=by
 simp only[execOp,hop];simp only[resolve,invoke,builtin,hx,List.map_toArray,List.map_cons,List.map_nil];simp[go_sem]
theorem jr{f:FuncId}(eg:∀args w,(callFunc f args).run pG w= .ok (.enter f args) w){x y:Operand}{v:Value}{lb:Array Value}{ts:Array TypeId}(hop:o.op= .call {callee:= .value x,args:= #[y],argTypes:=ts})(hx:a.eval x= .func (.func f) #[] lb)(hy:a.eval y=v):(execOp a.eval o).run pG w= .ok (.enter f (#[v]++lb)) w:=by
 simp only[execOp,hop];simp[resolve,hx,hy,Result.andThen];simp[invoke,go_sem];exact eg _ _
theorem o0:∃o,av[0]?=some o∧o.guard=none∧o.dst=some 24∧o.op= .makeMap 214 none:=⟨_,rfl,rfl,rfl,rfl⟩
theorem s0(hC:mI C)(h:dP C mb listed a w)(cC:Shuts .any av listed)(hs:listed.size=av.size)(hl:listed.getD 0 true=false)(hd:∀j,eV .any av 0 j=true→listed.getD j false=true):wpOp pG av Q 0 (lI C listed 0) a w:=by
 obtain⟨o,ho,hg,cw,hop⟩:=o0;exact aFX ho hg cw h cC hs hl (run_map hop)
theorem o4:∃o,av[4]?=some o∧o.guard=none∧o.dst=some 26∧o.op= .move (.tmp 10):=⟨_,rfl,rfl,rfl,rfl⟩
theorem vs4{v:Value}:bh C mb 4 v w=(v=Uz 163):=by simp[bh]
theorem s4(hC:mI C)(h:dP C mb listed a w)(cC:Shuts .any av listed)(hs:listed.size=av.size)(hl:listed.getD 4 true=false)(hd:∀j,eV .any av 4 j=true→listed.getD j false=true):wpOp pG av Q 4 (lI C listed 4) a w:=by
 obtain⟨o,ho,hg,cw,hop⟩:=o4;exact fQ ho hg cw dz h cC hl (run_move hop ((h.old 10 dz dz).trans hC.e10)) (by rw[vs4])
theorem o7:∃o,av[7]?=some o∧o.guard=none∧o.dst=some 28∧o.op= .move (.tmp 10):=⟨_,rfl,rfl,rfl,rfl⟩
theorem vs7{v:Value}:bh C mb 7 v w=(v=Uz 163):=by simp[bh]
theorem s7(hC:mI C)(h:dP C mb listed a w)(cC:Shuts .any av listed)(hs:listed.size=av.size)(hl:listed.getD 7 true=false)(hd:∀j,eV .any av 7 j=true→listed.getD j false=true):wpOp pG av Q 7 (lI C listed 7) a w:=by
 obtain⟨o,ho,hg,cw,hop⟩:=o7;exact fQ ho hg cw dz h cC hl (run_move hop ((h.old 10 dz dz).trans hC.e10)) (by rw[vs7])
theorem o10:∃o,av[10]?=some o∧o.guard=none∧o.dst=some 30∧o.op= .move (.tmp 10):=⟨_,rfl,rfl,rfl,rfl⟩
theorem aJY{v:Value}:bh C mb 10 v w=(v=Uz 163):=by simp[bh]
theorem s10(hC:mI C)(h:dP C mb listed a w)(cC:Shuts .any av listed)(hs:listed.size=av.size)(hl:listed.getD 10 true=false)(hd:∀j,eV .any av 10 j=true→listed.getD j false=true):wpOp pG av Q 10 (lI C listed 10) a w:=by
 obtain⟨o,ho,hg,cw,hop⟩:=o10;exact fQ ho hg cw dz h cC hl (run_move hop ((h.old 10 dz dz).trans hC.e10)) (by rw[aJY])
theorem o13:∃o,av[13]?=some o∧o.guard=none∧o.dst=some 32∧o.op= .move (.tmp 10):=⟨_,rfl,rfl,rfl,rfl⟩
theorem aJZ{v:Value}:bh C mb 13 v w=(v=Uz 163):=by simp[bh]
theorem s13(hC:mI C)(h:dP C mb listed a w)(cC:Shuts .any av listed)(hs:listed.size=av.size)(hl:listed.getD 13 true=false)(hd:∀j,eV .any av 13 j=true→listed.getD j false=true):wpOp pG av Q 13 (lI C listed 13) a w:=by
 obtain⟨o,ho,hg,cw,hop⟩:=o13;exact fQ ho hg cw dz h cC hl (run_move hop ((h.old 10 dz dz).trans hC.e10)) (by rw[aJZ])
theorem o22:∃o,av[22]?=some o∧o.guard=none∧o.dst=some 38∧o.op= .move (.tmp 10):=⟨_,rfl,rfl,rfl,rfl⟩
theorem aJa{v:Value}:bh C mb 22 v w=(v=Uz 163):=by simp[bh]
theorem s22(hC:mI C)(h:dP C mb listed a w)(cC:Shuts .any av listed)(hs:listed.size=av.size)(hl:listed.getD 22 true=false)(hd:∀j,eV .any av 22 j=true→listed.getD j false=true):wpOp pG av Q 22 (lI C listed 22) a w:=by
 obtain⟨o,ho,hg,cw,hop⟩:=o22;exact fQ ho hg cw dz h cC hl (run_move hop ((h.old 10 dz dz).trans hC.e10)) (by rw[aJa])
theorem o28:∃o,av[28]?=some o∧o.guard=none∧o.dst=some 43∧o.op= .move (.tmp 10):=⟨_,rfl,rfl,rfl,rfl⟩
theorem aJb{v:Value}:bh C mb 28 v w=(v=Uz 163):=by simp[bh]
theorem s28(hC:mI C)(h:dP C mb listed a w)(cC:Shuts .any av listed)(hs:listed.size=av.size)(hl:listed.getD 28 true=false)(hd:∀j,eV .any av 28 j=true→listed.getD j false=true):wpOp pG av Q 28 (lI C listed 28) a w:=by
 obtain⟨o,ho,hg,cw,hop⟩:=o28;exact fQ ho hg cw dz h cC hl (run_move hop ((h.old 10 dz dz).trans hC.e10)) (by rw[aJb])
theorem o34:∃o,av[34]?=some o∧o.guard=none∧o.dst=some 48∧o.op= .move (.tmp 10):=⟨_,rfl,rfl,rfl,rfl⟩
theorem aJc{v:Value}:bh C mb 34 v w=(v=Uz 163):=by simp[bh]
theorem s34(hC:mI C)(h:dP C mb listed a w)(cC:Shuts .any av listed)(hs:listed.size=av.size)(hl:listed.getD 34 true=false)(hd:∀j,eV .any av 34 j=true→listed.getD j false=true):wpOp pG av Q 34 (lI C listed 34) a w:=by
 obtain⟨o,ho,hg,cw,hop⟩:=o34;exact fQ ho hg cw dz h cC hl (run_move hop ((h.old 10 dz dz).trans hC.e10)) (by rw[aJc])
theorem o39:∃o,av[39]?=some o∧o.guard=none∧o.dst=some 52∧o.op= .move (.tmp 10):=⟨_,rfl,rfl,rfl,rfl⟩
theorem aJd{v:Value}:bh C mb 39 v w=(v=Uz 163):=by simp[bh]
theorem s39(hC:mI C)(h:dP C mb listed a w)(cC:Shuts .any av listed)(hs:listed.size=av.size)(hl:listed.getD 39 true=false)(hd:∀j,eV .any av 39 j=true→listed.getD j false=true):wpOp pG av Q 39 (lI C listed 39) a w:=by
 obtain⟨o,ho,hg,cw,hop⟩:=o39;exact fQ ho hg cw dz h cC hl (run_move hop ((h.old 10 dz dz).trans hC.e10)) (by rw[aJd])
theorem o44:∃o,av[44]?=some o∧o.guard=none∧o.dst=some 56∧o.op= .move (.tmp 10):=⟨_,rfl,rfl,rfl,rfl⟩
theorem aJe{v:Value}:bh C mb 44 v w=(v=Uz 163):=by simp[bh]
theorem s44(hC:mI C)(h:dP C mb listed a w)(cC:Shuts .any av listed)(hs:listed.size=av.size)(hl:listed.getD 44 true=false)(hd:∀j,eV .any av 44 j=true→listed.getD j false=true):wpOp pG av Q 44 (lI C listed 44) a w:=by
 obtain⟨o,ho,hg,cw,hop⟩:=o44;exact fQ ho hg cw dz h cC hl (run_move hop ((h.old 10 dz dz).trans hC.e10)) (by rw[aJe])
theorem o16:∃o,av[16]?=some o∧o.guard=none∧o.dst=some 34∧o.op= .move (.tmp 9):=⟨_,rfl,rfl,rfl,rfl⟩
theorem aJf{v:Value}:bh C mb 16 v w=(v= .func (.func 161) #[] #[pt C.g3 0]):=by simp[bh]
theorem s16(hC:mI C)(h:dP C mb listed a w)(cC:Shuts .any av listed)(hs:listed.size=av.size)(hl:listed.getD 16 true=false)(hd:∀j,eV .any av 16 j=true→listed.getD j false=true):wpOp pG av Q 16 (lI C listed 16) a w:=by
 obtain⟨o,ho,hg,cw,hop⟩:=o16;exact fQ ho hg cw dz h cC hl (run_move hop ((h.old 9 dz dz).trans hC.e9)) (by rw[aJf])
theorem o19:∃o,av[19]?=some o∧o.guard=none∧o.dst=some 36∧o.op= .move (.tmp 9):=⟨_,rfl,rfl,rfl,rfl⟩
theorem aJg{v:Value}:bh C mb 19 v w=(v= .func (.func 161) #[] #[pt C.g3 0]):=by simp[bh]
theorem s19(hC:mI C)(h:dP C mb listed a w)(cC:Shuts .any av listed)(hs:listed.size=av.size)(hl:listed.getD 19 true=false)(hd:∀j,eV .any av 19 j=true→listed.getD j false=true):wpOp pG av Q 19 (lI C listed 19) a w:=by
 obtain⟨o,ho,hg,cw,hop⟩:=o19;exact fQ ho hg cw dz h cC hl (run_move hop ((h.old 9 dz dz).trans hC.e9)) (by rw[aJg])
theorem o2:∃o,av[2]?=some o∧o.guard=none∧o.dst=some 25∧o.op= .makeFunc (.func 166) #[] #[.tmp 5,.tmp 3]:=⟨_,rfl,rfl,rfl,rfl⟩
theorem vs2{v:Value}:bh C mb 2 v w=(v= .func (.func 166) #[] #[pt C.g5 0,pt C.g3 0]):=by simp[bh]
theorem s2(hC:mI C)(h:dP C mb listed a w)(cC:Shuts .any av listed)(hs:listed.size=av.size)(hl:listed.getD 2 true=false)(hd:∀j,eV .any av 2 j=true→listed.getD j false=true):wpOp pG av Q 2 (lI C listed 2) a w:=by
 obtain⟨o,ho,hg,cw,hop⟩:=o2;exact fQ ho hg cw dz h cC hl (aFY hop ((h.old 5 dz dz).trans hC.e5) ((h.old 3 dz dz).trans hC.e3)) (by rw[vs2])
theorem o45:∃o,av[45]?=some o∧o.guard=none∧o.dst=some 57∧o.op= .move (.tmp 1):=⟨_,rfl,rfl,rfl,rfl⟩
theorem aJh{v:Value}:bh C mb 45 v w=(v= .int .i64 C.n):=by simp[bh]
theorem s45(hC:mI C)(h:dP C mb listed a w)(cC:Shuts .any av listed)(hs:listed.size=av.size)(hl:listed.getD 45 true=false)(hd:∀j,eV .any av 45 j=true→listed.getD j false=true):wpOp pG av Q 45 (lI C listed 45) a w:=by
 obtain⟨o,ho,hg,cw,hop⟩:=o45;exact fQ ho hg cw dz h cC hl (run_move hop ((h.old 1 dz dz).trans hC.e1)) (by rw[aJh])
theorem o23:∃o,av[23]?=some o∧o.guard=none∧o.dst=some 39∧o.op= .fieldAddr 71 (.tmp 3) 4:=⟨_,rfl,rfl,rfl,rfl⟩
theorem aJi{v:Value}:bh C mb 23 v w=(v=pt C.g3 4):=by simp[bh]
theorem s23(hC:mI C)(h:dP C mb listed a w)(cC:Shuts .any av listed)(hs:listed.size=av.size)(hl:listed.getD 23 true=false)(hd:∀j,eV .any av 23 j=true→listed.getD j false=true):wpOp pG av Q 23 (lI C listed 23) a w:=by
 obtain⟨o,ho,hg,cw,hop⟩:=o23;exact fQ ho hg cw dz h cC hl (XT hop ((h.old 3 dz dz).trans hC.e3)) (by rw[aJi])
theorem o29:∃o,av[29]?=some o∧o.guard=none∧o.dst=some 44∧o.op= .fieldAddr 71 (.tmp 3) 7:=⟨_,rfl,rfl,rfl,rfl⟩
theorem aJj{v:Value}:bh C mb 29 v w=(v=pt C.g3 7):=by simp[bh]
theorem s29(hC:mI C)(h:dP C mb listed a w)(cC:Shuts .any av listed)(hs:listed.size=av.size)(hl:listed.getD 29 true=false)(hd:∀j,eV .any av 29 j=true→listed.getD j false=true):wpOp pG av Q 29 (lI C listed 29) a w:=by
 obtain⟨o,ho,hg,cw,hop⟩:=o29;exact fQ ho hg cw dz h cC hl (XW hop ((h.old 3 dz dz).trans hC.e3)) (by rw[aJj])
theorem o35:∃o,av[35]?=some o∧o.guard=none∧o.dst=some 49∧o.op= .fieldAddr 71 (.tmp 3) 5:=⟨_,rfl,rfl,rfl,rfl⟩
theorem aJk{v:Value}:bh C mb 35 v w=(v=pt C.g3 5):=by simp[bh]
theorem s35(hC:mI C)(h:dP C mb listed a w)(cC:Shuts .any av listed)(hs:listed.size=av.size)(hl:listed.getD 35 true=false)(hd:∀j,eV .any av 35 j=true→listed.getD j false=true):wpOp pG av Q 35 (lI C listed 35) a w:=by
 obtain⟨o,ho,hg,cw,hop⟩:=o35;exact fQ ho hg cw dz h cC hl (XU hop ((h.old 3 dz dz).trans hC.e3)) (by rw[aJk])
theorem o40:∃o,av[40]?=some o∧o.guard=none∧o.dst=some 53∧o.op= .fieldAddr 71 (.tmp 3) 6:=⟨_,rfl,rfl,rfl,rfl⟩
theorem aJl{v:Value}:bh C mb 40 v w=(v=pt C.g3 6):=by simp[bh]
theorem s40(hC:mI C)(h:dP C mb listed a w)(cC:Shuts .any av listed)(hs:listed.size=av.size)(hl:listed.getD 40 true=false)(hd:∀j,eV .any av 40 j=true→listed.getD j false=true):wpOp pG av Q 40 (lI C listed 40) a w:=by
 obtain⟨o,ho,hg,cw,hop⟩:=o40;exact fQ ho hg cw dz h cC hl (XV hop ((h.old 3 dz dz).trans hC.e3)) (by rw[aJl])
theorem o24:∃o,av[24]?=some o∧o.guard=none∧o.dst=some 40∧o.op= .load 36 (.tmp 39):=⟨_,rfl,rfl,rfl,rfl⟩
theorem aJm{v:Value}:bh C mb 24 v w=(v=C.p.aG.val):=by simp[bh]
theorem s24(hC:mI C)(h:dP C mb listed a w)(cC:Shuts .any av listed)(hs:listed.size=av.size)(hl:listed.getD 24 true=false)(hd:∀j,eV .any av 24 j=true→listed.getD j false=true):wpOp pG av Q 24 (lI C listed 24) a w:=by
 obtain⟨o,ho,hg,cw,hop⟩:=o24;have e39:=h.val (23,39) dz (hd 23 kz);rw[aJi]at e39;exact fQ ho hg cw dz h cC hl (run_load hop e39 ((hC.hp.below h.lE hC.hp.lt).cell 4)) (by rw[aJm];rfl)
theorem o30:∃o,av[30]?=some o∧o.guard=none∧o.dst=some 45∧o.op= .load 36 (.tmp 44):=⟨_,rfl,rfl,rfl,rfl⟩
theorem aJn{v:Value}:bh C mb 30 v w=(v=C.p.aX.val):=by simp[bh]
theorem s30(hC:mI C)(h:dP C mb listed a w)(cC:Shuts .any av listed)(hs:listed.size=av.size)(hl:listed.getD 30 true=false)(hd:∀j,eV .any av 30 j=true→listed.getD j false=true):wpOp pG av Q 30 (lI C listed 30) a w:=by
 obtain⟨o,ho,hg,cw,hop⟩:=o30;have e44:=h.val (29,44) dz (hd 29 kz);rw[aJj]at e44;exact fQ ho hg cw dz h cC hl (run_load hop e44 ((hC.hp.below h.lE hC.hp.lt).cell 7)) (by rw[aJn];rfl)
theorem o36:∃o,av[36]?=some o∧o.guard=none∧o.dst=some 50∧o.op= .load 3 (.tmp 49):=⟨_,rfl,rfl,rfl,rfl⟩
theorem aJo{v:Value}:bh C mb 36 v w=(v= .int .i64 C.p.ev):=by simp[bh]
theorem s36(hC:mI C)(h:dP C mb listed a w)(cC:Shuts .any av listed)(hs:listed.size=av.size)(hl:listed.getD 36 true=false)(hd:∀j,eV .any av 36 j=true→listed.getD j false=true):wpOp pG av Q 36 (lI C listed 36) a w:=by
 obtain⟨o,ho,hg,cw,hop⟩:=o36;have e49:=h.val (35,49) dz (hd 35 kz);rw[aJk]at e49;exact fQ ho hg cw dz h cC hl (Je hop e49 ((hC.hp.below h.lE hC.hp.lt).cell 5)) (by rw[aJo];rfl)
theorem o41:∃o,av[41]?=some o∧o.guard=none∧o.dst=some 54∧o.op= .load 3 (.tmp 53):=⟨_,rfl,rfl,rfl,rfl⟩
theorem aJp{v:Value}:bh C mb 41 v w=(v= .int .i64 C.p.bo):=by simp[bh]
theorem s41(hC:mI C)(h:dP C mb listed a w)(cC:Shuts .any av listed)(hs:listed.size=av.size)(hl:listed.getD 41 true=false)(hd:∀j,eV .any av 41 j=true→listed.getD j false=true):wpOp pG av Q 41 (lI C listed 41) a w:=by
 obtain⟨o,ho,hg,cw,hop⟩:=o41;have e53:=h.val (40,53) dz (hd 40 kz);rw[aJl]at e53;exact fQ ho hg cw dz h cC hl (Je hop e53 ((hC.hp.below h.lE hC.hp.lt).cell 6)) (by rw[aJp];rfl)
theorem o25:∃o,av[25]?=some o∧o.guard=none∧o.dst=some 41∧o.op= .call {callee:= .builtin .len,args:= #[.tmp 40],argTypes:= #[36]}:=⟨_,rfl,rfl,rfl,rfl⟩
theorem aJq{v:Value}:bh C mb 25 v w=(v= .int .i64 C.p.aG.l.length):=by simp[bh]
theorem s25(hC:mI C)(h:dP C mb listed a w)(cC:Shuts .any av listed)(hs:listed.size=av.size)(hl:listed.getD 25 true=false)(hd:∀j,eV .any av 25 j=true→listed.getD j false=true):wpOp pG av Q 25 (lI C listed 25) a w:=by
 obtain⟨o,ho,hg,cw,hop⟩:=o25;have e40:=h.val (24,40) dz (hd 24 kz);rw[aJm]at e40;exact fQ ho hg cw dz h cC hl (SB hop e40) (by rw[aJq])
theorem o31:∃o,av[31]?=some o∧o.guard=none∧o.dst=some 46∧o.op= .call {callee:= .builtin .len,args:= #[.tmp 45],argTypes:= #[36]}:=⟨_,rfl,rfl,rfl,rfl⟩
theorem aJr{v:Value}:bh C mb 31 v w=(v= .int .i64 C.p.aX.l.length):=by simp[bh]
theorem s31(hC:mI C)(h:dP C mb listed a w)(cC:Shuts .any av listed)(hs:listed.size=av.size)(hl:listed.getD 31 true=false)(hd:∀j,eV .any av 31 j=true→listed.getD j false=true):wpOp pG av Q 31 (lI C listed 31) a w:=by
 obtain⟨o,ho,hg,cw,hop⟩:=o31;have e45:=h.val (30,45) dz (hd 30 kz);rw[aJn]at e45;exact fQ ho hg cw dz h cC hl (SB hop e45) (by rw[aJr])
theorem o5:∃o,av[5]?=some o∧o.guard=none∧o.dst=some 27∧o.op= .call {callee:= .value (.tmp 26),args:= #[.const (.int .i64 4)],argTypes:= #[3]}:=⟨_,rfl,rfl,rfl,rfl⟩
theorem vs5{v:Value}:bh C mb 5 v w=(dw C 4 v w):=by simp[bh]
theorem s5(hC:mI C)(h:dP C mb listed a w)(cC:Shuts .any av listed)(hs:listed.size=av.size)(hl:listed.getD 5 true=false)(hd:∀j,eV .any av 5 j=true→listed.getD j false=true):wpOp pG av Q 5 (lI C listed 5) a w:=by
 obtain⟨o,ho,hg,cw,hop⟩:=o5;have e26:=h.val (4,26) dz (hd 4 kz);rw[vs4]at e26;refine oP ho hg cw dz h cC hl (jr (enters_of Tryz.func163 kz rfl) hop e26 rfl) ((ng 4 w).mono ?_);rintro e w' ⟨rfl,rfl⟩;exact⟨_,rfl,bN,by rw[vs5];exact⟨_,rfl,(ah.new w _ _).cell 0⟩⟩
theorem o8:∃o,av[8]?=some o∧o.guard=none∧o.dst=some 29∧o.op= .call {callee:= .value (.tmp 28),args:= #[.const (.int .i64 256)],argTypes:= #[3]}:=⟨_,rfl,rfl,rfl,rfl⟩
theorem vs8{v:Value}:bh C mb 8 v w=(dw C 256 v w):=by simp[bh]
theorem s8(hC:mI C)(h:dP C mb listed a w)(cC:Shuts .any av listed)(hs:listed.size=av.size)(hl:listed.getD 8 true=false)(hd:∀j,eV .any av 8 j=true→listed.getD j false=true):wpOp pG av Q 8 (lI C listed 8) a w:=by
 obtain⟨o,ho,hg,cw,hop⟩:=o8;have e28:=h.val (7,28) dz (hd 7 kz);rw[vs7]at e28;refine oP ho hg cw dz h cC hl (jr (enters_of Tryz.func163 kz rfl) hop e28 rfl) ((ng 256 w).mono ?_);rintro e w' ⟨rfl,rfl⟩;exact⟨_,rfl,bN,by rw[vs8];exact⟨_,rfl,(ah.new w _ _).cell 0⟩⟩
theorem o11:∃o,av[11]?=some o∧o.guard=none∧o.dst=some 31∧o.op= .call {callee:= .value (.tmp 30),args:= #[.const (.int .i64 256)],argTypes:= #[3]}:=⟨_,rfl,rfl,rfl,rfl⟩
theorem aJs{v:Value}:bh C mb 11 v w=(dw C 256 v w):=by simp[bh]
theorem s11(hC:mI C)(h:dP C mb listed a w)(cC:Shuts .any av listed)(hs:listed.size=av.size)(hl:listed.getD 11 true=false)(hd:∀j,eV .any av 11 j=true→listed.getD j false=true):wpOp pG av Q 11 (lI C listed 11) a w:=by
 obtain⟨o,ho,hg,cw,hop⟩:=o11;have e30:=h.val (10,30) dz (hd 10 kz);rw[aJY]at e30;refine oP ho hg cw dz h cC hl (jr (enters_of Tryz.func163 kz rfl) hop e30 rfl) ((ng 256 w).mono ?_);rintro e w' ⟨rfl,rfl⟩;exact⟨_,rfl,bN,by rw[aJs];exact⟨_,rfl,(ah.new w _ _).cell 0⟩⟩
theorem o14:∃o,av[14]?=some o∧o.guard=none∧o.dst=some 33∧o.op= .call {callee:= .value (.tmp 32),args:= #[.const (.int .i64 4096)],argTypes:= #[3]}:=⟨_,rfl,rfl,rfl,rfl⟩
theorem aJt{v:Value}:bh C mb 14 v w=(dw C 4096 v w):=by simp[bh]
theorem s14(hC:mI C)(h:dP C mb listed a w)(cC:Shuts .any av listed)(hs:listed.size=av.size)(hl:listed.getD 14 true=false)(hd:∀j,eV .any av 14 j=true→listed.getD j false=true):wpOp pG av Q 14 (lI C listed 14) a w:=by
 obtain⟨o,ho,hg,cw,hop⟩:=o14;have e32:=h.val (13,32) dz (hd 13 kz);rw[aJZ]at e32;refine oP ho hg cw dz h cC hl (jr (enters_of Tryz.func163 kz rfl) hop e32 rfl) ((ng 4096 w).mono ?_);rintro e w' ⟨rfl,rfl⟩;exact⟨_,rfl,bN,by rw[aJt];exact⟨_,rfl,(ah.new w _ _).cell 0⟩⟩
theorem o26:∃o,av[26]?=some o∧o.guard=none∧o.dst=some 42∧o.op= .call {callee:= .value (.tmp 38),args:= #[.tmp 41],argTypes:= #[3]}:=⟨_,rfl,rfl,rfl,rfl⟩
theorem aJu{v:Value}:bh C mb 26 v w=(dw C (C.p.aG.l.length:Int) v w):=by simp[bh]
theorem s26(hC:mI C)(h:dP C mb listed a w)(cC:Shuts .any av listed)(hs:listed.size=av.size)(hl:listed.getD 26 true=false)(hd:∀j,eV .any av 26 j=true→listed.getD j false=true):wpOp pG av Q 26 (lI C listed 26) a w:=by
 obtain⟨o,ho,hg,cw,hop⟩:=o26;have e38:=h.val (22,38) dz (hd 22 kz);rw[aJa]at e38;have e41:=h.val (25,41) dz (hd 25 kz);rw[aJq]at e41;refine oP ho hg cw dz h cC hl (jr (enters_of Tryz.func163 kz rfl) hop e38 e41) ((ng (C.p.aG.l.length:Int) w).mono ?_);rintro e w' ⟨rfl,rfl⟩;exact⟨_,rfl,bN,by rw[aJu];exact⟨_,rfl,(ah.new w _ _).cell 0⟩⟩
theorem o32:∃o,av[32]?=some o∧o.guard=none∧o.dst=some 47∧o.op= .call {callee:= .value (.tmp 43),args:= #[.tmp 46],argTypes:= #[3]}:=⟨_,rfl,rfl,rfl,rfl⟩
theorem aJv{v:Value}:bh C mb 32 v w=(dw C (C.p.aX.l.length:Int) v w):=by simp[bh]
theorem s32(hC:mI C)(h:dP C mb listed a w)(cC:Shuts .any av listed)(hs:listed.size=av.size)(hl:listed.getD 32 true=false)(hd:∀j,eV .any av 32 j=true→listed.getD j false=true):wpOp pG av Q 32 (lI C listed 32) a w:=by
 obtain⟨o,ho,hg,cw,hop⟩:=o32;have e43:=h.val (28,43) dz (hd 28 kz);rw[aJb]at e43;have e46:=h.val (31,46) dz (hd 31 kz);rw[aJr]at e46;refine oP ho hg cw dz h cC hl (jr (enters_of Tryz.func163 kz rfl) hop e43 e46) ((ng (C.p.aX.l.length:Int) w).mono ?_);rintro e w' ⟨rfl,rfl⟩;exact⟨_,rfl,bN,by rw[aJv];exact⟨_,rfl,(ah.new w _ _).cell 0⟩⟩
theorem o37:∃o,av[37]?=some o∧o.guard=none∧o.dst=some 51∧o.op= .call {callee:= .value (.tmp 48),args:= #[.tmp 50],argTypes:= #[3]}:=⟨_,rfl,rfl,rfl,rfl⟩
theorem aJw{v:Value}:bh C mb 37 v w=(dw C C.p.ev v w):=by simp[bh]
theorem s37(hC:mI C)(h:dP C mb listed a w)(cC:Shuts .any av listed)(hs:listed.size=av.size)(hl:listed.getD 37 true=false)(hd:∀j,eV .any av 37 j=true→listed.getD j false=true):wpOp pG av Q 37 (lI C listed 37) a w:=by
 obtain⟨o,ho,hg,cw,hop⟩:=o37;have e48:=h.val (34,48) dz (hd 34 kz);rw[aJc]at e48;have e50:=h.val (36,50) dz (hd 36 kz);rw[aJo]at e50;refine oP ho hg cw dz h cC hl (jr (enters_of Tryz.func163 kz rfl) hop e48 e50) ((ng C.p.ev w).mono ?_);rintro e w' ⟨rfl,rfl⟩;exact⟨_,rfl,bN,by rw[aJw];exact⟨_,rfl,(ah.new w _ _).cell 0⟩⟩
theorem o42:∃o,av[42]?=some o∧o.guard=none∧o.dst=some 55∧o.op= .call {callee:= .value (.tmp 52),args:= #[.tmp 54],argTypes:= #[3]}:=⟨_,rfl,rfl,rfl,rfl⟩
theorem aJx{v:Value}:bh C mb 42 v w=(dw C C.p.bo v w):=by simp[bh]
theorem s42(hC:mI C)(h:dP C mb listed a w)(cC:Shuts .any av listed)(hs:listed.size=av.size)(hl:listed.getD 42 true=false)(hd:∀j,eV .any av 42 j=true→listed.getD j false=true):wpOp pG av Q 42 (lI C listed 42) a w:=by
 obtain⟨o,ho,hg,cw,hop⟩:=o42;have e52:=h.val (39,52) dz (hd 39 kz);rw[aJd]at e52;have e54:=h.val (41,54) dz (hd 41 kz);rw[aJp]at e54;refine oP ho hg cw dz h cC hl (jr (enters_of Tryz.func163 kz rfl) hop e52 e54) ((ng C.p.bo w).mono ?_);rintro e w' ⟨rfl,rfl⟩;exact⟨_,rfl,bN,by rw[aJx];exact⟨_,rfl,(ah.new w _ _).cell 0⟩⟩
theorem o46:∃o,av[46]?=some o∧o.guard=none∧o.dst=some 58∧o.op= .call {callee:= .value (.tmp 56),args:= #[.tmp 57],argTypes:= #[3]}:=⟨_,rfl,rfl,rfl,rfl⟩
theorem aJy{v:Value}:bh C mb 46 v w=(dw C C.n v w):=by simp[bh]
theorem s46(hC:mI C)(h:dP C mb listed a w)(cC:Shuts .any av listed)(hs:listed.size=av.size)(hl:listed.getD 46 true=false)(hd:∀j,eV .any av 46 j=true→listed.getD j false=true):wpOp pG av Q 46 (lI C listed 46) a w:=by
 obtain⟨o,ho,hg,cw,hop⟩:=o46;have e56:=h.val (44,56) dz (hd 44 kz);rw[aJe]at e56;have e57:=h.val (45,57) dz (hd 45 kz);rw[aJh]at e57;refine oP ho hg cw dz h cC hl (jr (enters_of Tryz.func163 kz rfl) hop e56 e57) ((ng C.n w).mono ?_);rintro e w' ⟨rfl,rfl⟩;exact⟨_,rfl,bN,by rw[aJy];exact⟨_,rfl,(ah.new w _ _).cell 0⟩⟩
theorem o17:∃o,av[17]?=some o∧o.guard=none∧o.dst=some 35∧o.op= .call {callee:= .value (.tmp 34),args:= #[.const (.bool true)],argTypes:= #[4]}:=⟨_,rfl,rfl,rfl,rfl⟩
theorem aJz{v:Value}:bh C mb 17 v w=(mH C true v w):=by simp[bh]
theorem s17(hC:mI C)(h:dP C mb listed a w)(cC:Shuts .any av listed)(hs:listed.size=av.size)(hl:listed.getD 17 true=false)(hd:∀j,eV .any av 17 j=true→listed.getD j false=true):wpOp pG av Q 17 (lI C listed 17) a w:=by
 obtain⟨o,ho,hg,cw,hop⟩:=o17;have e34:=h.val (16,34) dz (hd 16 kz);rw[aJf]at e34;refine oP ho hg cw dz h cC hl (jr (enters_of Tryz.func161 kz rfl) hop e34 rfl) ((Sd true C.g3 w).mono ?_);rintro e w' ⟨rfl,rfl⟩;exact⟨_,rfl,bN,by rw[aJz];exact⟨_,rfl,(ah.new w _ _).cell 0⟩⟩
theorem o20:∃o,av[20]?=some o∧o.guard=none∧o.dst=some 37∧o.op= .call {callee:= .value (.tmp 36),args:= #[.const (.bool false)],argTypes:= #[4]}:=⟨_,rfl,rfl,rfl,rfl⟩
theorem aJ0{v:Value}:bh C mb 20 v w=(mH C false v w):=by simp[bh]
theorem s20(hC:mI C)(h:dP C mb listed a w)(cC:Shuts .any av listed)(hs:listed.size=av.size)(hl:listed.getD 20 true=false)(hd:∀j,eV .any av 20 j=true→listed.getD j false=true):wpOp pG av Q 20 (lI C listed 20) a w:=by
 obtain⟨o,ho,hg,cw,hop⟩:=o20;have e36:=h.val (19,36) dz (hd 19 kz);rw[aJg]at e36;refine oP ho hg cw dz h cC hl (jr (enters_of Tryz.func161 kz rfl) hop e36 rfl) ((Sd false C.g3 w).mono ?_);rintro e w' ⟨rfl,rfl⟩;exact⟨_,rfl,bN,by rw[aJ0];exact⟨_,rfl,(ah.new w _ _).cell 0⟩⟩
theorem o1:∃o,av[1]?=some o∧o.guard=none∧o.dst=none∧o.op= .insert 214 (.tmp 24) (.const (.int .i32 119)) (.func 165):=⟨_,rfl,rfl,rfl,rfl⟩
theorem s1(hC:mI C)(h:dP C mb listed a w)(cC:Shuts .any av listed)(hs:listed.size=av.size)(hl:listed.getD 1 true=false)(hd:∀j,eV .any av 1 j=true→listed.getD j false=true):wpOp pG av Q 1 (lI C listed 1) a w:=by
 obtain⟨o,ho,hg,cw,hop⟩:=o1;exact lJ (q:=⟨1,119,0,0⟩) (by simp[iz]) ho hg cw hop rfl h cC hl (hd 0 kz)
theorem o3:∃o,av[3]?=some o∧o.guard=none∧o.dst=none∧o.op= .insert 214 (.tmp 24) (.const (.int .i32 108)) (.tmp 25):=⟨_,rfl,rfl,rfl,rfl⟩
theorem s3(hC:mI C)(h:dP C mb listed a w)(cC:Shuts .any av listed)(hs:listed.size=av.size)(hl:listed.getD 3 true=false)(hd:∀j,eV .any av 3 j=true→listed.getD j false=true):wpOp pG av Q 3 (lI C listed 3) a w:=by
 obtain⟨o,ho,hg,cw,hop⟩:=o3;exact lJ (q:=⟨3,108,25,2⟩) (by simp[iz]) ho hg cw hop rfl h cC hl (hd 0 kz)
theorem o6:∃o,av[6]?=some o∧o.guard=none∧o.dst=none∧o.op= .insert 214 (.tmp 24) (.const (.int .i32 114)) (.tmp 27):=⟨_,rfl,rfl,rfl,rfl⟩
theorem s6(hC:mI C)(h:dP C mb listed a w)(cC:Shuts .any av listed)(hs:listed.size=av.size)(hl:listed.getD 6 true=false)(hd:∀j,eV .any av 6 j=true→listed.getD j false=true):wpOp pG av Q 6 (lI C listed 6) a w:=by
 obtain⟨o,ho,hg,cw,hop⟩:=o6;exact lJ (q:=⟨6,114,27,5⟩) (by simp[iz]) ho hg cw hop rfl h cC hl (hd 0 kz)
theorem o9:∃o,av[9]?=some o∧o.guard=none∧o.dst=none∧o.op= .insert 214 (.tmp 24) (.const (.int .i32 118)) (.tmp 29):=⟨_,rfl,rfl,rfl,rfl⟩
theorem s9(hC:mI C)(h:dP C mb listed a w)(cC:Shuts .any av listed)(hs:listed.size=av.size)(hl:listed.getD 9 true=false)(hd:∀j,eV .any av 9 j=true→listed.getD j false=true):wpOp pG av Q 9 (lI C listed 9) a w:=by
 obtain⟨o,ho,hg,cw,hop⟩:=o9;exact lJ (q:=⟨9,118,29,8⟩) (by simp[iz]) ho hg cw hop rfl h cC hl (hd 0 kz)
theorem o12:∃o,av[12]?=some o∧o.guard=none∧o.dst=none∧o.op= .insert 214 (.tmp 24) (.const (.int .i32 99)) (.tmp 31):=⟨_,rfl,rfl,rfl,rfl⟩
theorem s12(hC:mI C)(h:dP C mb listed a w)(cC:Shuts .any av listed)(hs:listed.size=av.size)(hl:listed.getD 12 true=false)(hd:∀j,eV .any av 12 j=true→listed.getD j false=true):wpOp pG av Q 12 (lI C listed 12) a w:=by
 obtain⟨o,ho,hg,cw,hop⟩:=o12;exact lJ (q:=⟨12,99,31,11⟩) (by simp[iz]) ho hg cw hop rfl h cC hl (hd 0 kz)
theorem o15:∃o,av[15]?=some o∧o.guard=none∧o.dst=none∧o.op= .insert 214 (.tmp 24) (.const (.int .i32 97)) (.tmp 33):=⟨_,rfl,rfl,rfl,rfl⟩
theorem s15(hC:mI C)(h:dP C mb listed a w)(cC:Shuts .any av listed)(hs:listed.size=av.size)(hl:listed.getD 15 true=false)(hd:∀j,eV .any av 15 j=true→listed.getD j false=true):wpOp pG av Q 15 (lI C listed 15) a w:=by
 obtain⟨o,ho,hg,cw,hop⟩:=o15;exact lJ (q:=⟨15,97,33,14⟩) (by simp[iz]) ho hg cw hop rfl h cC hl (hd 0 kz)
theorem o18:∃o,av[18]?=some o∧o.guard=none∧o.dst=none∧o.op= .insert 214 (.tmp 24) (.const (.int .i32 111)) (.tmp 35):=⟨_,rfl,rfl,rfl,rfl⟩
theorem s18(hC:mI C)(h:dP C mb listed a w)(cC:Shuts .any av listed)(hs:listed.size=av.size)(hl:listed.getD 18 true=false)(hd:∀j,eV .any av 18 j=true→listed.getD j false=true):wpOp pG av Q 18 (lI C listed 18) a w:=by
 obtain⟨o,ho,hg,cw,hop⟩:=o18;exact lJ (q:=⟨18,111,35,17⟩) (by simp[iz]) ho hg cw hop rfl h cC hl (hd 0 kz)
theorem o21:∃o,av[21]?=some o∧o.guard=none∧o.dst=none∧o.op= .insert 214 (.tmp 24) (.const (.int .i32 105)) (.tmp 37):=⟨_,rfl,rfl,rfl,rfl⟩
theorem s21(hC:mI C)(h:dP C mb listed a w)(cC:Shuts .any av listed)(hs:listed.size=av.size)(hl:listed.getD 21 true=false)(hd:∀j,eV .any av 21 j=true→listed.getD j false=true):wpOp pG av Q 21 (lI C listed 21) a w:=by
 obtain⟨o,ho,hg,cw,hop⟩:=o21;exact lJ (q:=⟨21,105,37,20⟩) (by simp[iz]) ho hg cw hop rfl h cC hl (hd 0 kz)
theorem o27:∃o,av[27]?=some o∧o.guard=none∧o.dst=none∧o.op= .insert 214 (.tmp 24) (.const (.int .i32 115)) (.tmp 42):=⟨_,rfl,rfl,rfl,rfl⟩
theorem s27(hC:mI C)(h:dP C mb listed a w)(cC:Shuts .any av listed)(hs:listed.size=av.size)(hl:listed.getD 27 true=false)(hd:∀j,eV .any av 27 j=true→listed.getD j false=true):wpOp pG av Q 27 (lI C listed 27) a w:=by
 obtain⟨o,ho,hg,cw,hop⟩:=o27;exact lJ (q:=⟨27,115,42,26⟩) (by simp[iz]) ho hg cw hop rfl h cC hl (hd 0 kz)
theorem o33:∃o,av[33]?=some o∧o.guard=none∧o.dst=none∧o.op= .insert 214 (.tmp 24) (.const (.int .i32 98)) (.tmp 47):=⟨_,rfl,rfl,rfl,rfl⟩
theorem s33(hC:mI C)(h:dP C mb listed a w)(cC:Shuts .any av listed)(hs:listed.size=av.size)(hl:listed.getD 33 true=false)(hd:∀j,eV .any av 33 j=true→listed.getD j false=true):wpOp pG av Q 33 (lI C listed 33) a w:=by
 obtain⟨o,ho,hg,cw,hop⟩:=o33;exact lJ (q:=⟨33,98,47,32⟩) (by simp[iz]) ho hg cw hop rfl h cC hl (hd 0 kz)
theorem o38:∃o,av[38]?=some o∧o.guard=none∧o.dst=none∧o.op= .insert 214 (.tmp 24) (.const (.int .i32 101)) (.tmp 51):=⟨_,rfl,rfl,rfl,rfl⟩
theorem s38(hC:mI C)(h:dP C mb listed a w)(cC:Shuts .any av listed)(hs:listed.size=av.size)(hl:listed.getD 38 true=false)(hd:∀j,eV .any av 38 j=true→listed.getD j false=true):wpOp pG av Q 38 (lI C listed 38) a w:=by
 obtain⟨o,ho,hg,cw,hop⟩:=o38;exact lJ (q:=⟨38,101,51,37⟩) (by simp[iz]) ho hg cw hop rfl h cC hl (hd 0 kz)
theorem o43:∃o,av[43]?=some o∧o.guard=none∧o.dst=none∧o.op= .insert 214 (.tmp 24) (.const (.int .i32 100)) (.tmp 55):=⟨_,rfl,rfl,rfl,rfl⟩
theorem s43(hC:mI C)(h:dP C mb listed a w)(cC:Shuts .any av listed)(hs:listed.size=av.size)(hl:listed.getD 43 true=false)(hd:∀j,eV .any av 43 j=true→listed.getD j false=true):wpOp pG av Q 43 (lI C listed 43) a w:=by
 obtain⟨o,ho,hg,cw,hop⟩:=o43;exact lJ (q:=⟨43,100,55,42⟩) (by simp[iz]) ho hg cw hop rfl h cC hl (hd 0 kz)
theorem o47:∃o,av[47]?=some o∧o.guard=none∧o.dst=none∧o.op= .insert 214 (.tmp 24) (.const (.int .i32 106)) (.tmp 58):=⟨_,rfl,rfl,rfl,rfl⟩
theorem s47(hC:mI C)(h:dP C mb listed a w)(cC:Shuts .any av listed)(hs:listed.size=av.size)(hl:listed.getD 47 true=false)(hd:∀j,eV .any av 47 j=true→listed.getD j false=true):wpOp pG av Q 47 (lI C listed 47) a w:=by
 obtain⟨o,ho,hg,cw,hop⟩:=o47;exact lJ (q:=⟨47,106,58,46⟩) (by simp[iz]) ho hg cw hop rfl h cC hl (hd 0 kz)
theorem o48:∃o,av[48]?=some o∧o.guard=none∧o.dst=some 59∧o.op= .move (.tmp 24):=⟨_,rfl,rfl,rfl,rfl⟩
theorem aFZ{v:Value}:bh C mb 48 v w=(v= .map (some mb)):=by simp[bh]
theorem s48(hC:mI C)(h:dP C mb listed a w)(cC:Shuts .any av listed)(hs:listed.size=av.size)(hl:listed.getD 48 true=false)(hd:∀j,eV .any av 48 j=true→listed.getD j false=true):wpOp pG av Q 48 (lI C listed 48) a w:=by
 obtain⟨o,ho,hg,cw,hop⟩:=o48;obtain⟨k,D,e1,_⟩:=h.map (hd 0 kz);exact fQ ho hg cw dz h cC hl (run_move hop e1) (by rw[aFZ])
theorem o49:∃o,av[49]?=some o∧o.guard=none∧o.dst=some 11∧o.op= .assign (.tmp 59):=⟨_,rfl,rfl,rfl,rfl⟩
theorem aJ1{v:Value}:bh C mb 49 v w=(v= .map (some mb)):=by simp[bh]
theorem s49(hC:mI C)(h:dP C mb listed a w)(cC:Shuts .any av listed)(hs:listed.size=av.size)(hl:listed.getD 49 true=false)(hd:∀j,eV .any av 49 j=true→listed.getD j false=true):wpOp pG av Q 49 (lI C listed 49) a w:=by
 obtain⟨o,ho,hg,cw,hop⟩:=o49;have e59:=h.val (48,59) dz (hd 48 kz);rw[aFZ]at e59;exact fQ ho hg cw dz h cC hl (run_assign hop e59) (by rw[aJ1])
theorem UA(hC:mI C)(h0:dP C mb (Array.replicate 50 false) a w)(hQ:∀mb a' w',dP C mb (Array.replicate 50 true) a' w'→Q .normal a' w'):
 wpAny pG .any av Q 50 (Array.replicate 50 false) a w:=by
 refine J6 kz (fun listed a w=>listed.size=50∧∃mb,dP C mb listed a w) ?_ ?_ 50 _ a w (by rw[SA];rfl) dz (fun i j _ hi=>absurd hi (by
  have:((Array.replicate 50 false).getD i false)=false:=by
   rcases Nat.lt_or_ge i 50 with h' | h'
   ·simp[Array.getD,h']
   ·simp[Array.getD,h']
  rw[this];decide)) ⟨rfl,mb,h0⟩
 ·rintro listed a w i o ⟨hz,mb,h⟩ cC hs ho hl aJ
  have hi:i<50:=by have:=(gE ho).1;rw[SA]at this;exact this
  have hd:∀j,eV .any av i j=true→listed.getD j false=true:=fun j hj=>by
   obtain⟨e,he,hb,rfl⟩:=MP ho hj;exact aJ e he hb
  refine wpOp_mono (K:=lI C listed i) (fun a' w' hx=>⟨by simpa using hz,hx⟩) ?_;clear ho aJ;rcases(by omega:i=0∨i=1∨i=2∨i=3∨i=4∨i=5∨i=6∨i=7∨i=8∨i=9∨i=10∨i=11∨i=12∨i=13∨i=14∨i=15∨i=16∨i=17∨i=18∨i=19∨i=20∨i=21∨i=22∨i=23∨i=24∨i=25∨i=26∨i=27∨i=28∨i=29∨i=30∨i=31∨i=32∨i=33∨i=34∨i=35∨i=36∨i=37∨i=38∨i=39∨i=40∨i=41∨i=42∨i=43∨i=44∨i=45∨i=46∨i=47∨i=48∨i=49)with rfl | rfl | rfl | rfl | rfl | rfl | rfl | rfl | rfl | rfl | rfl | rfl | rfl | rfl | rfl | rfl | rfl | rfl | rfl | rfl | rfl | rfl | rfl | rfl | rfl | rfl | rfl | rfl | rfl | rfl | rfl | rfl | rfl | rfl | rfl | rfl | rfl | rfl | rfl | rfl | rfl | rfl | rfl | rfl | rfl | rfl | rfl | rfl | rfl | rfl
  ·exact s0 hC h cC hs hl hd
  ·exact s1 hC h cC hs hl hd
  ·exact s2 hC h cC hs hl hd
  ·exact s3 hC h cC hs hl hd
  ·exact s4 hC h cC hs hl hd
  ·exact s5 hC h cC hs hl hd
  ·exact s6 hC h cC hs hl hd
  ·exact s7 hC h cC hs hl hd
  ·exact s8 hC h cC hs hl hd
  ·exact s9 hC h cC hs hl hd
  ·exact s10 hC h cC hs hl hd
  ·exact s11 hC h cC hs hl hd
  ·exact s12 hC h cC hs hl hd
  ·exact s13 hC h cC hs hl hd
  ·exact s14 hC h cC hs hl hd
  ·exact s15 hC h cC hs hl hd
  ·exact s16 hC h cC hs hl hd
  ·exact s17 hC h cC hs hl hd
  ·exact s18 hC h cC hs hl hd
  ·exact s19 hC h cC hs hl hd
  ·exact s20 hC h cC hs hl hd
  ·exact s21 hC h cC hs hl hd
  ·exact s22 hC h cC hs hl hd
  ·exact s23 hC h cC hs hl hd
  ·exact s24 hC h cC hs hl hd
  ·exact s25 hC h cC hs hl hd
  ·exact s26 hC h cC hs hl hd
  ·exact s27 hC h cC hs hl hd
  ·exact s28 hC h cC hs hl hd
  ·exact s29 hC h cC hs hl hd
  ·exact s30 hC h cC hs hl hd
  ·exact s31 hC h cC hs hl hd
  ·exact s32 hC h cC hs hl hd
  ·exact s33 hC h cC hs hl hd
  ·exact s34 hC h cC hs hl hd
  ·exact s35 hC h cC hs hl hd
  ·exact s36 hC h cC hs hl hd
  ·exact s37 hC h cC hs hl hd
  ·exact s38 hC h cC hs hl hd
  ·exact s39 hC h cC hs hl hd
  ·exact s40 hC h cC hs hl hd
  ·exact s41 hC h cC hs hl hd
  ·exact s42 hC h cC hs hl hd
  ·exact s43 hC h cC hs hl hd
  ·exact s44 hC h cC hs hl hd
  ·exact s45 hC h cC hs hl hd
  ·exact s46 hC h cC hs hl hd
  ·exact s47 hC h cC hs hl hd
  ·exact s48 hC h cC hs hl hd
  ·exact s49 hC h cC hs hl hd
 ·rintro listed a w ⟨hz,mb,h⟩ aJ
  have e:listed=Array.replicate 50 true:=by
   refine Array.ext (by simp[hz]) fun i h1 h2=> ?_
   have:=aJ i (by rw[SA];omega);simpa [h1]using this
  exact hQ mb a w (e▸h)
end
def jt(v:Int):Prop:= -9223372036854775808≤v∧v≤9223372036854775807
theorem aFa(v:Int)(h:jt v)(w:World)(hL:ct w):Calls pG 281 #[.int .i64 v] w fun e w'=>∃s:ByteArray,e= .returned (.string s)∧s.size≤21∧Below w.heap.size w w':=by
 refine(Any.strconv_Itoa Tryz.NQ v h.1 h.2 w hL.tab).mono ?_;rintro e w2 ⟨rfl,k,os,rfl⟩;refine⟨_,rfl,?_,Go.Lib.below_grow _ _ nL _ _⟩;have:=Lib.itoa_length_le v h.1 h.2;simpa [ByteArray.size]using this
def aJ2:List Nat:=(List.range 26).map fun(n:Nat)=>(xP (n:Int)).size
theorem XY:(aJ2.all fun k=>decide (k≤24))=true:=by kernel_rfl
theorem XZ{n:Int}(h:n<1∨n>25):xP n=⟨#[]⟩:=by
 unfold xP nY F6;rw[Nb,if_pos (show n<1∨n>((25:Nat):Int)from h)];rfl
theorem UC(n:Int):(xP n).size≤24:=by
 by_cases h:n<1∨n>25
 ·rw[XZ h];decide
 ·have hn:n.toNat<26:=by omega
  have h1:=List.all_eq_true.1 XY (xP n.toNat).size (List.mem_map.2 ⟨n.toNat,List.mem_range.2 hn,rfl⟩);rw[Int.toNat_of_nonneg oz]at h1;exact of_decide_eq_true h1
theorem aFb(x:gu)(w:World)(hL:ct w)(h0:0≤x.op∧x.op≤255)(ha:jt x.a)(hb:jt x.b)(hd:jt x.d):
 Calls pG 237 #[x.val] w fun e w'=>∃s:ByteArray,e= .returned (.string s)∧s.size≤100∧Below w.heap.size w w':=by
 have hk:=qE x.op;have hwz:=UC x.op;have TW:∀W,Below w.heap.size w W→CU 277 #[.int .u8 x.op] W (.string (xP x.op)):=fun W hW=>vC x.op W (hL.below hW) h0.1 h0.2
 have hop:∀W,Below w.heap.size w W→Calls pG 278 #[.agg #[.int .u8 x.op,.int .i64 x.a,.int .i64 x.b,.int .i64 x.d]] W (R6 x W):=fun W hW=>vH x W (hL.below hW) h0
 have hit:∀W,Below w.heap.size w W→∀k:Nat,(hk:k<3)→Calls pG 281 #[.int .i64 ([x.a,x.b,x.d][k])] W fun e w'=>∃s:ByteArray,e= .returned (.string s)∧s.size≤21∧Below W.heap.size W w':=fun W hW k hk=>aFa _ (by
  have:k=0∨k=1∨k=2:=by omega
  rcases this with rfl | rfl | rfl<;>assumption) W (hL.below hW)
 obtain⟨y0,bR⟩:=ez (w.alloc (.cells #[.int .u8 x.op,.int .i64 x.a,.int .i64 x.b,.int .i64 x.d] 169));have bW:Below w.heap.size w y0:=by rw[bR];exact bN
 have bS:ah y0 w.heap.size 169 #[.int .u8 x.op,.int .i64 x.a,.int .i64 x.b,.int .i64 x.d]:=by rw[bR];exact ah.new w _ _
 have k0:=bR▸bS.cell 0;have hf:∀W,Below y0.heap.size y0 W→ah W w.heap.size 169 #[.int .u8 x.op,.int .i64 x.a,.int .i64 x.b,.int .i64 x.d]:=fun W hW=>bS.below hW bS.lt
 have Hf:=lz hf;have aV:=lz bW;have dV:=lz bR;have Hwd:=lz TW;have P8:=lz hop;have Hit:=lz hit;have HZ:=lz (show y0.heap.size=w.heap.size+1 by rw[bR];simp);clear bW bS bR hf TW hop hit hL h0 ha hb hd;go_enter Tryz.func237,Tryz.ntmps237;go_wp2_with fail;rw[←dV.out];refine(Hwd.out y0 aV.out).mono ?_;rintro e y1 ⟨rfl,aU⟩;have cU:=lz (aV.out.trans (aU.mono aV.out.size));have DH:=Hf.out y1 aU;have c0:=DH.cell 0;have c1:=DH.cell 1;have c2:=DH.cell 2;have c3:=DH.cell 3;clear aU DH k0;generalize xP x.op=sw at *;go_wp2_with fail;refine(P8.out y1 cU.out).mono ?_;rintro e y2 ⟨B,rfl,dI,hlt,d0,d1,d2⟩;have eF:=lz (cU.out.trans (dI.mono cU.out.size));clear dI c0 c1 c2 c3;generalize (mX x.op).size=m at *;go_wp2;go_loopw [3,5,12] (fun s _ i wr=>∃k:Nat,∃b:ByteArray,s= .string b∧b.size≤24+22*k∧k≤m∧i= .int .i64 k∧Hid (Below w.heap.size w wr)∧Hid (Below y2.heap.size y2 wr)) (fun _ _ i _=>m-(intOf i).toNat)
 case atStart=>exact⟨0,sw,rfl,oz,nZ,rfl,eF,lz (Below.refl _ _)⟩
 case round=>
  obtain⟨k,b,rfl,hbz,hkm,rfl,HW,HY⟩:=hrel;by_cases sF:k<m
  ·have zn:k<3:=by omega
   have hcell:wr.cell? ⟨B,k,none⟩=some (.int .i64 ([x.a,x.b,x.d][k])):=by
    have hh:y2.cell? ⟨B,k,none⟩=some (.int .i64 ([x.a,x.b,x.d][k])):=by
     have:k=0∨k=1∨k=2:=by omega
     rcases this with rfl | rfl | rfl<;>assumption
    exact(HY.out.cell (p:=⟨B,k,none⟩) hlt).trans hh
   have au:=Hit.out wr HW.out k zn;generalize [x.a,x.b,x.d][k]=v at hcell au;have aN:=lz au;clear au;go_wp2_with fail;refine aN.out.mono ?_;rintro e w3 ⟨s,rfl,hs,kq⟩;have yY:=lz (HW.out.trans (kq.mono HW.out.size));have pz:=lz (HY.out.trans (kq.mono HY.out.size));clear kq aN;go_wp2;go_roundw
   case rel=>
    have z32:(ByteArray.mk #[32]).size=1:=rfl;exact⟨k+1,_,rfl,by simp[ByteArray.size_append];omega,oz,by go_num,yY,pz⟩
   case measure=>simp[intOf];omega
  ·go_wp2_with fail
   go_ret;have z59:(ByteArray.mk #[59]).size=1:=rfl;exact⟨_,rfl,by simp[ByteArray.size_append];omega,HW.out⟩
theorem aB4(s sep:ByteArray)(b o c:Nat)(w:World)(h:w.cell? ⟨b,o,none⟩=some (.string s)):CU 239 #[.slice (some ⟨b,o,none⟩) 1 c,.string sep] w (.string s):=by
 go_enter Tryz.func239,Tryz.ntmps239;go_wp2;go_ret;exact⟨rfl,Below.refl _ _⟩
theorem aB5(s:ByteArray)(w:World)(hs:s.size≤65536):CU 238 #[.string s] w (.tuple #[.string s,.int .i64 0]):=by
 have hz:decide (65536<s.size)=false:=dF oz;have hz2:decide ((65536:Int)<(s.size:Int))=false:=dF oz;go_enter Tryz.func238,Tryz.ntmps238;go_wp2_with fail;go_ret2;exact⟨rfl,Below.refl _ _⟩
theorem aB6(x:gu)(w:World)(hL:ct w)(h0:0≤x.op∧x.op≤255)(ha:jt x.a)(hb:jt x.b)(hd:jt x.d):
 Calls pG 160 #[.slice (some ⟨w.heap.size,0,none⟩) 1 1] (w.alloc (.cells #[.int .u8 x.op,.int .i64 x.a,.int .i64 x.b,.int .i64 x.d] 169)) fun e w'=>
  (∃(s:ByteArray) (z:Int),e= .returned (.tuple #[.string s,.int .i64 z])∧((z !=0)= !rB x))∧Below w.heap.size w w':=by
 obtain⟨y0,bR⟩:=ez (w.alloc (.cells #[.int .u8 x.op,.int .i64 x.a,.int .i64 x.b,.int .i64 x.d] 169));have bW:Below w.heap.size w y0:=by rw[bR];exact bN
 have bS:ah y0 w.heap.size 169 #[.int .u8 x.op,.int .i64 x.a,.int .i64 x.b,.int .i64 x.d]:=by rw[bR];exact ah.new w _ _
 rw[←bR];have fK:ku y0 y0.heap.size (some ⟨w.heap.size,0,none⟩) [x]:=fun _=>⟨w.heap.size,0,rfl,bS.lt,fun i hi=>by
  have:i=0:=by simp at hi;omega
  subst this;exact⟨bS.cell 0,bS.cell 1,bS.cell 2,bS.cell 3,⟨h0⟩⟩⟩
 have hc:=Ni 236 #[] rB (enters_of Tryz.func236 kz rfl) [x] (some ⟨w.heap.size,0,none⟩) 1 y0 (fun W r hx hW fK=>by simpa using aDS r W ((hL.below bW).below hW) fK.op0) fK qz;rw[show[x].all rB=rB x by simp]at hc;have Jf:∀W,Below w.heap.size w W→Calls pG 237 #[.agg #[.int .u8 x.op,.int .i64 x.a,.int .i64 x.b,.int .i64 x.d]] W fun e w'=>∃s:ByteArray,e= .returned (.string s)∧s.size≤100∧Below W.heap.size W w':=fun W hW=>aFb x W (hL.below hW) h0 ha hb hd
 have Hc:=lz hc;have X7:=lz Jf;have aV:=lz bW;have sA:=lz bS;have HN0:=lz (show w.heap.size<y0.heap.size from bS.lt);clear hc Jf bW bS fK bR hL h0 ha hb hd;go_enter Tryz.func160,Tryz.ntmps160;go_wp2_with fail;refine Hc.out.mono ?_;rintro e y1 ⟨rfl,aU⟩;have cU:=lz (aV.out.trans (aU.mono aV.out.size));have gh:=lz (sA.out.below aU HN0.out);clear aU
 cases hq:rB x with
 | false=>
  go_wp2_with fail;go_ret2;exact⟨⟨_,_,rfl,by rw[hq];rfl⟩,cU.out⟩
 | true=>
  go_wp2;go_loopw [4,6,12] (fun s _ i wr=>Hid (Below w.heap.size w wr)∧Hid (ah wr w.heap.size 169 #[.int .u8 x.op,.int .i64 x.a,.int .i64 x.b,.int .i64 x.d])∧((i= .int .i64 0∧s= .slice none 0 0)∨(i= .int .i64 1∧∃(t:ByteArray) (b c:Nat),t.size≤100∧s= .slice (some ⟨b,0,none⟩) 1 c∧wr.cell? ⟨b,0,none⟩=some (.string t)))) (fun _ _ i _=>1-(intOf i).toNat)
  case atStart=>exact⟨cU,gh,.inl ⟨rfl,rfl⟩⟩
  case round=>
   obtain⟨HW,HBk,⟨rfl,rfl⟩ | ⟨rfl,t,b,c,ht,rfl,hcell⟩⟩:=hrel
   ·have c0:=HBk.out.cell 0
    have c1:=HBk.out.cell 1;have c2:=HBk.out.cell 2;have c3:=HBk.out.cell 3;go_wp2_with fail;have HX:=lz (X7.out (wr.alloc (.cells #[.int .u8 x.op,.int .i64 x.a,.int .i64 x.b,.int .i64 x.d] 169)) (HW.out.alloc HW.out.size _));have HWa:=lz (HW.out.alloc HW.out.size (.cells #[.int .u8 x.op,.int .i64 x.a,.int .i64 x.b,.int .i64 x.d] 169));have HBa:=lz (HBk.out.below ((Below.refl _ wr).alloc nL (.cells #[.int .u8 x.op,.int .i64 x.a,.int .i64 x.b,.int .i64 x.d] 169)) HBk.out.lt);clear c0 c1 c2 c3;refine HX.out.mono ?_;rintro e w3 ⟨t,rfl,ht,kq⟩;have yY:=lz (HWa.out.trans (kq.mono HWa.out.size));have mP:=lz (HBa.out.below kq HBa.out.lt);clear kq HX;go_wp2_with fail;have HWb:=lz ((yY.out.alloc yY.out.size (.cells #[.string t] 9)));have HBb:=lz (mP.out.below ((Below.refl _ w3).alloc nL (.cells #[.string t] 9)) mP.out.lt);have HZ4:=lz (show(w3.alloc (.cells #[.string t] 9)).heap.size=w3.heap.size+1 by simp);generalize (w3.alloc (.cells #[.string t] 9))=w4 at *;generalize Builtin.zeroCells #[Value.string {data:= #[]}] _=zs at *;have Hzb:=lz ((ah.new w4 9 (#[Value.string t]++zs)));have Hc0:=lz (show(#[Value.string t]++zs)[0]?=some (.string t)by rw[Array.getElem?_append_left (show 0<(#[Value.string t]:Array Value).size from Nat.one_pos)];rfl);generalize Mp:(#[Value.string t]++zs)=cs at *;have HWc:=lz ((HWb.out.alloc HWb.out.size (.cells cs 9)).drew);have HBc:=lz (HBb.out.below ((Below.refl _ w4).alloc nL (.cells cs 9)).drew HBb.out.lt);go_roundw
    case rel=>
     refine⟨HWc,HBc,.inr ⟨by go_num,t,_,_,ht,rfl,?_⟩⟩;rw[←HZ4.out];exact(Hzb.out.cell 0).trans Hc0.out
    case measure=>simp[intOf]
   ·go_wp2_with fail
    refine(aB4 t ⟨#[32]⟩ b 0 c wr hcell).mono ?_;rintro e w3 ⟨rfl,kq⟩;have yY:=lz (HW.out.trans (kq.mono HW.out.size));clear kq hcell;go_wp2_with fail;refine(aB5 t w3 oz).mono ?_;rintro e w4 ⟨rfl,mF⟩;have Qp:=lz (yY.out.trans (mF.mono yY.out.size));clear mF;go_wp2_with fail;go_ret2;exact⟨⟨_,_,rfl,by rw[hq];rfl⟩,Qp.out⟩
theorem Ei(n i:Nat):(Array.replicate n false).getD i false=false:=by
 rcases Nat.lt_or_ge i n with h' | h'
 ·simp[Array.getD,h']
 ·simp[Array.getD,h']
theorem cg{n i:Nat}(h:i<n):(Array.replicate n true).getD i false=true:=by simp[Array.getD,h]
theorem dP.first(C:Ctx)(mb:Nat)(hd:C.a0.defers= [])(hz:C.a0.tmps.size=83)(w:World)(hb:Below C.w0.heap.size C.w0 w):dP C mb (Array.replicate 50 false) C.a0 w:=
 ⟨hd,hz,fun _ _ _=>rfl,hb,fun q _ h=>(by rw[Ei]at h;cases h),fun h=>(by rw[Ei]at h;cases h)⟩
theorem aFd(xs:Array Value)(n:Nat)(h:xs.size=n):xs=((List.range n).map (fun j=>xs.getD j undef)).toArray:=by
 refine Array.ext (by simp[h]) fun i h1 h2=> ?_
 simp[h1]
structure aJ3(C:Ctx)(w:World)(mb:Nat)(D:DataW Value):Prop where
 fw:D.atKey (kI 119) ni= .held (Uz 165)
 fl:∃v,D.atKey (kI 108) ni= .held v∧(v= .func (.func 166) #[] #[pt C.g5 0,pt C.g3 0])
 fr:∃v,D.atKey (kI 114) ni= .held v∧(dw C 4 v w)
 fv:∃v,D.atKey (kI 118) ni= .held v∧(dw C 256 v w)
 fc:∃v,D.atKey (kI 99) ni= .held v∧(dw C 256 v w)
 fa:∃v,D.atKey (kI 97) ni= .held v∧(dw C 4096 v w)
 fo:∃v,D.atKey (kI 111) ni= .held v∧(mH C true v w)
 fi:∃v,D.atKey (kI 105) ni= .held v∧(mH C false v w)
 fs:∃v,D.atKey (kI 115) ni= .held v∧(dw C (C.p.aG.l.length:Int) v w)
 fb:∃v,D.atKey (kI 98) ni= .held v∧(dw C (C.p.aX.l.length:Int) v w)
 fe:∃v,D.atKey (kI 101) ni= .held v∧(dw C C.p.ev v w)
 fd:∃v,D.atKey (kI 100) ni= .held v∧(dw C C.p.bo v w)
 fj:∃v,D.atKey (kI 106) ni= .held v∧(dw C C.n v w)
theorem aFe{C:Ctx}{mb:Nat}{tm:Array Value}{df:List Deferred}{w:World}(h:dP C mb (Array.replicate 50 true) ⟨tm,df⟩ w):
 ∃t25 t26 t27 t28 t29 t30 t31 t32 t33 t34 t35 t36 t37 t38 t39 t40 t41 t42 t43 t44 t45 t46 t47 t48 t49 t50 t51 t52 t53 t54 t55 t56 t57 t58:Value,df= []∧tm= #[sl C.a0 0,sl C.a0 1,sl C.a0 2,sl C.a0 3,sl C.a0 4,sl C.a0 5,sl C.a0 6,sl C.a0 7,sl C.a0 8,sl C.a0 9,sl C.a0 10,.map (some mb),sl C.a0 12,sl C.a0 13,sl C.a0 14,sl C.a0 15,sl C.a0 16,sl C.a0 17,sl C.a0 18,sl C.a0 19,sl C.a0 20,sl C.a0 21,sl C.a0 22,sl C.a0 23,.map (some mb),t25,t26,t27,t28,t29,t30,t31,t32,t33,t34,t35,t36,t37,t38,t39,t40,t41,t42,t43,t44,t45,t46,t47,t48,t49,t50,t51,t52,t53,t54,t55,t56,t57,t58,.map (some mb),sl C.a0 60,sl C.a0 61,sl C.a0 62,sl C.a0 63,sl C.a0 64,sl C.a0 65,sl C.a0 66,sl C.a0 67,sl C.a0 68,sl C.a0 69,sl C.a0 70,sl C.a0 71,sl C.a0 72,sl C.a0 73,sl C.a0 74,sl C.a0 75,sl C.a0 76,sl C.a0 77,sl C.a0 78,sl C.a0 79,sl C.a0 80,sl C.a0 81,sl C.a0 82]∧Below C.w0.heap.size C.w0 w∧∃k D,C.w0.heap.size≤mb∧j4 w mb k D∧aJ3 C w mb D:=by
 obtain⟨k,D,m1,m2,m3,_,m5⟩:=h.map (cg dz);have o0:tm.getD 0 undef=sl C.a0 0:=h.old 0 dz dz;have o1:tm.getD 1 undef=sl C.a0 1:=h.old 1 dz dz;have o2:tm.getD 2 undef=sl C.a0 2:=h.old 2 dz dz;have o3:tm.getD 3 undef=sl C.a0 3:=h.old 3 dz dz;have o4:tm.getD 4 undef=sl C.a0 4:=h.old 4 dz dz;have o5:tm.getD 5 undef=sl C.a0 5:=h.old 5 dz dz;have o6:tm.getD 6 undef=sl C.a0 6:=h.old 6 dz dz;have o7:tm.getD 7 undef=sl C.a0 7:=h.old 7 dz dz;have o8:tm.getD 8 undef=sl C.a0 8:=h.old 8 dz dz;have o9:tm.getD 9 undef=sl C.a0 9:=h.old 9 dz dz;have o10:tm.getD 10 undef=sl C.a0 10:=h.old 10 dz dz;have o12:tm.getD 12 undef=sl C.a0 12:=h.old 12 dz dz;have o13:tm.getD 13 undef=sl C.a0 13:=h.old 13 dz dz;have o14:tm.getD 14 undef=sl C.a0 14:=h.old 14 dz dz;have o15:tm.getD 15 undef=sl C.a0 15:=h.old 15 dz dz;have o16:tm.getD 16 undef=sl C.a0 16:=h.old 16 dz dz;have o17:tm.getD 17 undef=sl C.a0 17:=h.old 17 dz dz;have o18:tm.getD 18 undef=sl C.a0 18:=h.old 18 dz dz;have o19:tm.getD 19 undef=sl C.a0 19:=h.old 19 dz dz;have o20:tm.getD 20 undef=sl C.a0 20:=h.old 20 dz dz;have o21:tm.getD 21 undef=sl C.a0 21:=h.old 21 dz dz;have o22:tm.getD 22 undef=sl C.a0 22:=h.old 22 dz dz;have o23:tm.getD 23 undef=sl C.a0 23:=h.old 23 dz dz;have o60:tm.getD 60 undef=sl C.a0 60:=h.old 60 dz dz;have o61:tm.getD 61 undef=sl C.a0 61:=h.old 61 dz dz;have o62:tm.getD 62 undef=sl C.a0 62:=h.old 62 dz dz;have o63:tm.getD 63 undef=sl C.a0 63:=h.old 63 dz dz;have o64:tm.getD 64 undef=sl C.a0 64:=h.old 64 dz dz;have o65:tm.getD 65 undef=sl C.a0 65:=h.old 65 dz dz;have o66:tm.getD 66 undef=sl C.a0 66:=h.old 66 dz dz;have o67:tm.getD 67 undef=sl C.a0 67:=h.old 67 dz dz;have o68:tm.getD 68 undef=sl C.a0 68:=h.old 68 dz dz;have o69:tm.getD 69 undef=sl C.a0 69:=h.old 69 dz dz;have o70:tm.getD 70 undef=sl C.a0 70:=h.old 70 dz dz;have o71:tm.getD 71 undef=sl C.a0 71:=h.old 71 dz dz;have o72:tm.getD 72 undef=sl C.a0 72:=h.old 72 dz dz;have o73:tm.getD 73 undef=sl C.a0 73:=h.old 73 dz dz;have o74:tm.getD 74 undef=sl C.a0 74:=h.old 74 dz dz;have o75:tm.getD 75 undef=sl C.a0 75:=h.old 75 dz dz;have o76:tm.getD 76 undef=sl C.a0 76:=h.old 76 dz dz;have o77:tm.getD 77 undef=sl C.a0 77:=h.old 77 dz dz;have o78:tm.getD 78 undef=sl C.a0 78:=h.old 78 dz dz;have o79:tm.getD 79 undef=sl C.a0 79:=h.old 79 dz dz;have o80:tm.getD 80 undef=sl C.a0 80:=h.old 80 dz dz;have o81:tm.getD 81 undef=sl C.a0 81:=h.old 81 dz dz;have o82:tm.getD 82 undef=sl C.a0 82:=h.old 82 dz dz;have o24:tm.getD 24 undef= .map (some mb):=m1;have o59:=h.val (48,59) dz (cg dz);rw[aFZ]at o59;have o11:=h.val (49,11) dz (cg dz);rw[aJ1]at o11;have aOu:tm.getD 59 undef= .map (some mb):=o59;have aOv:tm.getD 11 undef= .map (some mb):=o11;refine⟨tm.getD 25 undef,tm.getD 26 undef,tm.getD 27 undef,tm.getD 28 undef,tm.getD 29 undef,tm.getD 30 undef,tm.getD 31 undef,tm.getD 32 undef,tm.getD 33 undef,tm.getD 34 undef,tm.getD 35 undef,tm.getD 36 undef,tm.getD 37 undef,tm.getD 38 undef,tm.getD 39 undef,tm.getD 40 undef,tm.getD 41 undef,tm.getD 42 undef,tm.getD 43 undef,tm.getD 44 undef,tm.getD 45 undef,tm.getD 46 undef,tm.getD 47 undef,tm.getD 48 undef,tm.getD 49 undef,tm.getD 50 undef,tm.getD 51 undef,tm.getD 52 undef,tm.getD 53 undef,tm.getD 54 undef,tm.getD 55 undef,tm.getD 56 undef,tm.getD 57 undef,tm.getD 58 undef,h.df,?_,h.lE,k,D,m2,m3,?_⟩
 ·refine(aFd tm 83 h.sz).trans ?_
  show #[tm.getD 0 undef,tm.getD 1 undef,tm.getD 2 undef,tm.getD 3 undef,tm.getD 4 undef,tm.getD 5 undef,tm.getD 6 undef,tm.getD 7 undef,tm.getD 8 undef,tm.getD 9 undef,tm.getD 10 undef,tm.getD 11 undef,tm.getD 12 undef,tm.getD 13 undef,tm.getD 14 undef,tm.getD 15 undef,tm.getD 16 undef,tm.getD 17 undef,tm.getD 18 undef,tm.getD 19 undef,tm.getD 20 undef,tm.getD 21 undef,tm.getD 22 undef,tm.getD 23 undef,tm.getD 24 undef,tm.getD 25 undef,tm.getD 26 undef,tm.getD 27 undef,tm.getD 28 undef,tm.getD 29 undef,tm.getD 30 undef,tm.getD 31 undef,tm.getD 32 undef,tm.getD 33 undef,tm.getD 34 undef,tm.getD 35 undef,tm.getD 36 undef,tm.getD 37 undef,tm.getD 38 undef,tm.getD 39 undef,tm.getD 40 undef,tm.getD 41 undef,tm.getD 42 undef,tm.getD 43 undef,tm.getD 44 undef,tm.getD 45 undef,tm.getD 46 undef,tm.getD 47 undef,tm.getD 48 undef,tm.getD 49 undef,tm.getD 50 undef,tm.getD 51 undef,tm.getD 52 undef,tm.getD 53 undef,tm.getD 54 undef,tm.getD 55 undef,tm.getD 56 undef,tm.getD 57 undef,tm.getD 58 undef,tm.getD 59 undef,tm.getD 60 undef,tm.getD 61 undef,tm.getD 62 undef,tm.getD 63 undef,tm.getD 64 undef,tm.getD 65 undef,tm.getD 66 undef,tm.getD 67 undef,tm.getD 68 undef,tm.getD 69 undef,tm.getD 70 undef,tm.getD 71 undef,tm.getD 72 undef,tm.getD 73 undef,tm.getD 74 undef,tm.getD 75 undef,tm.getD 76 undef,tm.getD 77 undef,tm.getD 78 undef,tm.getD 79 undef,tm.getD 80 undef,tm.getD 81 undef,tm.getD 82 undef]=_;rw[o0,o1,o2,o3,o4,o5,o6,o7,o8,o9,o10,o12,o13,o14,o15,o16,o17,o18,o19,o20,o21,o22,o23,o60,o61,o62,o63,o64,o65,o66,o67,o68,o69,o70,o71,o72,o73,o74,o75,o76,o77,o78,o79,o80,o81,o82,o24,aOu,aOv]
 ·refine⟨?_,?_,?_,?_,?_,?_,?_,?_,?_,?_,?_,?_,?_⟩
  ·exact m5 ⟨1,119,0,0⟩ (by simp[iz]) (cg dz)
  ·exact⟨_,m5 ⟨3,108,25,2⟩ (by simp[iz]) (cg dz),by have hv:=h.val (2,25) dz (cg dz);rw[vs2]at hv;exact hv⟩
  ·exact⟨_,m5 ⟨6,114,27,5⟩ (by simp[iz]) (cg dz),by have hv:=h.val (5,27) dz (cg dz);rw[vs5]at hv;exact hv⟩
  ·exact⟨_,m5 ⟨9,118,29,8⟩ (by simp[iz]) (cg dz),by have hv:=h.val (8,29) dz (cg dz);rw[vs8]at hv;exact hv⟩
  ·exact⟨_,m5 ⟨12,99,31,11⟩ (by simp[iz]) (cg dz),by have hv:=h.val (11,31) dz (cg dz);rw[aJs]at hv;exact hv⟩
  ·exact⟨_,m5 ⟨15,97,33,14⟩ (by simp[iz]) (cg dz),by have hv:=h.val (14,33) dz (cg dz);rw[aJt]at hv;exact hv⟩
  ·exact⟨_,m5 ⟨18,111,35,17⟩ (by simp[iz]) (cg dz),by have hv:=h.val (17,35) dz (cg dz);rw[aJz]at hv;exact hv⟩
  ·exact⟨_,m5 ⟨21,105,37,20⟩ (by simp[iz]) (cg dz),by have hv:=h.val (20,37) dz (cg dz);rw[aJ0]at hv;exact hv⟩
  ·exact⟨_,m5 ⟨27,115,42,26⟩ (by simp[iz]) (cg dz),by have hv:=h.val (26,42) dz (cg dz);rw[aJu]at hv;exact hv⟩
  ·exact⟨_,m5 ⟨33,98,47,32⟩ (by simp[iz]) (cg dz),by have hv:=h.val (32,47) dz (cg dz);rw[aJv]at hv;exact hv⟩
  ·exact⟨_,m5 ⟨38,101,51,37⟩ (by simp[iz]) (cg dz),by have hv:=h.val (37,51) dz (cg dz);rw[aJw]at hv;exact hv⟩
  ·exact⟨_,m5 ⟨43,100,55,42⟩ (by simp[iz]) (cg dz),by have hv:=h.val (42,55) dz (cg dz);rw[aJx]at hv;exact hv⟩
  ·exact⟨_,m5 ⟨47,106,58,46⟩ (by simp[iz]) (cg dz),by have hv:=h.val (46,58) dz (cg dz);rw[aJy]at hv;exact hv⟩
def QH:List Nat:= [119,108,114,118,99,97,111,105,115,98,101,100,106]
def aJ4:List (List Nat):=(List.range 26).map fun(n:Nat)=>(mX (n:Int)).data.toList.map (·.toNat)
theorem X8:(aJ4.all fun l=>l.all fun b=>QH.contains b)=true:=by kernel_rfl
theorem X9(n:Int):∀b∈(mX n).data.toList,b.toNat∈QH:=by
 by_cases h:n<1∨n>25
 ·rw[Nc h];intro b hb;cases hb
 ·have hn:n.toNat<26:=by omega
  have h1:=List.all_eq_true.1 X8 ((mX n.toNat).data.toList.map (·.toNat)) (List.mem_map.2 ⟨n.toNat,List.mem_range.2 hn,rfl⟩);rw[Int.toNat_of_nonneg oz]at h1;intro b hb;have h2:=List.all_eq_true.1 h1 b.toNat (List.mem_map.2 ⟨b,hb,rfl⟩);exact List.contains_iff_mem.1 h2
theorem QI:∀k∈QH,k<128:=by decide
def mS(p:aC)(n:Int)(x:gu)(k:Nat)(v:Int):Bool:=
 if k=119 then dJ 1 2000 v else if k=108 then lOk p x.a v else if k=114 then decide (v<4)else if k=118 then decide (v<256)else if k=99 then decide (v<256)
 else if k=97 then decide (v<4096)else if k=111 then tj p true v else if k=105 then tj p false v else if k=115 then decide (v<(p.aG.l.length:Int))
 else if k=98 then decide (v<(p.aX.l.length:Int))else if k=101 then decide (v<p.ev)else if k=100 then decide (v<p.bo)else decide (v<n)
theorem UD{C:Ctx}{w:World}{v:Value}{n:Int}(h:dw C n v w)(m:Int):∃f lb,v= .func (.func f) #[] lb∧(∀args w,(callFunc f args).run pG w= .ok (.enter f args) w)∧∀W,Below w.heap.size w W→Calls pG f (#[.int .i64 m]++lb) W fun e W'=>e= .returned (.bool (decide (m<n)))∧Below W.heap.size W W':=by
 obtain⟨b,rfl,hc⟩:=h;exact⟨_,_,rfl,enters_of Tryz.func164 kz rfl,fun W hW=>WS n m b W ((hW.cell (p:=⟨b,0,none⟩) (World.block_lt_of_cell? w _ hc)).trans hc)⟩
theorem Ya{C:Ctx}{w:World}{v:Value}{o:Bool}(h:mH C o v w)(hp:C.p.bk w C.g3)(hr:fu w w.heap.size C.p.aq.a C.p.aq.l)(m:Nat):∃f lb,v= .func (.func f) #[] lb∧(∀args w,(callFunc f args).run pG w= .ok (.enter f args) w)∧∀W,Below w.heap.size w W→Calls pG f (#[.int .i64 (m:Int)]++lb) W fun e W'=>e= .returned (.bool (tj C.p o m))∧Below W.heap.size W W':=by
 obtain⟨b,rfl,hc⟩:=h;exact⟨_,_,rfl,enters_of Tryz.func162 kz rfl,fun W hW=>aBR C.p o m C.g3 b W (hp.below hW hp.lt) ((hW.cell (p:=⟨b,0,none⟩) (World.block_lt_of_cell? w _ hc)).trans hc) (hr.below hW)⟩
theorem aJ5(C:Ctx)(x:gu){w:World}{mb:Nat}{D:DataW Value}(h:aJ3 C w mb D)(hp:C.p.bk w C.g3)(hx:x.bk w C.g5)(hr:fu w w.heap.size C.p.aq.a C.p.aq.l)(hxa:0≤x.a)(k:Nat)(hk:k∈QH)(m:Nat):
 ∃f lb,D.atKey (kI k) ni= .held (.func (.func f) #[] lb)∧(∀args w,(callFunc f args).run pG w= .ok (.enter f args) w)∧∀W,Below w.heap.size w W→Calls pG f (#[.int .i64 (m:Int)]++lb) W fun e W'=>e= .returned (.bool (mS C.p C.n x k m))∧Below W.heap.size W W':=by
 have hB:∀{n:Int},(∃v,D.atKey (kI k) ni= .held v∧dw C n v w)→mS C.p C.n x k m=decide ((m:Int)<n)→∃f lb,D.atKey (kI k) ni= .held (.func (.func f) #[] lb)∧(∀args w,(callFunc f args).run pG w= .ok (.enter f args) w)∧∀W,Below w.heap.size w W→Calls pG f (#[.int .i64 (m:Int)]++lb) W fun e W'=>e= .returned (.bool (mS C.p C.n x k m))∧Below W.heap.size W W':=by
  rintro n ⟨v,hv,hs⟩ he;obtain⟨f,lb,rfl,hen,hc⟩:=UD hs m;exact⟨f,lb,hv,hen,fun W hW=>by rw[he];exact hc W hW⟩
 have hP:∀{o:Bool},(∃v,D.atKey (kI k) ni= .held v∧mH C o v w)→mS C.p C.n x k m=tj C.p o m→∃f lb,D.atKey (kI k) ni= .held (.func (.func f) #[] lb)∧(∀args w,(callFunc f args).run pG w= .ok (.enter f args) w)∧∀W,Below w.heap.size w W→Calls pG f (#[.int .i64 (m:Int)]++lb) W fun e W'=>e= .returned (.bool (mS C.p C.n x k m))∧Below W.heap.size W W':=by
  rintro o ⟨v,hv,hs⟩ he;obtain⟨f,lb,rfl,hen,hc⟩:=Ya hs hp hr m;exact⟨f,lb,hv,hen,fun W hW=>by rw[he];exact hc W hW⟩
 simp only[QH,List.mem_cons,List.not_mem_nil,or_false]at hk;rcases hk with rfl | rfl | rfl | rfl | rfl | rfl | rfl | rfl | rfl | rfl | rfl | rfl | rfl
 ·exact⟨_,#[],h.fw,enters_of Tryz.func165 kz rfl,fun W hW=>aEq m W⟩
 ·obtain⟨v,hv,rfl⟩:=h.fl
  obtain⟨q,hq⟩:=Int.eq_ofNat_of_zero_le hxa;refine⟨_,_,hv,enters_of Tryz.func166 kz rfl,fun W hW=> ?_⟩;have:=aEr C.p x q hq m C.g5 C.g3 W (hx.below hW hx.lt) (hp.below hW hp.lt) (hr.below hW);rw[←hq]at this;exact this
 ·exact hB h.fr rfl
 ·exact hB h.fv (by simp[mS])
 ·exact hB h.fc (by simp[mS])
 ·exact hB h.fa (by simp[mS])
 ·exact hP h.fo rfl
 ·exact hP h.fi rfl
 ·exact hB h.fs rfl
 ·exact hB h.fb rfl
 ·exact hB h.fe rfl
 ·exact hB h.fd rfl
 ·exact hB h.fj rfl
theorem below_iterAt{B:Nat}{w W:World}(h:Below B w W)(k:Nat)(hk:B≤k)(s:ByteArray)(q:Nat):Below B w (W.iterAt k s q):=by
 refine h.trans ⟨rfl,rfl,rfl,by simp[World.iterAt],fun i hi=> ?_⟩;simp only[World.iterAt];rw[Array.getElem?_setIfInBounds_ne oz]
theorem j4.below{B:Nat}{w w':World}{b n:Nat}{D:DataW Value}(h:j4 w b n D)(hb:Below B w w')(hlt:b<B):j4 w' b n D:=by
 obtain⟨⟨es,clock,h1,h2⟩,h3⟩:=h;exact⟨⟨es,clock,(hb.block b hlt).trans h1,h2⟩,h3⟩
theorem NR{x:gu}(h:rB x=true):0≤x.a∧0≤x.b∧0≤x.d:=by
 simp only[rB,Bool.and_eq_true,List.all_eq_true]at h;obtain⟨_,h1,h2⟩:=h;have aJ:∀v∈ [x.a,x.b,x.d],0≤v:=fun v hv=>by
  rw[←List.take_append_drop (mX x.op).size [x.a,x.b,x.d]]at hv;rcases List.mem_append.1 hv with hv | hv
  ·have:=h1 v hv
   simp[fH,dJ]at this;omega
  ·have:=h2 v hv
   simp at this;omega
 exact⟨aJ _ qz,aJ _ qz,aJ _ qz⟩
def NS(x:gu):List (UInt8×Int):=(mX x.op).data.toList.zip [x.a,x.b,x.d]
def mJ(p:aC)(n:Int)(x:gu):Bool:=rB x&&(NS x).all fun q=>mS p n x q.1.toNat q.2
theorem NT(x:gu):(NS x).length=(mX x.op).size:=by
 have h:=qE x.op;unfold NS;generalize mX x.op=t at *;rw[List.length_zip];have e:t.data.toList.length=t.size:=Array.length_toList;have e3: [x.a,x.b,x.d].length=3:=rfl;omega
theorem uV{α:Type}{l:List α}{p:α→Bool}{k:Nat}(hk:k<l.length)(h:(l.take k).all p=true)(hp:p l[k]=true):(l.take (k+1)).all p=true:=by
 rw[List.take_succ_eq_append_getElem hk,List.all_append,h];simp[hp]
theorem yq{α:Type}{l:List α}{p:α→Bool}{k:Nat}(hk:k<l.length)(hp:p l[k]=false):l.all p=false:=by
 cases h:l.all p with
 | false=>rfl
 | true=>rw[List.all_eq_true.1 h _ (List.getElem_mem hk)]at hp;cases hp
end
end Go.Proofs.YtmdgooofdmpcjaaGreatDoor
