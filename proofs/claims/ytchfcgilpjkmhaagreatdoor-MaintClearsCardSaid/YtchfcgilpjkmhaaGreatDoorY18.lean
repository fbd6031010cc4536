import Derived.Test.YtchfcgilpjkmhaaGreatDoorY13
set_option maxRecDepth 100000
set_option linter.unusedSimpArgs false
set_option linter.unusedVariables false
set_option linter.unusedSectionVars false
namespace Go.Proofs.YtchfcgilpjkmhaaGreatDoor
open Go.ChangeShapes Go.WideShapes Go.ChangeAt Go.RowKit
attribute [local go_sem] Oper.semAt_some
def SeqG{α:Type}(X:Nat→Prop)(f:Nat)(lb:Array Value)(encs:α→Array Value)(xs:List α)(w:World):Prop:=
 ∀(l:Nat) (W:World) (J Jx:List α→World→Prop),Below w.heap.size w W→(∀T W W',J T W→Below W.heap.size W W'→J T W')→(∀T W W',Jx T W→Below W.heap.size W W'→Jx T W')→J [] W→
  (∀T (t:α) W',T++ [t] <+: xs→Gr X w W'→J T W'→YieldAt Fence.wide 7 Tryz.prog l (encs t) W' fun e W2=>(e= .returned (.bool true)∧J (T++ [t]) W2∧Gr X W' W2)∨(e= .returned (.bool false)∧Jx (T++ [t]) W2))→
  CallsIn Fence.wide 8 Tryz.prog f (#[.func (.yield l) #[] #[]]++lb) W fun e W'=>(∃v,e= .returned v)∧(J xs W'∨∃T,T <+: xs∧Jx T W')
theorem range_g{α:Type}{g:Operand}{ps:Array Tmp}{assign body:Code}{Q:Exit→Act→World→Prop}{a:Act}{w:World}{gf:Nat}{lb:Array Value}{encs:α→Array Value}{xs:List α}{X:Nat→Prop}(hg:a.eval g= .func (.func gf) #[] lb)
 (eg:∀args w,(callFunc gf args).run Tryz.prog w= .ok (.enter gf args) w) (hps:∀t,(encs t).size=ps.size) (hX:∀k,X k→k<w.heap.size) (hiter:SeqG X gf lb encs xs w)
 (Post PostE:List α→World→Prop) (hPb:∀T W W',Post T W→Below W.heap.size W W'→Post T W') (hEb:∀T W W',PostE T W→Below W.heap.size W W'→PostE T W')
 (hPput:∀T (l:Nat) W (o o':Obj),w.heap.size≤l→W.heap[l]?=some o→o.isCells=false→Post T W→Post T (W.putObj l o'))
 (hEput:∀T (l:Nat) W (o o':Obj),w.heap.size≤l→W.heap[l]?=some o→o.isCells=false→PostE T W→PostE T (W.putObj l o'))
 (hP0:Post [] w)
 (Ax:List α→α→Act→World→Prop) (hAx:∀T t (l:Nat) a' W (o o':Obj),w.heap.size≤l→W.heap[l]?=some o→o.isCells=false→Ax T t a' W→Ax T t a' (W.putObj l o'))
 (hassign:∀(l:Nat) T (t:α) (W:World) (K:Act→World→Prop),T++ [t] <+: xs→w.heap.size+2≤W.heap.size→Gr X w W→Post T W→
  (∀a' W',KeepsFrom w.heap.size W W'→Gr X W W'→Ax T t a' W'→K a' W')→
  assign.wpIn (Fence.wide.inRound l) 7 Tryz.prog (Exit.then K (fun _ _ _=>False)) {tmps:=(ps.zip (encs t)).foldl (fun t (p,v)=>t.setIfInBounds p v) a.tmps,defers:= []} W)
 (hbody:∀(l:Nat) T (t:α) (a':Act) (W:World),T++ [t] <+: xs→Gr X w W→Ax T t a' W→body.wpIn (Fence.wide.inRound l) 7 Tryz.prog (fun e a3 W3=>KeepsFrom w.heap.size W W3∧((e= .normal∧Gr X W W3∧Post (T++ [t]) W3)∨(e= .ret∧PostE (T++ [t]) W3))) a' W)
 (hdone:∀(D:Nat) (W3:World),w.heap.size≤D→Post xs W3→W3.heap[D]?=some (.deferred (some []))→Q .normal {a with defers:={target:= .collected D,args:= #[]} :: a.defers} W3)
 (hret:∀(D:Nat) T (W3:World),w.heap.size≤D→T <+: xs→PostE T W3→W3.heap[D]?=some (.deferred (some []))→Q .ret {a with defers:={target:= .collected D,args:= #[]} :: a.defers} W3):
 (Code.rangeFunc g ps assign body).wpIn Fence.wide 9 Tryz.prog Q a w:=by
 refine wpIn_rangeFunc ?_;intro fn hfn;obtain⟨rec,hrec⟩:∃rec:LoopState→Option Code→Loop,rec=fun st pe=>{state:=st,pending:=pe,fn,tmps:=a.tmps,params:=ps,assign,body,defers:=w.heap.size}:=⟨_,rfl⟩
 obtain⟨W1,hW1⟩:∃W1,W1=(w.alloc (.deferred (some []))).alloc (.loop (rec .ready none)):=⟨_,rfl⟩;have hl1:W1.heap[w.heap.size+1]?=some (.loop (rec .ready none)):=by
  rw[hW1];have:=World.alloc_heap_new (w.alloc (.deferred (some []))) (.loop (rec .ready none));rwa[World.size_alloc]at this
 have hd1:W1.heap[w.heap.size]?=some (.deferred (some [])):=by
  rw[hW1];exact(Below.heap_alloc _ _ _ (by simp)).trans (World.alloc_heap_new w _)
 have hb1:Below w.heap.size w W1:=by rw[hW1];exact((Below.refl _ w).alloc (Nat.le_refl _) _).alloc (by simp) _
 have hz1:W1.heap.size=w.heap.size+2:=by rw[hW1];simp
 refine⟨w.heap.size+1,[{target:= .collected w.heap.size,args:= #[]}],W1,{target:= .fn (.func gf) lb,args:= #[.func (.yield (w.heap.size+1)) #[] #[]]},W1,gf,#[.func (.yield (w.heap.size+1)) #[] #[]]++lb,W1,?_,?_,?_,?_,fun _=>by omega,?_⟩
 ·rw[hW1,hrec];exact run_enterLoop_outer _ _ _ _ _
 ·simp only[resolve,hg];simp[go_sem]
 ·intro f' hf';simp[Target.leads]at hf';subst hf';trivial
 ·simp[invoke,go_sem,eg]
 have hgr:∀W (o:Obj) l,w.heap.size≤l→Gr X w W→Gr X w (W.putObj l o):=fun W o l hl h=>
  ⟨h.os,h.tape,h.output,by simpa using h.size,fun k hk hn=>(World.putObj_heap_other (by omega)).trans (h.block k hk hn)⟩
 have hround:∀T (t:α) W,T++ [t] <+: xs→Gr X w W→Post T W→W.heap[w.heap.size+1]?=some (.loop (rec .ready none))→W.heap[w.heap.size]?=some (.deferred (some []))→
  YieldAt Fence.wide 7 Tryz.prog (w.heap.size+1) (encs t) W fun e W2=>
   (e= .returned (.bool true)∧(Post (T++ [t]) W2∧W2.heap[w.heap.size+1]?=some (.loop (rec .ready none))∧W2.heap[w.heap.size]?=some (.deferred (some [])))∧Gr X W W2)∨
   (e= .returned (.bool false)∧PostE (T++ [t]) W2∧W2.heap[w.heap.size+1]?=some (.loop (rec .done (some .ret)))∧W2.heap[w.heap.size]?=some (.deferred (some []))):=by
  intro T t W hT hG hP hl hk;have hy:=run_yield (P:=Tryz.prog) (args:=encs t) hl (by rw[hrec];exact hps t);rw[hrec]at hy;have hsz:w.heap.size+2≤W.heap.size:=by
   have:=(Array.getElem?_eq_some_iff.1 hl).1;omega
  refine⟨fn,_,assign,body,hy,roundIn_of_wpIn hfn (hassign _ T t W _ hT hsz hG hP ?_)⟩;intro a' Wa hkf hga hax;have hla:=hkf.same _ _ (by omega) hl rfl;have hka:=hkf.same _ _ (Nat.le_refl _) hk rfl;have hlt:w.heap.size+1<Wa.heap.size:=(Array.getElem?_eq_some_iff.1 hla).1;refine⟨_,run_beginRound hla (by rw[hrec]),?_⟩;have hl2:(Wa.putObj (w.heap.size+1) (.loop {rec .ready none with state:= .busy})).heap[w.heap.size+1]?=some (.loop {rec .ready none with state:= .busy}):=World.putObj_heap_same hlt;have hk2:(Wa.putObj (w.heap.size+1) (.loop {rec .ready none with state:= .busy})).heap[w.heap.size]?=some (.deferred (some [])):=(World.putObj_heap_other (by omega)).trans hka;refine wpIn_mono (hbody _ T t a' _ hT (hgr _ _ _ (by omega) (hG.trans hga)) (hAx _ _ _ _ _ _ _ (by omega) hla rfl hax)) ?_;rintro e a3 W3 ⟨hk3,hpost⟩;have hl3:=hk3.same _ _ (by omega) hl2 rfl;have hkk3:=hk3.same _ _ (Nat.le_refl _) hk2 rfl;have hlt3:w.heap.size+1<W3.heap.size:=(Array.getElem?_eq_some_iff.1 hl3).1;rcases hpost with⟨rfl,hX3,hp3⟩ | ⟨rfl,hp3⟩
  ·have hr:=run_endRound (P:=Tryz.prog) none hl3
   refine⟨_,_,hr,.inl ⟨rfl,⟨hPput _ _ _ _ _ (by omega) hl3 rfl hp3,?_,(World.putObj_heap_other (by omega)).trans hkk3⟩,?_⟩⟩
   ·refine(World.putObj_heap_same hlt3).trans ?_
    rw[hrec];rfl
   ·refine⟨hX3.os.trans hga.os,hX3.tape.trans hga.tape,hX3.output.trans hga.output,?_,fun k hk hn=> ?_⟩
    ·have h1:=hX3.size
     have h2:=hga.size;simp at h1 ⊢;omega
    ·by_cases e:k=w.heap.size+1
     ·subst e
      refine Eq.trans ?_ hl.symm;refine(World.putObj_heap_same hlt3).trans ?_;rw[hrec];rfl
     ·have hk2:k<Wa.heap.size:=Nat.lt_of_lt_of_le hk hga.size
      exact(World.putObj_heap_other e).trans ((hX3.block k (by simpa using hk2) hn).trans ((World.putObj_heap_other e).trans (hga.block k hk hn)))
  ·have hr:=run_endRound (P:=Tryz.prog) (some .ret) hl3
   refine⟨_,_,hr,.inr ⟨rfl,hEput _ _ _ _ _ (by omega) hl3 rfl hp3,?_,(World.putObj_heap_other (by omega)).trans hkk3⟩⟩;refine(World.putObj_heap_same hlt3).trans ?_;rw[hrec];rfl
 have hst:∀W W' (o o':Obj),W.heap[w.heap.size+1]?=some o→W.heap[w.heap.size]?=some o'→Below W.heap.size W W'→W'.heap[w.heap.size+1]?=some o∧W'.heap[w.heap.size]?=some o':=fun W W' o o' h1 h2 hG=>
  ⟨(hG.block _ (Array.getElem?_eq_some_iff.1 h1).1).trans h1,(hG.block _ (Array.getElem?_eq_some_iff.1 h2).1).trans h2⟩
 refine(hiter (w.heap.size+1) W1 (fun T W=>Post T W∧W.heap[w.heap.size+1]?=some (.loop (rec .ready none))∧W.heap[w.heap.size]?=some (.deferred (some [])))
  (fun T W=>PostE T W∧W.heap[w.heap.size+1]?=some (.loop (rec .done (some .ret)))∧W.heap[w.heap.size]?=some (.deferred (some []))) hb1
  (fun T W W' h hG=>⟨hPb _ _ _ h.1 hG,hst _ _ _ _ h.2.1 h.2.2 hG⟩) (fun T W W' h hG=>⟨hEb _ _ _ h.1 hG,hst _ _ _ _ h.2.1 h.2.2 hG⟩) ⟨hPb _ _ _ hP0 hb1,hl1,hd1⟩ ?_).mono ?_
 ·intro T t W' hT hG hJ
  exact hround T t W' hT hG hJ.1 hJ.2.1 hJ.2.2
 ·rintro e W3 ⟨⟨v,rfl⟩,hend⟩
  rcases hend with⟨hP,hl3,hk3⟩ | ⟨T,hT,hP,hl3,hk3⟩
  ·have hr:=run_endLoop (P:=Tryz.prog) hl3 (by rw[hrec];simp)
   rw[show(rec .ready none).pending=none by rw[hrec]]at hr;refine⟨none,_,hr,?_⟩;exact hdone _ _ (Nat.le_refl _) (hPput _ _ _ _ _ (by omega) hl3 rfl hP) ((World.putObj_heap_other (by omega)).trans hk3)
  ·have hr:=run_endLoop (P:=Tryz.prog) hl3 (by rw[hrec];simp)
   rw[show(rec .done (some .ret)).pending=some .ret by rw[hrec]]at hr;refine⟨some .ret,_,hr,?_⟩;exact wpIn_ret (hret _ _ _ (Nat.le_refl _) hT (hEput _ _ _ _ _ (by omega) hl3 rfl hP) ((World.putObj_heap_other (by omega)).trans hk3))
theorem below_put{B:Nat}{W:World}{l:Nat}(o':Obj)(hl:B≤l):Below B W (W.putObj l o'):=⟨rfl,rfl,rfl,by simp,fun k hk=>World.putObj_heap_other (by omega)⟩
theorem blk_put{W:World}{l Bx:Nat}{t:TypeId}{cs:Array Value}{o o':Obj}(h:Blk W Bx t cs)(ho:W.heap[l]?=some o)(hc:o.isCells=false):Blk (W.putObj l o') Bx t cs:=by
 have hne:Bx≠l:=fun e=>by subst e;rw[show W.heap[Bx]?=_ from h]at ho;cases ho;cases hc
 exact(World.putObj_heap_other hne).trans h
theorem keeps_gr{B:Nat}{X:Nat→Prop}{W W':World}(h:Gr X W W')(hX:∀k,X k→k<B):KeepsFrom B W W':=
 ⟨h.size,fun k o hk ho hc=>(h.block k (Array.getElem?_eq_some_iff.1 ho).1 (fun hx=>absurd (hX k hx) (by omega))).trans ho⟩
theorem range_s{α:Type}{g:Operand}{ps:Array Tmp}{assign body:Code}{Q:Exit→Act→World→Prop}{a:Act}{w:World}{gf:Nat}{lb:Array Value}{encs:α→Array Value}{xs:List α}{X XE:Nat→Prop}(hg:a.eval g= .func (.func gf) #[] lb)
 (eg:∀args w,(callFunc gf args).run Tryz.prog w= .ok (.enter gf args) w) (hps:∀t,(encs t).size=ps.size) (hX:∀k,X k→k<w.heap.size) (hXE:∀k,XE k→k<w.heap.size) (hiter:SeqG X gf lb encs xs w)
 (I IE:List α→World→Prop) (hI:∀T W W',I T W→Below w.heap.size W W'→I T W') (hIE:∀T W W',IE T W→Below w.heap.size W W'→IE T W') (hI0:I [] w)
 (Ax:α→Act→World→Prop) (hAx:∀t (l:Nat) a' W (o o':Obj),w.heap.size≤l→W.heap[l]?=some o→o.isCells=false→Ax t a' W→Ax t a' (W.putObj l o'))
 (hassign:∀(l:Nat) T (t:α) (W:World) (K:Act→World→Prop),T++ [t] <+: xs→w.heap.size+2≤W.heap.size→(∀a' W',Below W.heap.size W W'→Ax t a' W'→K a' W')→
  assign.wpIn (Fence.wide.inRound l) 7 Tryz.prog (Exit.then K (fun _ _ _=>False)) {tmps:=(ps.zip (encs t)).foldl (fun t (p,v)=>t.setIfInBounds p v) a.tmps,defers:= []} W)
 (hbody:∀(l:Nat) T (t:α) (a':Act) (W:World),T++ [t] <+: xs→w.heap.size+2≤W.heap.size→Gr X w W→I T W→Ax t a' W→body.wpIn (Fence.wide.inRound l) 7 Tryz.prog (fun e _ W3=>(e= .normal∧Gr X W W3∧I (T++ [t]) W3)∨(e= .ret∧Gr XE W W3∧IE (T++ [t]) W3)) a' W)
 (hdone:∀(D:Nat) (W3:World),w.heap.size≤D→w.heap.size≤W3.heap.size→I xs W3→W3.heap[D]?=some (.deferred (some []))→Q .normal {a with defers:={target:= .collected D,args:= #[]} :: a.defers} W3)
 (hret:∀(D:Nat) T (W3:World),w.heap.size≤D→w.heap.size≤W3.heap.size→T <+: xs→IE T W3→W3.heap[D]?=some (.deferred (some []))→Q .ret {a with defers:={target:= .collected D,args:= #[]} :: a.defers} W3):
 (Code.rangeFunc g ps assign body).wpIn Fence.wide 9 Tryz.prog Q a w:=by
 refine range_g hg eg hps hX hiter (fun T W=>w.heap.size≤W.heap.size∧I T W) (fun T W=>w.heap.size≤W.heap.size∧IE T W)
  (fun T W W' h hb=>⟨Nat.le_trans h.1 hb.size,hI _ _ _ h.2 (hb.mono h.1)⟩) (fun T W W' h hb=>⟨Nat.le_trans h.1 hb.size,hIE _ _ _ h.2 (hb.mono h.1)⟩)
  (fun T l W o o' hl ho hc h=>⟨by simpa using h.1,hI _ _ _ h.2 (below_put o' hl)⟩) (fun T l W o o' hl ho hc h=>⟨by simpa using h.1,hIE _ _ _ h.2 (below_put o' hl)⟩) ⟨Nat.le_refl _,hI0⟩
  (fun T t a' W=>w.heap.size+2≤W.heap.size∧I T W∧Ax t a' W) (fun T t l a' W o o' hl ho hc h=>⟨by simpa using h.1,hI _ _ _ h.2.1 (below_put o' hl),hAx _ _ _ _ _ _ hl ho hc h.2.2⟩)
  (fun l T t W K hT hsz hG hP hK=>hassign l T t W K hT hsz fun a' W' hb hax=>hK a' W' (keeps_gr (X:=fun _=>False) (Gr.of_below hb) (fun _ h=>h.elim)) (Gr.of_below hb) ⟨Nat.le_trans hsz hb.size,hI _ _ _ hP.2 (hb.mono (by omega)),hax⟩)
  (fun l T t a' W hT hG hax=>wpIn_mono (hbody l T t a' W hT hax.1 hG hax.2.1 hax.2.2) fun e a3 W3 h=> ?_)
  (fun D W3 hD h hk=>hdone D W3 hD h.1 h.2 hk) (fun D T W3 hD hT h hk=>hret D T W3 hD h.1 hT h.2 hk)
 have h1:=hax.1;rcases h with⟨he,hG3,hi⟩ | ⟨he,hG3,hi⟩
 ·exact⟨keeps_gr hG3 hX,.inl ⟨he,hG3,by have:=hG3.size;omega,hi⟩⟩
 ·exact⟨keeps_gr hG3 hXE,.inr ⟨he,by have:=hG3.size;omega,hi⟩⟩
end Go.Proofs.YtchfcgilpjkmhaaGreatDoor
