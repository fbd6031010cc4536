import Derived.Test.YtchfcgilpjkmhaaGreatDoorY12
import Derived.Test.YtchfcgilpjkmhaaGreatDoorY2
import Derived.Test.YtchfcgilpjkmhaaGreatDoorY0
set_option maxRecDepth 100000
set_option linter.unusedSimpArgs false
set_option linter.unusedVariables false
set_option linter.unusedSectionVars false
namespace Go.Proofs.YtchfcgilpjkmhaaGreatDoor
open Go.ChangeShapes Go.WideShapes Go.ChangeAt Go.RowKit
attribute [local go_sem] Oper.semAt_some
theorem skipV_ge(s:ByteArray):∀(f k:Nat),k≤skipV s f k
 | 0,k=>Nat.le_refl _
 | f+1,k=>by
  rw[skipV];split
  ·exact Nat.le_trans (runEnd_ge nlP s s.size k) (Nat.le_trans (runEnd_ge (amoP blankS) s s.size _) (skipV_ge s f _))
  ·exact Nat.le_refl _
theorem skipV_le(s:ByteArray):∀(f k:Nat),k≤s.size→skipV s f k≤s.size
 | 0,k,h=>h
 | f+1,k,h=>by
  rw[skipV];split
  ·exact skipV_le s f _ (runEnd_le (amoP blankS) s s.size _ (runEnd_le nlP s s.size k h))
  ·exact h
theorem skipE_ge(s:ByteArray)(k:Nat):k≤skipE s k:=Nat.le_trans (runEnd_ge (amoP blankS) s s.size k) (skipV_ge s s.size _)
theorem skipE_le(s:ByteArray)(k:Nat)(h:k≤s.size):skipE s k≤s.size:=skipV_le s s.size _ (runEnd_le (amoP blankS) s s.size k h)
abbrev PTok:=Int×ByteArray×Nat
def lexS(s:ByteArray):Nat→Nat→Option (List PTok)
 | 0,_=>some []
 | f+1,k=>if k<s.size then(if (nextR s k).2.2.1=0 then(lexS s f (skipE s (nextR s k).2.2.2)).map (((nextR s k).1,(nextR s k).2.1,k) :: ·)else none)else some []
def lexV(s:ByteArray):Option (List PTok):=lexS s s.size (skipE s 0)
theorem next_end(s:ByteArray)(k:Nat)(hk:k<s.size)(h:(nextR s k).2.2.1=0):k<(nextR s k).2.2.2∧(nextR s k).2.2.2≤s.size:=by
 have h1:k+1≤endN s k:=runEnd_ge nameP s s.size (k+1);have h2:endN s k≤s.size:=runEnd_le nameP s s.size (k+1) (by omega);revert h;unfold nextR;split
 ·intro _;exact⟨h1,h2⟩
 ·split
  ·intro _;exact⟨h1,h2⟩
  ·split
   ·intro _;exact⟨Nat.lt_succ_self k,hk⟩
   ·intro h;exact absurd (show(70:Int)=0 from h) (by decide)
def LexEnd(s:ByteArray)(J:List PTok→World→Prop)(JE:World→Prop)(W:World):Prop:=match lexV s with | some T=>J T W | none=>JE W
theorem lexEnd_some{s:ByteArray}{J:List PTok→World→Prop}{JE:World→Prop}{W:World}{T:List PTok}(h:lexV s=some T)(hj:J T W):LexEnd s J JE W:=by unfold LexEnd;rw[h];exact hj
theorem lexEnd_none{s:ByteArray}{J:List PTok→World→Prop}{JE:World→Prop}{W:World}(h:lexV s=none)(hj:JE W):LexEnd s J JE W:=by unfold LexEnd;rw[h];exact hj
def PTok.enc(t:PTok)(c:Int):Array Value:= #[.agg #[.int .u8 t.1,.string t.2.1,.int .i64 t.2.2],.int .i64 c]
set_option maxHeartbeats 4000000 in
theorem iter_g(g go Bb:Nat)(s:ByteArray)(l1 l2 l3:Array Value)(w0:World)(hgo1:g≠go)(hgo2:Bb≠go)(hgb:Bb≠g)(hsz:s.size≤65536)
 (T1:∀W,Gr (fun k=>k=g∨k=go) w0 W→TestG g W 327 l1 letP) (T2:∀W,Gr (fun k=>k=g∨k=go) w0 W→TestG g W 328 l2 digP) (T3:∀W,Gr (fun k=>k=g∨k=go) w0 W→TestG g W 329 l3 sgnP)
 (hnum:∀W t,Gr (fun k=>k=g∨k=go) w0 W→t.size≤65536→CU 334 #[.string t] W (.bool (numB t)))
 (hb:Blk w0 Bb 308 #[.pointer (some ⟨g,0,none⟩)]) (hg:g<w0.heap.size)
 (l:Nat) (W:World) (hW:Gr (fun k=>k=g∨k=go) w0 W)
 (h:ScB W g s 0 .nilFunc (.func (.func 327) #[] l1) (.func (.func 328) #[] l2) (.func (.func 329) #[] l3))
 (J:List PTok→World→Prop) (JE:World→Prop) (hJ:∀T W W',J T W→Gr (· =g) W W'→J T W') (hJE:∀W W',JE W→Gr (· =g) W W'→JE W') (h0:J [] W)
 (hY:∀T (t:PTok) W',T.length≤65536→Gr (fun k=>k=g∨k=go) w0 W'→J T W'→YieldAt Fence.wide 7 Tryz.prog l #[.agg #[.int .u8 t.1,.string t.2.1,.int .i64 t.2.2],.int .i64 0] W' fun e W2=>e= .returned (.bool true)∧J (T++ [t]) W2∧Gr (fun k=>k=g∨k=go) w0 W2∧W2.heap[g]?=W'.heap[g]?)
 (hE:∀T (t:PTok) (c:Int) W',T.length≤65536→c≠0→Gr (fun k=>k=g∨k=go) w0 W'→J T W'→YieldAt Fence.wide 7 Tryz.prog l #[.agg #[.int .u8 t.1,.string t.2.1,.int .i64 t.2.2],.int .i64 c] W' fun e W2=>e= .returned (.bool false)∧JE W2):
 CallsIn Fence.wide 8 Tryz.prog 315 (#[.func (.yield l) #[] #[]]++ #[.pointer (some ⟨Bb,0,none⟩)]) W fun e W'=>(∃v,e= .returned v)∧LexEnd s J JE W':=by
 have hbW:=hW.blk hb (by rintro(e | e)<;>omega);have c0:=hbW.cell 0;have Hsk:=lz (skip_g 0 W h (Nat.zero_le _) (by omega));have HbW:=lz hbW;have Hb:=lz hb;have HW:=lz hW;have HT1:=lz T1;have HT2:=lz T2;have HT3:=lz T3;have Hnum:=lz hnum;have HJ:=lz hJ;have HJE:=lz hJE;have H0:=lz h0;have HY:=lz hY;have HE:=lz hE;clear hbW hb hW T1 T2 T3 hnum hJ hJE h0 hY hE h;refine callsIn_of_wp Tryz.func315 rfl trivial ?_ rfl;simp only[Tryz.ntmps315,List.size_toArray,List.length_cons,List.length_nil,Nat.reduceAdd,Nat.reduceSub,Array.replicate_succ,Array.replicate_zero,List.push_toArray,List.append_toArray,List.nil_append,List.cons_append];gi_wp2;refine wide_call Hsk.out ?_;rintro e W1 ⟨⟨v,rfl⟩,hS1,hG1⟩;have hX:∀W W':World,Gr (fun k=>k=g∨k=go) w0 W→Gr (· =g) W W'→Gr (fun k=>k=g∨k=go) w0 W':=fun _ _ h1 h2=>h1.trans' h2 (fun k _ e=> .inl e)
 have HX1:=lz (hX _ _ HW.out hG1);have HJ1:=lz (HJ.out _ _ _ H0.out hG1);have HX:=lz hX;have HS1:=lz hS1;clear c0 hX hS1 hG1 Hsk;gi_wp2;gi_loopw [] (fun wr=>∃(T:List PTok) (k F:Nat),T.length≤k∧k≤s.size∧s.size≤k+F∧ScB wr g s k .nilFunc (.func (.func 327) #[] l1) (.func (.func 328) #[] l2) (.func (.func 329) #[] l3)∧Gr (fun k=>k=g∨k=go) w0 wr∧J T wr∧Hid (lexV s=(lexS s F k).map (T++ ·))) (fun wr=>s.size-nowOf g wr)
 case atStart=>exact⟨[],skipE s 0,s.size,Nat.zero_le _,skipE_le s 0 (Nat.zero_le _),by omega,HS1.out,HX1.out,HJ1.out,lz (by unfold lexV;simp)⟩
 case round=>
  obtain⟨T,k,F,hTk,hk,hF,hS,hX,hJT,hL⟩:=hrel;have hnow:=nowSc hS;have hbr:=hX.blk Hb.out (by rintro(e | e)<;>omega);have q0:=hbr.cell 0;have q1:wr.cell? ⟨g,1,none⟩=some (.int .i64 k):=Blk.cell hS 1;have q2:wr.cell? ⟨g,0,none⟩=some (.string s):=Blk.cell hS 0;by_cases hlt:k<s.size
  ·obtain⟨F2,rfl⟩:∃F2,F=F2+1:=⟨F-1,by omega⟩
   have hd:(k:Int)<(s.size:Int):=by omega
   have hnx:=fun n=>next_g g k s l1 l2 l3 (wr.drewN n) hlt hsz (ScB.below hS (only_below (Below.refl _ _))) (HT1.out _ (HX.out _ _ hX (Gr.of_below (only_below (Below.refl _ _))))) (HT2.out _ (HX.out _ _ hX (Gr.of_below (only_below (Below.refl _ _))))) (HT3.out _ (HX.out _ _ hX (Gr.of_below (only_below (Below.refl _ _)))))
    (fun W t hG ht=>Hnum.out W t (HX.out _ _ (HX.out _ _ hX (Gr.of_below (only_below (Below.refl _ _)))) hG) ht)
   have hLX:lexS s (F2+1) k=if (nextR s k).2.2.1=0 then(lexS s F2 (skipE s (nextR s k).2.2.2)).map (((nextR s k).1,(nextR s k).2.1,k) :: ·)else none:=by rw[lexS,if_pos hlt]
   have hend:=next_end s k hlt;obtain⟨r,hr⟩:∃r,r=nextR s k:=⟨_,rfl⟩;rw[←hr]at hnx hLX hend;clear hr;obtain⟨kd,tx,c,e⟩:=r;dsimp only at hnx hLX hend;have Hnx:=lz hnx;have HLX:=lz hLX;have Hend:=lz hend;have HSr:=lz hS;have HXr:=lz hX;have HJr:=lz hJT;clear hnx hLX hend hS hX hJT;by_cases hc:c=0
   ·subst hc
    gi_wp2;refine wpIn_wide.2 ?_;go_quiet (fail);gi_wp2;refine wide_call (Hnx.out _) ?_;rintro e3 W3 ⟨rfl,hS3,hG3⟩;have hG4:Gr (· =g) wr (W3.alloc (.cells #[.int .u8 kd,.string tx,.int .i64 k] 275)):=((Gr.of_below (only_below (Below.refl wr.heap.size wr))).trans hG3).trans (Gr.alloc _ _ _);have hS4:ScB (W3.alloc (.cells #[.int .u8 kd,.string tx,.int .i64 k] 275)) g s e .nilFunc (.func (.func 327) #[] l1) (.func (.func 328) #[] l2) (.func (.func 329) #[] l3):=Blk.alloc hS3 _;obtain⟨fn,tmps,assign,body,hy,hR⟩:=HY.out T (kd,tx,k) _ (by omega) (HX.out _ _ HXr.out hG4) (HJ.out _ _ _ HJr.out hG4);have HS4:=lz hS4;clear hG4 hS3 hG3 hS4 q0 q1 q2 Hnx hbr;gi_wp2;refine hR.mono ?_;rintro e' W5 ⟨rfl,hJ5,hX5,hsame⟩;have hS5:ScB W5 g s e .nilFunc (.func (.func 327) #[] l1) (.func (.func 328) #[] l2) (.func (.func 329) #[] l3):=hsame.trans HS4.out;have hb5:=hX5.blk Hb.out (by rintro(e | e)<;>omega);have p0:=hb5.cell 0;have hen:=Hend.out (by trivial);have Hsk:=lz (skip_g e W5 hS5 hen.2 (by omega));have HX5:=lz hX5;have HJ5:=lz hJ5;clear hS5 hb5 hJ5 hsame hy hR hX5;gi_wp2;refine wide_call Hsk.out ?_;rintro e6 W6 ⟨⟨v6,rfl⟩,hS6,hG6⟩;have hn6:=nowSc hS6;have hge:=skipE_ge s e;have hle:=skipE_le s e hen.2;have HF:=lz (And.intro hS6 (And.intro (HX.out _ _ HX5.out hG6) (HJ.out _ _ _ HJ5.out hG6)));have HL2:Hid (lexV s=(lexS s F2 (skipE s e)).map ((T++ [(kd,tx,k)])++ ·)):=lz (by
     rw[hL.out,HLX.out,if_pos (by trivial),Option.map_map];congr 1;funext x;simp)
    clear hS6 hG6 p0 Hsk;gi_wp2;go_roundw
    case rel=>exact⟨T++ [(kd,tx,k)],skipE s e,F2,by simp;omega,hle,by omega,HF.out.1,HF.out.2.1,HF.out.2.2,HL2⟩
    case measure=>rw[hn6,hnow];omega
   ·have hno:lexV s=none:=by rw[hL.out,HLX.out,if_neg hc];rfl
    have Hno:=lz hno;clear hno;gi_wp2;refine wpIn_wide.2 ?_;go_quiet (fail);gi_wp2;refine wide_call (Hnx.out _) ?_;rintro e3 W3 ⟨rfl,hS3,hG3⟩;have hG4:Gr (· =g) wr (W3.alloc (.cells #[.int .u8 kd,.string tx,.int .i64 k] 275)):=((Gr.of_below (only_below (Below.refl wr.heap.size wr))).trans hG3).trans (Gr.alloc _ _ _);obtain⟨fn,tmps,assign,body,hy,hR⟩:=HE.out T (kd,tx,k) c _ (by omega) hc (HX.out _ _ HXr.out hG4) (HJ.out _ _ _ HJr.out hG4);clear hG4 hS3 hG3 q0 q1 q2 Hnx hbr;gi_wp2;refine hR.mono ?_;rintro e' W5 ⟨rfl,hJ5⟩;have HJ5:=lz hJ5;clear hJ5 hy hR;gi_wp2;refine bodyPost_ret (results_none rfl _ _ _) rfl ?_;exact⟨⟨_,rfl⟩,lexEnd_none Hno.out HJ5.out⟩
  ·have hd:¬(k:Int)<(s.size:Int):=by omega
   have hyes:lexV s=some T:=by
    rw[hL.out]
    cases F with
    | zero=>simp[lexS]
    | succ F=>rw[lexS,if_neg hlt];simp
   have Hyes:=lz hyes;have HF:=lz hJT;clear hyes hJT hS hX hbr;gi_wp2;refine wpIn_wide.2 ?_;go_quiet (fail);gi_wp2;go_end0;exact⟨⟨_,rfl⟩,lexEnd_some Hyes.out (HJ.out _ _ _ HF.out (Gr.of_below (only_below (Below.refl _ _))))⟩
theorem range_toks{g:Operand}{ps:Array Tmp}{assign body:Code}{Q:Exit→Act→World→Prop}{a:Act}{w:World}{gf gm:Nat}{lb:Array Value}{s:ByteArray}{X:Nat→Prop}(hgm:gm<w.heap.size)(hg:a.eval g= .func (.func gf) #[] lb)
 (eg:∀args w,(callFunc gf args).run Tryz.prog w= .ok (.enter gf args) w) (hps:2=ps.size) (hX:∀k,X k→k<w.heap.size)
 (hiter:∀(l:Nat) (W:World) (J:List PTok→World→Prop) (JE:World→Prop),Below w.heap.size w W→(∀T W W',J T W→Gr (· =gm) W W'→J T W')→(∀W W',JE W→Gr (· =gm) W W'→JE W')→J [] W→
  (∀T (t:PTok) W',T.length≤65536→Gr X w W'→J T W'→YieldAt Fence.wide 7 Tryz.prog l #[.agg #[.int .u8 t.1,.string t.2.1,.int .i64 t.2.2],.int .i64 0] W' fun e W2=>e= .returned (.bool true)∧J (T++ [t]) W2∧Gr X w W2∧W2.heap[gm]?=W'.heap[gm]?)→
  (∀T (t:PTok) (c:Int) W',T.length≤65536→c≠0→Gr X w W'→J T W'→YieldAt Fence.wide 7 Tryz.prog l #[.agg #[.int .u8 t.1,.string t.2.1,.int .i64 t.2.2],.int .i64 c] W' fun e W2=>e= .returned (.bool false)∧JE W2)→
  CallsIn Fence.wide 8 Tryz.prog gf (#[.func (.yield l) #[] #[]]++lb) W fun e W'=>(∃v,e= .returned v)∧LexEnd s J JE W')
 (Post:List PTok→World→Prop) (PostE:World→Prop) (hPgr:∀T W W',Post T W→Gr (· =gm) W W'→Post T W') (hEgr:∀W W',PostE W→Gr (· =gm) W W'→PostE W')
 (hPput:∀T (l:Nat) W (o o':Obj),w.heap.size≤l→W.heap[l]?=some o→o.isCells=false→Post T W→Post T (W.putObj l o'))
 (hEput:∀(l:Nat) W (o o':Obj),w.heap.size≤l→W.heap[l]?=some o→o.isCells=false→PostE W→PostE (W.putObj l o'))
 (hP0:∀W,Below w.heap.size w W→Post [] W)
 (Ax:List PTok→PTok→Int→Act→World→Prop) (hAx:∀T t c (l:Nat) a' W (o o':Obj),w.heap.size≤l→W.heap[l]?=some o→o.isCells=false→Ax T t c a' W→Ax T t c a' (W.putObj l o'))
 (hassign:∀(l:Nat) T (t:PTok) (c:Int) (W:World) (K:Act→World→Prop),T.length≤65536→w.heap.size+2≤W.heap.size→Gr X w W→Post T W→
  (∀a' W',KeepsFrom w.heap.size W W'→Gr X W W'→W'.heap[gm]?=W.heap[gm]?→Ax T t c a' W'→K a' W')→
  assign.wpIn (Fence.wide.inRound l) 7 Tryz.prog (Exit.then K (fun _ _ _=>False)) {tmps:=(ps.zip #[.agg #[.int .u8 t.1,.string t.2.1,.int .i64 t.2.2],.int .i64 c]).foldl (fun t (p,v)=>t.setIfInBounds p v) a.tmps,defers:= []} W)
 (hbody:∀(l:Nat) T (t:PTok) (c:Int) (a':Act) (W:World),Gr X w W→Ax T t c a' W→body.wpIn (Fence.wide.inRound l) 7 Tryz.prog (fun e a3 W3=>KeepsFrom w.heap.size W W3∧((c=0∧e= .normal∧Gr X w W3∧W3.heap[gm]?=W.heap[gm]?∧Post (T++ [t]) W3)∨(c≠0∧e= .ret∧PostE W3))) a' W)
 (hdone:∀(D:Nat) (W3:World) T,w.heap.size≤D→lexV s=some T→Post T W3→W3.heap[D]?=some (.deferred (some []))→Q .normal {a with defers:={target:= .collected D,args:= #[]} :: a.defers} W3)
 (hret:∀(D:Nat) (W3:World),w.heap.size≤D→lexV s=none→PostE W3→W3.heap[D]?=some (.deferred (some []))→Q .ret {a with defers:={target:= .collected D,args:= #[]} :: a.defers} W3):
 (Code.rangeFunc g ps assign body).wpIn Fence.wide 9 Tryz.prog Q a w:=by
 refine wpIn_rangeFunc ?_;intro fn hfn;obtain⟨rec,hrec⟩:∃rec:LoopState→Option Code→Loop,rec=fun st pe=>{state:=st,pending:=pe,fn,tmps:=a.tmps,params:=ps,assign,body,defers:=w.heap.size}:=⟨_,rfl⟩
 obtain⟨W1,hW1⟩:∃W1,W1=(w.alloc (.deferred (some []))).alloc (.loop (rec .ready none)):=⟨_,rfl⟩;have hl1:W1.heap[w.heap.size+1]?=some (.loop (rec .ready none)):=by
  rw[hW1];have:=World.alloc_heap_new (w.alloc (.deferred (some []))) (.loop (rec .ready none));rwa[World.size_alloc]at this
 have hd1:W1.heap[w.heap.size]?=some (.deferred (some [])):=by
  rw[hW1];exact(Below.heap_alloc _ _ _ (by simp)).trans (World.alloc_heap_new w _)
 have hb1:Below w.heap.size w W1:=by rw[hW1];exact((Below.refl _ w).alloc (Nat.le_refl _) _).alloc (by simp) _
 have hz1:W1.heap.size=w.heap.size+2:=by rw[hW1];simp
 refine⟨w.heap.size+1,[{target:= .collected w.heap.size,args:= #[]}],W1,{target:= .fn (.func gf) lb,args:= #[.func (.yield (w.heap.size+1)) #[] #[]]},W1,gf,#[.func (.yield (w.heap.size+1)) #[] #[]]++lb,W1,?_,?_,?_,?_,fun _=>by omega,?_⟩
 ·rw[hW1,hrec];exact run_enterLoop_outer _ _ _ _ _
 ·simp only[resolve,hg];simp[go_sem]
 ·intro f' hf';simp[Target.leads]at hf';subst hf';trivial
 ·simp[invoke,go_sem,eg]
 have hgr:∀W (o:Obj) l,w.heap.size≤l→Gr X w W→Gr X w (W.putObj l o):=fun W o l hl h=>
  ⟨h.os,h.tape,h.output,by simpa using h.size,fun k hk hn=>(World.putObj_heap_other (by omega)).trans (h.block k hk hn)⟩
 have hround:∀T (t:PTok) (c:Int) W,T.length≤65536→Gr X w W→Post T W→W.heap[w.heap.size+1]?=some (.loop (rec .ready none))→W.heap[w.heap.size]?=some (.deferred (some []))→
  YieldAt Fence.wide 7 Tryz.prog (w.heap.size+1) #[.agg #[.int .u8 t.1,.string t.2.1,.int .i64 t.2.2],.int .i64 c] W fun e W2=>
   (c=0∧e= .returned (.bool true)∧Gr X w W2∧W2.heap[gm]?=W.heap[gm]?∧Post (T++ [t]) W2∧W2.heap[w.heap.size+1]?=some (.loop (rec .ready none))∧W2.heap[w.heap.size]?=some (.deferred (some [])))∨
   (c≠0∧e= .returned (.bool false)∧PostE W2∧W2.heap[w.heap.size+1]?=some (.loop (rec .done (some .ret)))∧W2.heap[w.heap.size]?=some (.deferred (some []))):=by
  intro T t c W hTl hG hP hl hk;have hy:=run_yield (P:=Tryz.prog) (args:= #[.agg #[.int .u8 t.1,.string t.2.1,.int .i64 t.2.2],.int .i64 c]) hl (by rw[hrec];exact hps);rw[hrec]at hy;have hsz:w.heap.size+2≤W.heap.size:=by
   have:=(Array.getElem?_eq_some_iff.1 hl).1;omega
  refine⟨fn,_,assign,body,hy,roundIn_of_wpIn hfn (hassign _ T t c W _ hTl hsz hG hP ?_)⟩;intro a' Wa hkf hga hsame hax;have hla:=hkf.same _ _ (by omega) hl rfl;have hka:=hkf.same _ _ (Nat.le_refl _) hk rfl;have hlt:w.heap.size+1<Wa.heap.size:=(Array.getElem?_eq_some_iff.1 hla).1;refine⟨_,run_beginRound hla (by rw[hrec]),?_⟩;have hl2:(Wa.putObj (w.heap.size+1) (.loop {rec .ready none with state:= .busy})).heap[w.heap.size+1]?=some (.loop {rec .ready none with state:= .busy}):=World.putObj_heap_same hlt;have hk2:(Wa.putObj (w.heap.size+1) (.loop {rec .ready none with state:= .busy})).heap[w.heap.size]?=some (.deferred (some [])):=(World.putObj_heap_other (by omega)).trans hka;refine wpIn_mono (hbody _ T t c a' _ (hgr _ _ _ (by omega) (hG.trans hga)) (hAx _ _ _ _ _ _ _ _ (by omega) hla rfl hax)) ?_;rintro e a3 W3 ⟨hk3,hpost⟩;have hl3:=hk3.same _ _ (by omega) hl2 rfl;have hkk3:=hk3.same _ _ (Nat.le_refl _) hk2 rfl;have hlt3:w.heap.size+1<W3.heap.size:=(Array.getElem?_eq_some_iff.1 hl3).1;rcases hpost with⟨hc,rfl,hX3,hs3,hp3⟩ | ⟨hc,rfl,hp3⟩
  ·have hr:=run_endRound (P:=Tryz.prog) none hl3
   refine⟨_,_,hr,.inl ⟨hc,rfl,hgr _ _ _ (by omega) hX3,?_,hPput _ _ _ _ _ (by omega) hl3 rfl hp3,?_,(World.putObj_heap_other (by omega)).trans hkk3⟩⟩
   ·exact(World.putObj_heap_other (by omega)).trans (hs3.trans ((World.putObj_heap_other (by omega)).trans hsame))
   ·refine(World.putObj_heap_same hlt3).trans ?_
    rw[hrec];rfl
  ·have hr:=run_endRound (P:=Tryz.prog) (some .ret) hl3
   refine⟨_,_,hr,.inr ⟨hc,rfl,hEput _ _ _ _ (by omega) hl3 rfl hp3,?_,(World.putObj_heap_other (by omega)).trans hkk3⟩⟩;refine(World.putObj_heap_same hlt3).trans ?_;rw[hrec];rfl
 have hst:∀W W' (o o':Obj),W.heap[w.heap.size+1]?=some o→W.heap[w.heap.size]?=some o'→Gr (· =gm) W W'→W'.heap[w.heap.size+1]?=some o∧W'.heap[w.heap.size]?=some o':=fun W W' o o' h1 h2 hG=>
  ⟨(hG.block _ (Array.getElem?_eq_some_iff.1 h1).1 (by omega)).trans h1,(hG.block _ (Array.getElem?_eq_some_iff.1 h2).1 (by omega)).trans h2⟩
 refine(hiter (w.heap.size+1) W1 (fun T W=>Post T W∧W.heap[w.heap.size+1]?=some (.loop (rec .ready none))∧W.heap[w.heap.size]?=some (.deferred (some [])))
  (fun W=>PostE W∧W.heap[w.heap.size+1]?=some (.loop (rec .done (some .ret)))∧W.heap[w.heap.size]?=some (.deferred (some []))) hb1
  (fun T W W' h hG=>⟨hPgr _ _ _ h.1 hG,hst _ _ _ _ h.2.1 h.2.2 hG⟩) (fun W W' h hG=>⟨hEgr _ _ h.1 hG,hst _ _ _ _ h.2.1 h.2.2 hG⟩) ⟨hP0 _ hb1,hl1,hd1⟩ ?_ ?_).mono ?_
 ·intro T t W' hTl hG hJ
  obtain⟨f,tm,as_,bo,hy,hR⟩:=hround T t 0 W' hTl hG hJ.1 hJ.2.1 hJ.2.2;refine⟨f,tm,as_,bo,hy,hR.mono ?_⟩;rintro e W2 (⟨-,rfl,h1,h2,h3,h4,h5⟩ | ⟨hc,-⟩)
  ·exact⟨rfl,⟨h3,h4,h5⟩,h1,h2⟩
  ·exact absurd rfl hc
 ·intro T t c W' hTl hc hG hJ
  obtain⟨f,tm,as_,bo,hy,hR⟩:=hround T t c W' hTl hG hJ.1 hJ.2.1 hJ.2.2;refine⟨f,tm,as_,bo,hy,hR.mono ?_⟩;rintro e W2 (⟨h0,-⟩ | ⟨-,rfl,h1,h2,h3⟩)
  ·exact absurd h0 hc
  ·exact⟨rfl,h1,h2,h3⟩
 ·rintro e W3 ⟨⟨v,rfl⟩,hend⟩
  unfold LexEnd at hend
  cases hlx:lexV s with
  | some T=>
   rw[hlx]at hend;obtain⟨hP,hl3,hk3⟩:=hend;have hr:=run_endLoop (P:=Tryz.prog) hl3 (by rw[hrec];simp);rw[show(rec .ready none).pending=none by rw[hrec]]at hr;refine⟨none,_,hr,?_⟩;exact hdone _ _ T (Nat.le_refl _) hlx (hPput _ _ _ _ _ (by omega) hl3 rfl hP) ((World.putObj_heap_other (by omega)).trans hk3)
  | none=>
   rw[hlx]at hend;obtain⟨hP,hl3,hk3⟩:=hend;have hr:=run_endLoop (P:=Tryz.prog) hl3 (by rw[hrec];simp);rw[show(rec .done (some .ret)).pending=some .ret by rw[hrec]]at hr;refine⟨some .ret,_,hr,?_⟩;exact wpIn_ret (hret _ _ (Nat.le_refl _) hlx (hEput _ _ _ _ (by omega) hl3 rfl hP) ((World.putObj_heap_other (by omega)).trans hk3))
theorem any_not{α:Type}(p:α→Bool)(l:List α):(l.any fun x=> !p x)= !(l.all p):=by
 induction l with
 | nil=>rfl
 | cons x l ih=>simp only[List.any_cons,List.all_cons,ih,Bool.not_and]
theorem not250(g:Nat)(lb:Array Value)(eg:∀args w,(callFunc g args).run Tryz.prog w= .ok (.enter g args) w)(Bx:Nat)(b:Bool)(x:CsV)(W:World)(hb:Blk W Bx 112 #[.func (.func g) #[] lb])
 (hcall:∀W',Below W.heap.size W W'→CU g (#[x.val]++lb) W' (.bool b)):
 CU 219 #[x.val,.pointer (some ⟨Bx,0,none⟩)] W (.bool (!b)):=by
 have hc:=hcall (W.alloc (.cells #[.string x.c.unit,.slice x.n.a x.n.n x.n.c,.slice x.x.a x.x.n x.x.c] 48)) ((Below.refl _ W).alloc (Nat.le_refl _) _);have c0:(W.alloc (.cells #[.string x.c.unit,.slice x.n.a x.n.n x.n.c,.slice x.x.a x.x.n x.x.c] 48)).cell? ⟨Bx,0,none⟩=some (.func (.func g) #[] lb):=(hb.alloc _).cell 0;dsimp only[CsV.val]at hc;have Hc:=lz hc;have hlt:=hb.lt;clear hcall hb hc;go_enter Tryz.func219,Tryz.ntmps219;go_wp2_with (go_at_fn g;refine Hc.out.mono ?_;rintro e w' ⟨rfl,hb'⟩);go_ret;exact⟨rfl,((Below.refl _ W).alloc (Nat.le_refl _) (.cells #[.string x.c.unit,.slice x.n.a x.n.n x.n.c,.slice x.x.a x.x.n x.x.c] 48)).trans (hb'.mono (by simp))⟩
theorem all_162(g:Nat)(lb:Array Value)(p:CsV→Bool)(eg:∀args w,(callFunc g args).run Tryz.prog w= .ok (.enter g args) w)(l:List CsV)(A:Option Addr)(c:Nat)(w:World)
 (hp:PredCs g lb p l w) (h:RdCs w w.heap.size A l) (hl:l.length≤9223372036854775807):
 CU 131 #[.slice A l.length c,.func (.func g) #[] lb] w (.bool (l.all p)):=by
 have h1:=Blk.new w 112 #[.func (.func g) #[] lb];have hB1:Below w.heap.size w (w.alloc (.cells #[.func (.func g) #[] lb] 112)):=(Below.refl _ w).alloc (Nat.le_refl _) _;have hcon:=containsCs126 219 #[.pointer (some ⟨w.heap.size,0,none⟩)] (fun x=> !p x) (enters_of Tryz.func219 kz rfl) l A c (w.alloc (.cells #[.func (.func g) #[] lb] 112))
  (fun W x hx hW hrd=>not250 g lb eg _ (p x) x W (h1.below hW h1.lt) fun W' hW'=>hp W' x hx (hB1.trans ((hW.mono hB1.size).trans (hW'.mono (Nat.le_trans hB1.size hW.size)))) (hrd.below hW')) (h.below hB1) hl
 rw[any_not]at hcon;have Hcon:=lz hcon;generalize l.all p=q at *;clear h1 hB1 hcon hp h;go_enter Tryz.func131,Tryz.ntmps131;go_wp2_with fail;refine Hcon.out.mono ?_;rintro e w1 ⟨rfl,hb1⟩;have HB:=lz (((Below.refl _ w).alloc (Nat.le_refl _) (.cells #[.func (.func g) #[] lb] 112)).trans (hb1.mono (by simp)));clear Hcon hb1;go_wp2;go_ret;exact⟨by cases q<;>rfl,HB.out⟩
theorem not182(g:Nat)(lb:Array Value)(eg:∀args w,(callFunc g args).run Tryz.prog w= .ok (.enter g args) w)(Bx:Nat)(b:Bool)(x:CsV)(W:World)(hb:Blk W Bx 112 #[.func (.func g) #[] lb])
 (hcall:∀W',Below W.heap.size W W'→CU g (#[x.val]++lb) W' (.bool b)):
 CU 151 #[x.val,.pointer (some ⟨Bx,0,none⟩)] W (.bool (!b)):=by
 have hc:=hcall (W.alloc (.cells #[.string x.c.unit,.slice x.n.a x.n.n x.n.c,.slice x.x.a x.x.n x.x.c] 48)) ((Below.refl _ W).alloc (Nat.le_refl _) _);have c0:(W.alloc (.cells #[.string x.c.unit,.slice x.n.a x.n.n x.n.c,.slice x.x.a x.x.n x.x.c] 48)).cell? ⟨Bx,0,none⟩=some (.func (.func g) #[] lb):=(hb.alloc _).cell 0;dsimp only[CsV.val]at hc;have Hc:=lz hc;have hlt:=hb.lt;clear hcall hb hc;go_enter Tryz.func151,Tryz.ntmps151;go_wp2_with (go_at_fn g;refine Hc.out.mono ?_;rintro e w' ⟨rfl,hb'⟩);go_ret;exact⟨rfl,((Below.refl _ W).alloc (Nat.le_refl _) (.cells #[.string x.c.unit,.slice x.n.a x.n.n x.n.c,.slice x.x.a x.x.n x.x.c] 48)).trans (hb'.mono (by simp))⟩
theorem all_95(g:Nat)(lb:Array Value)(p:CsV→Bool)(eg:∀args w,(callFunc g args).run Tryz.prog w= .ok (.enter g args) w)(l:List CsV)(A:Option Addr)(c:Nat)(w:World)
 (hp:PredCs g lb p l w) (h:RdCs w w.heap.size A l) (hl:l.length≤9223372036854775807):
 CU 64 #[.slice A l.length c,.func (.func g) #[] lb] w (.bool (l.all p)):=by
 have h1:=Blk.new w 112 #[.func (.func g) #[] lb];have hB1:Below w.heap.size w (w.alloc (.cells #[.func (.func g) #[] lb] 112)):=(Below.refl _ w).alloc (Nat.le_refl _) _;have hcon:=containsCs126 151 #[.pointer (some ⟨w.heap.size,0,none⟩)] (fun x=> !p x) (enters_of Tryz.func151 kz rfl) l A c (w.alloc (.cells #[.func (.func g) #[] lb] 112))
  (fun W x hx hW hrd=>not182 g lb eg _ (p x) x W (h1.below hW h1.lt) fun W' hW'=>hp W' x hx (hB1.trans ((hW.mono hB1.size).trans (hW'.mono (Nat.le_trans hB1.size hW.size)))) (hrd.below hW')) (h.below hB1) hl
 rw[any_not]at hcon;have Hcon:=lz hcon;generalize l.all p=q at *;clear h1 hB1 hcon hp h;go_enter Tryz.func64,Tryz.ntmps64;go_wp2_with fail;refine Hcon.out.mono ?_;rintro e w1 ⟨rfl,hb1⟩;have HB:=lz (((Below.refl _ w).alloc (Nat.le_refl _) (.cells #[.func (.func g) #[] lb] 112)).trans (hb1.mono (by simp)));clear Hcon hb1;go_wp2;go_ret;exact⟨by cases q<;>rfl,HB.out⟩
theorem not293(g:Nat)(lb:Array Value)(eg:∀args w,(callFunc g args).run Tryz.prog w= .ok (.enter g args) w)(Bx:Nat)(b:Bool)(x:Rep)(W:World)(hb:Blk W Bx 138 #[.func (.func g) #[] lb])
 (hcall:∀W',Below W.heap.size W W'→CU g (#[x.val]++lb) W' (.bool b)):
 CU 265 #[x.val,.pointer (some ⟨Bx,0,none⟩)] W (.bool (!b)):=by
 have hc:=hcall (W.alloc (.cells #[.string x.unit,.int .i64 x.code] 41)) ((Below.refl _ W).alloc (Nat.le_refl _) _);have c0:(W.alloc (.cells #[.string x.unit,.int .i64 x.code] 41)).cell? ⟨Bx,0,none⟩=some (.func (.func g) #[] lb):=(hb.alloc _).cell 0;dsimp only[Rep.val]at hc;have Hc:=lz hc;have hlt:=hb.lt;clear hcall hb hc;go_enter Tryz.func265,Tryz.ntmps265;go_wp2_with (go_at_fn g;refine Hc.out.mono ?_;rintro e w' ⟨rfl,hb'⟩);go_ret;exact⟨rfl,((Below.refl _ W).alloc (Nat.le_refl _) (.cells #[.string x.unit,.int .i64 x.code] 41)).trans (hb'.mono (by simp))⟩
theorem all_251(g:Nat)(lb:Array Value)(p:Rep→Bool)(eg:∀args w,(callFunc g args).run Tryz.prog w= .ok (.enter g args) w)(l:List Rep)(A:Option Addr)(c:Nat)(w:World)
 (hp:PredRep g lb p l w) (h:RdRep w w.heap.size A l) (hl:l.length≤9223372036854775807):
 CU 220 #[.slice A l.length c,.func (.func g) #[] lb] w (.bool (l.all p)):=by
 have h1:=Blk.new w 138 #[.func (.func g) #[] lb];have hB1:Below w.heap.size w (w.alloc (.cells #[.func (.func g) #[] lb] 138)):=(Below.refl _ w).alloc (Nat.le_refl _) _;have hcon:=containsRep47 265 #[.pointer (some ⟨w.heap.size,0,none⟩)] (fun x=> !p x) (enters_of Tryz.func265 kz rfl) l A c (w.alloc (.cells #[.func (.func g) #[] lb] 138))
  (fun W x hx hW=>not293 g lb eg _ (p x) x W (h1.below hW h1.lt) fun W' hW'=>hp W' x hx (hB1.trans ((hW.mono hB1.size).trans (hW'.mono (Nat.le_trans hB1.size hW.size))))) (h.below hB1) hl
 rw[any_not]at hcon;have Hcon:=lz hcon;generalize l.all p=q at *;clear h1 hB1 hcon hp h;go_enter Tryz.func220,Tryz.ntmps220;go_wp2_with fail;refine Hcon.out.mono ?_;rintro e w1 ⟨rfl,hb1⟩;have HB:=lz (((Below.refl _ w).alloc (Nat.le_refl _) (.cells #[.func (.func g) #[] lb] 138)).trans (hb1.mono (by simp)));clear Hcon hb1;go_wp2;go_ret;exact⟨by cases q<;>rfl,HB.out⟩
theorem not174(g:Nat)(lb:Array Value)(eg:∀args w,(callFunc g args).run Tryz.prog w= .ok (.enter g args) w)(Bx:Nat)(b:Bool)(x:Rep)(W:World)(hb:Blk W Bx 138 #[.func (.func g) #[] lb])
 (hcall:∀W',Below W.heap.size W W'→CU g (#[x.val]++lb) W' (.bool b)):
 CU 143 #[x.val,.pointer (some ⟨Bx,0,none⟩)] W (.bool (!b)):=by
 have hc:=hcall (W.alloc (.cells #[.string x.unit,.int .i64 x.code] 41)) ((Below.refl _ W).alloc (Nat.le_refl _) _);have c0:(W.alloc (.cells #[.string x.unit,.int .i64 x.code] 41)).cell? ⟨Bx,0,none⟩=some (.func (.func g) #[] lb):=(hb.alloc _).cell 0;dsimp only[Rep.val]at hc;have Hc:=lz hc;have hlt:=hb.lt;clear hcall hb hc;go_enter Tryz.func143,Tryz.ntmps143;go_wp2_with (go_at_fn g;refine Hc.out.mono ?_;rintro e w' ⟨rfl,hb'⟩);go_ret;exact⟨rfl,((Below.refl _ W).alloc (Nat.le_refl _) (.cells #[.string x.unit,.int .i64 x.code] 41)).trans (hb'.mono (by simp))⟩
theorem all_90(g:Nat)(lb:Array Value)(p:Rep→Bool)(eg:∀args w,(callFunc g args).run Tryz.prog w= .ok (.enter g args) w)(l:List Rep)(A:Option Addr)(c:Nat)(w:World)
 (hp:PredRep g lb p l w) (h:RdRep w w.heap.size A l) (hl:l.length≤9223372036854775807):
 CU 59 #[.slice A l.length c,.func (.func g) #[] lb] w (.bool (l.all p)):=by
 have h1:=Blk.new w 138 #[.func (.func g) #[] lb];have hB1:Below w.heap.size w (w.alloc (.cells #[.func (.func g) #[] lb] 138)):=(Below.refl _ w).alloc (Nat.le_refl _) _;have hcon:=containsRep47 143 #[.pointer (some ⟨w.heap.size,0,none⟩)] (fun x=> !p x) (enters_of Tryz.func143 kz rfl) l A c (w.alloc (.cells #[.func (.func g) #[] lb] 138))
  (fun W x hx hW=>not174 g lb eg _ (p x) x W (h1.below hW h1.lt) fun W' hW'=>hp W' x hx (hB1.trans ((hW.mono hB1.size).trans (hW'.mono (Nat.le_trans hB1.size hW.size))))) (h.below hB1) hl
 rw[any_not]at hcon;have Hcon:=lz hcon;generalize l.all p=q at *;clear h1 hB1 hcon hp h;go_enter Tryz.func59,Tryz.ntmps59;go_wp2_with fail;refine Hcon.out.mono ?_;rintro e w1 ⟨rfl,hb1⟩;have HB:=lz (((Below.refl _ w).alloc (Nat.le_refl _) (.cells #[.func (.func g) #[] lb] 138)).trans (hb1.mono (by simp)));clear Hcon hb1;go_wp2;go_ret;exact⟨by cases q<;>rfl,HB.out⟩
theorem not212(g:Nat)(lb:Array Value)(eg:∀args w,(callFunc g args).run Tryz.prog w= .ok (.enter g args) w)(Bx:Nat)(b:Bool)(x:ByteArray)(W:World)(hb:Blk W Bx 185 #[.func (.func g) #[] lb])
 (hcall:∀W',Below W.heap.size W W'→CU g (#[.string x]++lb) W' (.bool b)):
 CU 181 #[.string x,.pointer (some ⟨Bx,0,none⟩)] W (.bool (!b)):=by
 have Hc:=lz (hcall W (Below.refl _ W));have c0:=hb.cell 0;have hlt:=hb.lt;clear hcall hb;go_enter Tryz.func181,Tryz.ntmps181;go_wp2_with (go_at_fn g;refine Hc.out.mono ?_;rintro e w' ⟨rfl,hb'⟩);go_ret;exact⟨rfl,hb'⟩
theorem all_132(g:Nat)(lb:Array Value)(p:ByteArray→Bool)(eg:∀args w,(callFunc g args).run Tryz.prog w= .ok (.enter g args) w)(l:List ByteArray)(A:Option Addr)(c:Nat)(w:World)
 (hp:PredStr g lb p l w) (h:RdStr w w.heap.size A l) (hl:l.length≤9223372036854775807):
 CU 101 #[.slice A l.length c,.func (.func g) #[] lb] w (.bool (l.all p)):=by
 have h1:=Blk.new w 185 #[.func (.func g) #[] lb];have hB1:Below w.heap.size w (w.alloc (.cells #[.func (.func g) #[] lb] 185)):=(Below.refl _ w).alloc (Nat.le_refl _) _;have hcon:=containsStr48 181 #[.pointer (some ⟨w.heap.size,0,none⟩)] (fun x=> !p x) (enters_of Tryz.func181 kz rfl) l A c (w.alloc (.cells #[.func (.func g) #[] lb] 185))
  (fun W x hx hW=>not212 g lb eg _ (p x) x W (h1.below hW h1.lt) fun W' hW'=>hp W' x hx (hB1.trans ((hW.mono hB1.size).trans (hW'.mono (Nat.le_trans hB1.size hW.size))))) (h.below hB1) hl
 rw[any_not]at hcon;have Hcon:=lz hcon;generalize l.all p=q at *;clear h1 hB1 hcon hp h;go_enter Tryz.func101,Tryz.ntmps101;go_wp2_with fail;refine Hcon.out.mono ?_;rintro e w1 ⟨rfl,hb1⟩;have HB:=lz (((Below.refl _ w).alloc (Nat.le_refl _) (.cells #[.func (.func g) #[] lb] 185)).trans (hb1.mono (by simp)));clear Hcon hb1;go_wp2;go_ret;exact⟨by cases q<;>rfl,HB.out⟩
def RdInt(w:World)(B:Nat)(A:Option Addr)(l:List Int):Prop:=
 0<l.length→∃b o,A=some ⟨b,o,none⟩∧b<B∧∀i (h:i<l.length),w.cell? ⟨b,o+i,none⟩=some (.int .i64 l[i])
def PredInt(g:Nat)(lb:Array Value)(p:Int→Bool)(l:List Int)(w:World):Prop:=
 ∀(W:World) (r:Int),r∈l→Below w.heap.size w W→CU g (#[.int .i64 r]++lb) W (.bool (p r))
theorem RdInt.keep{w w':World}{B:Nat}{A:Option Addr}{l:List Int}(h:RdInt w B A l)(hb:Below B w w'):RdInt w' B A l:=fun hn=>by
 obtain⟨b,o,rfl,hbB,hc⟩:=h hn;exact⟨b,o,rfl,hbB,fun i hi=>(hb.cell (p:=⟨b,o+i,none⟩) hbB).trans (hc i hi)⟩
theorem index254(g:Nat)(lb:Array Value)(p:Int→Bool)(eg:∀args w,(callFunc g args).run Tryz.prog w= .ok (.enter g args) w)(l:List Int)(A:Option Addr)(c:Nat)(w:World)
 (hp:PredInt g lb p l w) (h:RdInt w w.heap.size A l) (hl:l.length≤9223372036854775807):
 CU 223 #[.slice A l.length c,.func (.func g) #[] lb] w (.int .i64 (idxI p l)):=by
 go_enter Tryz.func223,Tryz.ntmps223;go_wp2;go_loopw [5,8] (fun _ i wr=>∃k:Nat,k≤l.length∧i= .int .i64 k∧Below w.heap.size w wr∧Hid (∀j (h:j<l.length),j<k→p l[j]=false)) (fun _ i _=>l.length-(intOf i).toNat)
 case atStart=>exact⟨0,Nat.zero_le _,rfl,Below.refl _ _,fun j _ h=>absurd h (by omega)⟩
 case round=>
  obtain⟨k,hk,rfl,hB,hall⟩:=hrel;by_cases hlt:k<l.length
  ·obtain⟨b,o,rfl,hb,hc⟩:=h.keep hB (by omega)
   have hck:=hc k hlt;have hcall:=hp wr l[k] (List.getElem_mem hlt) hB;clear hc hp h;have hs:=hB.size;have hfin:p l[k]=true→idxI p l=k:=fun hq=>idxI_hit hlt hq hall.out
   have hnext:p l[k]=false→∀j (h:j<l.length),j<k+1→p l[j]=false:=fun hq=>forall_succ (p:=fun r=>p r=false) hall.out hq
   have Hfin:=lz hfin;have Hnext:=lz hnext;clear hfin hnext hall;generalize l[k]=r at hck hcall Hfin Hnext;have c0:=hck;clear hck
   cases hq:p r with
   | true=>
    have hfin:=lz (Hfin.out hq);rw[hq]at hcall;clear Hfin Hnext hq;go_wp2_with (go_at_fn g;refine hcall.mono ?_;rintro e w' ⟨rfl,hb'⟩);go_ret;exact⟨ret_int hfin.out.symm,hB.trans (hb'.mono hs)⟩
   | false=>
    have hnext:=lz (Hnext.out hq);rw[hq]at hcall;clear Hfin Hnext hq;go_wp2_with (go_at_fn g;refine hcall.mono ?_;rintro e w' ⟨rfl,hb'⟩);go_roundw
    case rel=>exact⟨k+1,by omega,by go_num,hB.trans (hb'.mono hs),hnext⟩
    case measure=>simp[intOf];omega
  ·go_wp2
   go_ret;exact⟨ret_int (idxI_miss fun j hj=>hall.out j hj (by omega)).symm,hB⟩
theorem contains166(g:Nat)(lb:Array Value)(p:Int→Bool)(eg:∀args w,(callFunc g args).run Tryz.prog w= .ok (.enter g args) w)(l:List Int)(A:Option Addr)(c:Nat)(w:World)
 (hp:PredInt g lb p l w) (h:RdInt w w.heap.size A l) (hl:l.length≤9223372036854775807):
 CU 135 #[.slice A l.length c,.func (.func g) #[] lb] w (.bool (l.any p)):=by
 have hI:=index254 g lb p eg l A c w hp h hl;rw[←idxI_ge];generalize idxI p l=q at hI ⊢;clear h hp;go_enter Tryz.func135,Tryz.ntmps135;go_wp2_with fail;refine hI.mono ?_;rintro e w1 ⟨rfl,hb1⟩;clear hI;go_wp2;go_ret;exact⟨rfl,hb1⟩
end Go.Proofs.YtchfcgilpjkmhaaGreatDoor
