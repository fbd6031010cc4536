import Derived.Test.YtchfcgilpjkmhaaGreatDoorY1
import Derived.Test.YtchfcgilpjkmhaaGreatDoorY0
set_option maxRecDepth 100000
set_option linter.unusedSimpArgs false
set_option linter.unusedVariables false
set_option linter.unusedSectionVars false
namespace Go.Proofs.YtchfcgilpjkmhaaGreatDoor
open Go.ChangeShapes Go.WideShapes Go.ChangeAt Go.RowKit
def cntB{α:Type}[DecidableEq α](x:α)(l:List α):Nat:=l.count x
section
variable {κ:Type} [DecidableEq κ]
theorem cnt_push(x y:κ)(l:List κ):cntB x (l++ [y])=cntB x l+if x=y then 1 else 0:=by
 unfold cntB;rw[List.count_append];by_cases e:x=y
 ·subst e;simp
 ·simp[List.count_cons,e,Ne.symm e,show¬y=x from fun h=>e h.symm]
theorem cnt_pos(x:κ)(l:List κ):0<cntB x l↔x∈l:=List.count_pos_iff
theorem cnt_le(x:κ)(l:List κ):cntB x l≤l.length:=List.count_le_length
theorem cnt_gt(x:κ)(l:List κ):decide (0<cntB x l)=memB x l:=by
 unfold memB;rw[decide_eq_decide];exact cnt_pos x l
theorem cnt_eq0(x:κ)(l:List κ):((cntB x l:Int)==0)= !memB x l:=by
 rw[Bool.eq_iff_iff,Bool.not_eq_true',beq_iff_eq];have:=cnt_pos x l;constructor
 ·intro h
  exact memB_false fun hm=>by have:=this.2 hm;omega
 ·intro h
  have h2:¬0<cntB x l:=fun hp=>by rw[memB_iff.2 ((cnt_pos x l).1 hp)]at h;cases h
  omega
def CntMap(M:MKind κ)(w:World)(b:Nat)(l:List κ):Prop:=∃n,n≤l.length∧OnMap M w b n (l.foldl addU []) fun x=>(cntB x l:Int)
variable {M:MKind κ} {w w':World} {b:Nat} {l:List κ}
theorem CntMap.made(w:World):CntMap M (w.alloc (.map #[] 0)) w.heap.size []:=⟨0,Nat.le_refl _,OnMap.made w⟩
theorem CntMap.lt(h:CntMap M w b l):b<w.heap.size:=let ⟨_,_,h⟩:=h;h.lt
theorem CntMap.kept{row:Option Nat}(h:CntMap M w b l)(hg:w.grownBy w' row)(hne:some b≠row):CntMap M w' b l:=let ⟨n,h1,h2⟩:=h;⟨n,h1,h2.kept hg hne⟩
theorem CntMap.below{B:Nat}(h:CntMap M w b l)(hb:Below B w w')(hlt:b<B):CntMap M w' b l:=let ⟨n,h1,h2⟩:=h;⟨n,h1,h2.below hb hlt⟩
theorem CntMap.next(h:CntMap M w b l)(hb:Below w.heap.size w w'):CntMap M w' b l:=h.below hb h.lt
theorem CntMap.alloc(h:CntMap M w b l)(o:Obj):CntMap M (w.alloc o) b l:=let ⟨n,h1,h2⟩:=h;⟨n,h1,h2.alloc o⟩
theorem CntMap.drew(h:CntMap M w b l):CntMap M w.drew b l:=h
theorem CntMap.setCell(h:CntMap M w b l){a:Addr}(ha:b≠a.block)(u:Value):CntMap M (w.setCell a u) b l:=let ⟨n,h1,h2⟩:=h;⟨n,h1,h2.setCell ha u⟩
theorem CntMap.obj(h:CntMap M w b l):∃es clock,w.heap[b]?=some (.map es clock):=let ⟨_,_,h⟩:=h;h.obj
theorem CntMap.same(h:CntMap M w b l)(e:w'.heap[b]?=w.heap[b]?):CntMap M w' b l:=let ⟨n,h1,h2⟩:=h;⟨n,h1,h2.same e⟩
theorem CntMap.run_look(h:CntMap M w b l){y:κ}(hy:M.good y):(Instr.lookup M.t (.map (some b)) (M.vl y) false).run Tryz.prog w= .ok (.int .i64 (cntB y l)) w:=let ⟨_,_,h⟩:=h;h.run_look hy
theorem CntMap.run_len(h:CntMap M w b l)(ty:TypeId):(Builtin.len_ #[M.t] ty #[.map (some b)]).run Tryz.prog w= .ok (.int .i64 (l.foldl addU []).length) w:=let ⟨_,_,h⟩:=h;h.run_len ty
theorem CntMap.push_{n:Nat}{y:κ}(hn:n≤l.length)(h:OnMap M w b (n+1) (if y∈l.foldl addU []then l.foldl addU []else l.foldl addU []++ [y]) (setF (fun x=>(cntB x l:Int)) y ((cntB y l:Int)+1))):CntMap M w b (l++ [y]):=by
 refine⟨n+1,by simp;omega,?_⟩;rw[List.foldl_append];have e:(fun x=>(cntB x (l++ [y]):Int))=setF (fun x=>(cntB x l:Int)) y ((cntB y l:Int)+1):=by
  funext x;rw[cnt_push];unfold setF;by_cases e:x=y
  ·subst e;simp
  ·simp[e]
 rw[e];exact h
theorem CntMap.run_store(h:CntMap M w b l)(hl:l.length<maxLen){y:κ}(hy:M.good y):
 ∃w',(Instr.mapUpdate M.t (.map (some b)) (M.vl y) (.int .i64 ((cntB y l:Int)+1))).run Tryz.prog w= .ok () w'∧CntMap M w' b (l++ [y])∧w.grownBy w' (some b):=by
 obtain⟨n,h1,h2⟩:=h;have hc:=cnt_le y l;have hm:maxLen=9223372036854775807:=rfl;obtain⟨w',hr,r1,r2⟩:=h2.run_store (by omega) hy ((cntB y l:Int)+1) (WalkArith.wf_i64 (by omega));exact⟨w',hr,CntMap.push_ h1 r1,r2⟩
theorem wpList_cnt{ops:Array Oper}{rest:List Oper}{o:Oper}{a:Act}{Q:Exit→Act→World→Prop}(hg:o.guard=none)(m x:Operand)(hop:o.op=Op.lookup M.t m x false)
 (hm:a.eval m= .map (some b)) (h:CntMap M w b l) (y:κ) (hy:M.good y) (hx:a.eval x=M.vl y) (hK:wpList Tryz.prog ops Q rest (a.put o.dst (.int .i64 (cntB y l))) w):wpList Tryz.prog ops Q (o :: rest) a w:=
 let ⟨_,_,h⟩:=h;wpList_look hg m x hop hm h y hy hx hK
theorem wpList_push{ops:Array Oper}{rest:List Oper}{o:Oper}{a:Act}{Q:Exit→Act→World→Prop}(hg:o.guard=none)(m x u:Operand)(hop:o.op=Op.mapUpdate M.t m x u)
 (hm:a.eval m= .map (some b)) (h:CntMap M w b l) (hl:l.length<maxLen) (y:κ) (hy:M.good y) (hx:a.eval x=M.vl y) (hu:a.eval u= .int .i64 ((cntB y l:Int)+1))
 (hK:∀w',CntMap M w' b (l++ [y])→w.grownBy w' (some b)→wpList Tryz.prog ops Q rest (a.put o.dst undef) w'):wpList Tryz.prog ops Q (o :: rest) a w:=by
 refine wpList_plain hg fun K' hK'=> ?_
 obtain⟨w',hr,r1,r2⟩:=h.run_store hl hy;unfold Oper.wp;simp[execOp,hop,hm,hx,hu,hr,Result.andThen];exact hK' _ _ (hK w' r1 r2)
theorem wpListIn_cnt{F:Fence}{nF:Nat}{ops:Array Oper}{rest:List Oper}{o:Oper}{a:Act}{Q:Exit→Act→World→Prop}(hg:o.guard=none)(m x:Operand)(hop:o.op=Op.lookup M.t m x false)
 (hm:a.eval m= .map (some b)) (h:CntMap M w b l) (y:κ) (hy:M.good y) (hx:a.eval x=M.vl y) (hK:wpListIn F nF Tryz.prog ops Q rest (a.put o.dst (.int .i64 (cntB y l))) w):wpListIn F nF Tryz.prog ops Q (o :: rest) a w:=by
 refine wpListIn_plain hg fun K' hK'=> ?_
 unfold Oper.wpIn;refine⟨by simp[Oper.about,hop],?_⟩;rw[Oper.semAt_plain F _ _ (by rw[hop];intro c hc';cases hc')];simp[execOp,hop,hm,hx,h.run_look hy,Result.andThen];exact hK' _ _ hK
theorem wpListIn_push{F:Fence}{nF:Nat}{ops:Array Oper}{rest:List Oper}{o:Oper}{a:Act}{Q:Exit→Act→World→Prop}(hg:o.guard=none)(m x u:Operand)(hop:o.op=Op.mapUpdate M.t m x u)
 (hm:a.eval m= .map (some b)) (h:CntMap M w b l) (hl:l.length<maxLen) (y:κ) (hy:M.good y) (hx:a.eval x=M.vl y) (hu:a.eval u= .int .i64 ((cntB y l:Int)+1))
 (hK:∀w',CntMap M w' b (l++ [y])→w.grownBy w' (some b)→wpListIn F nF Tryz.prog ops Q rest (a.put o.dst undef) w'):wpListIn F nF Tryz.prog ops Q (o :: rest) a w:=by
 refine wpListIn_plain hg fun K' hK'=> ?_
 obtain⟨w',hr,r1,r2⟩:=h.run_store hl hy;unfold Oper.wpIn;refine⟨by simp[Oper.about,hop],?_⟩;rw[Oper.semAt_plain F _ _ (by rw[hop];intro c hc';cases hc')];simp[execOp,hop,hm,hx,hu,hr,Result.andThen];exact hK' _ _ (hK w' r1 r2)
end
theorem idxI_ge{α:Type}(p:α→Bool)(l:List α):decide (idxI p l≥0)=l.any p:=by
 rcases find_cases p l with⟨k,h,e,_,hp⟩ | ⟨e,hn⟩
 ·rw[e,List.any_eq_true.2 ⟨l[k],List.getElem_mem h,hp⟩];simp
 ·rw[e]
  have:l.any p=false:=by
   rw[List.any_eq_false];intro x hx;have:=List.find?_eq_none.1 hn x hx;simpa using this
  rw[this];rfl
def PredStr(g:Nat)(lb:Array Value)(p:ByteArray→Bool)(l:List ByteArray)(w:World):Prop:=
 ∀(W:World) (r:ByteArray),r∈l→Below w.heap.size w W→CU g (#[.string r]++lb) W (.bool (p r))
theorem indexStr71(g:Nat)(lb:Array Value)(p:ByteArray→Bool)(eg:∀args w,(callFunc g args).run Tryz.prog w= .ok (.enter g args) w)(l:List ByteArray)(A:Option Addr)(c:Nat)(w:World)
 (hp:PredStr g lb p l w) (h:RdStr w w.heap.size A l) (hl:l.length≤9223372036854775807):
 CU 188 #[.slice A l.length c,.func (.func g) #[] lb] w (.int .i64 (idxI p l)):=by
 go_enter Tryz.func188,Tryz.ntmps188;go_wp2;go_loopw [5,8] (fun _ i wr=>∃k:Nat,k≤l.length∧i= .int .i64 k∧Below w.heap.size w wr∧Hid (∀j (h:j<l.length),j<k→p l[j]=false)) (fun _ i _=>l.length-(intOf i).toNat)
 case atStart=>exact⟨0,Nat.zero_le _,rfl,Below.refl _ _,fun j _ h=>absurd h (by omega)⟩
 case round=>
  obtain⟨k,hk,rfl,hB,hall⟩:=hrel;by_cases hlt:k<l.length
  ·obtain⟨b,o,rfl,hb,hc⟩:=h.keep hB (by omega)
   have hck:=hc k hlt;have hcall:=hp wr l[k] (List.getElem_mem hlt) hB;clear hc hp h;have hs:=hB.size;have hfin:p l[k]=true→idxI p l=k:=fun hq=>idxI_hit hlt hq hall.out
   have hnext:p l[k]=false→∀j (h:j<l.length),j<k+1→p l[j]=false:=fun hq=>forall_succ (p:=fun r=>p r=false) hall.out hq
   have Hfin:=lz hfin;have Hnext:=lz hnext;clear hfin hnext hall;generalize l[k]=r at hck hcall Hfin Hnext;have c0:=hck;clear hck
   cases hq:p r with
   | true=>
    have hfin:=lz (Hfin.out hq);rw[hq]at hcall;clear Hfin Hnext hq;go_wp2_with (go_at_fn g;refine hcall.mono ?_;rintro e w' ⟨rfl,hb'⟩);go_ret;exact⟨ret_int hfin.out.symm,hB.trans (hb'.mono hs)⟩
   | false=>
    have hnext:=lz (Hnext.out hq);rw[hq]at hcall;clear Hfin Hnext hq;go_wp2_with (go_at_fn g;refine hcall.mono ?_;rintro e w' ⟨rfl,hb'⟩);go_roundw
    case rel=>exact⟨k+1,by omega,by go_num,hB.trans (hb'.mono hs),hnext⟩
    case measure=>simp[intOf];omega
  ·go_wp2
   go_ret;exact⟨ret_int (idxI_miss fun j hj=>hall.out j hj (by omega)).symm,hB⟩
theorem containsStr48(g:Nat)(lb:Array Value)(p:ByteArray→Bool)(eg:∀args w,(callFunc g args).run Tryz.prog w= .ok (.enter g args) w)(l:List ByteArray)(A:Option Addr)(c:Nat)(w:World)
 (hp:PredStr g lb p l w) (h:RdStr w w.heap.size A l) (hl:l.length≤9223372036854775807):
 CU 115 #[.slice A l.length c,.func (.func g) #[] lb] w (.bool (l.any p)):=by
 have hI:=indexStr71 g lb p eg l A c w hp h hl;rw[←idxI_ge];generalize idxI p l=q at hI ⊢;clear h hp;go_enter Tryz.func115,Tryz.ntmps115;go_wp2_with fail;refine hI.mono ?_;rintro e w1 ⟨rfl,hb1⟩;clear hI;go_wp2;go_ret;exact⟨rfl,hb1⟩
def PredRep(g:Nat)(lb:Array Value)(p:Rep→Bool)(l:List Rep)(w:World):Prop:=
 ∀(W:World) (r:Rep),r∈l→Below w.heap.size w W→CU g (#[r.val]++lb) W (.bool (p r))
theorem indexRep70(g:Nat)(lb:Array Value)(p:Rep→Bool)(eg:∀args w,(callFunc g args).run Tryz.prog w= .ok (.enter g args) w)(l:List Rep)(A:Option Addr)(c:Nat)(w:World)
 (hp:PredRep g lb p l w) (h:RdRep w w.heap.size A l) (hl:l.length≤9223372036854775807):
 CU 187 #[.slice A l.length c,.func (.func g) #[] lb] w (.int .i64 (idxI p l)):=by
 go_enter Tryz.func187,Tryz.ntmps187;go_wp2;go_loopw [5,8] (fun _ i wr=>∃k:Nat,k≤l.length∧i= .int .i64 k∧Below w.heap.size w wr∧Hid (∀j (h:j<l.length),j<k→p l[j]=false)) (fun _ i _=>l.length-(intOf i).toNat)
 case atStart=>exact⟨0,Nat.zero_le _,rfl,Below.refl _ _,fun j _ h=>absurd h (by omega)⟩
 case round=>
  obtain⟨k,hk,rfl,hB,hall⟩:=hrel;by_cases hlt:k<l.length
  ·obtain⟨b,o,rfl,hb,hc⟩:=h.keep hB (by omega)
   have hck:=hc k hlt;have hcall:=hp wr l[k] (List.getElem_mem hlt) hB;clear hc hp h;have hs:=hB.size;have hfin:p l[k]=true→idxI p l=k:=fun hq=>idxI_hit hlt hq hall.out
   have hnext:p l[k]=false→∀j (h:j<l.length),j<k+1→p l[j]=false:=fun hq=>forall_succ (p:=fun r=>p r=false) hall.out hq
   have Hfin:=lz hfin;have Hnext:=lz hnext;clear hfin hnext hall;generalize l[k]=r at hck hcall Hfin Hnext;obtain⟨c0,c1⟩:=hck
   cases hq:p r with
   | true=>
    have hfin:=lz (Hfin.out hq);rw[hq]at hcall;clear Hfin Hnext hq;go_wp2_with (go_at_fn g;refine hcall.mono ?_;rintro e w' ⟨rfl,hb'⟩);go_ret;exact⟨ret_int hfin.out.symm,hB.trans (hb'.mono hs)⟩
   | false=>
    have hnext:=lz (Hnext.out hq);rw[hq]at hcall;clear Hfin Hnext hq;go_wp2_with (go_at_fn g;refine hcall.mono ?_;rintro e w' ⟨rfl,hb'⟩);go_roundw
    case rel=>exact⟨k+1,by omega,by go_num,hB.trans (hb'.mono hs),hnext⟩
    case measure=>simp[intOf];omega
  ·go_wp2
   go_ret;exact⟨ret_int (idxI_miss fun j hj=>hall.out j hj (by omega)).symm,hB⟩
theorem containsRep47(g:Nat)(lb:Array Value)(p:Rep→Bool)(eg:∀args w,(callFunc g args).run Tryz.prog w= .ok (.enter g args) w)(l:List Rep)(A:Option Addr)(c:Nat)(w:World)
 (hp:PredRep g lb p l w) (h:RdRep w w.heap.size A l) (hl:l.length≤9223372036854775807):
 CU 114 #[.slice A l.length c,.func (.func g) #[] lb] w (.bool (l.any p)):=by
 have hI:=indexRep70 g lb p eg l A c w hp h hl;rw[←idxI_ge];generalize idxI p l=q at hI ⊢;clear h hp;go_enter Tryz.func114,Tryz.ntmps114;go_wp2_with fail;refine hI.mono ?_;rintro e w1 ⟨rfl,hb1⟩;clear hI;go_wp2;go_ret;exact⟨rfl,hb1⟩
def PredCs(g:Nat)(lb:Array Value)(p:CsV→Bool)(l:List CsV)(w:World):Prop:=
 ∀(W:World) (r:CsV),r∈l→Below w.heap.size w W→r.rd W W.heap.size→CU g (#[r.val]++lb) W (.bool (p r))
theorem indexCs56(g:Nat)(lb:Array Value)(p:CsV→Bool)(eg:∀args w,(callFunc g args).run Tryz.prog w= .ok (.enter g args) w)(l:List CsV)(A:Option Addr)(c:Nat)(w:World)
 (hp:PredCs g lb p l w) (h:RdCs w w.heap.size A l) (hl:l.length≤9223372036854775807):
 CU 103 #[.slice A l.length c,.func (.func g) #[] lb] w (.int .i64 (idxI p l)):=by
 go_enter Tryz.func103,Tryz.ntmps103;go_wp2;go_loopw [5,8] (fun _ i wr=>∃k:Nat,k≤l.length∧i= .int .i64 k∧Below w.heap.size w wr∧Hid (∀j (h:j<l.length),j<k→p l[j]=false)) (fun _ i _=>l.length-(intOf i).toNat)
 case atStart=>exact⟨0,Nat.zero_le _,rfl,Below.refl _ _,fun j _ h=>absurd h (by omega)⟩
 case round=>
  obtain⟨k,hk,rfl,hB,hall⟩:=hrel;by_cases hlt:k<l.length
  ·obtain⟨b,o,rfl,hb,hc⟩:=h.keep hB (by omega)
   have hck:=hc k hlt;have hcall:=hp wr l[k] (List.getElem_mem hlt) hB (hck.2.2.2.more (Nat.le_trans (Nat.le_refl _) hB.size));clear hc hp h;have hs:=hB.size;have hfin:p l[k]=true→idxI p l=k:=fun hq=>idxI_hit hlt hq hall.out
   have hnext:p l[k]=false→∀j (h:j<l.length),j<k+1→p l[j]=false:=fun hq=>forall_succ (p:=fun r=>p r=false) hall.out hq
   have Hfin:=lz hfin;have Hnext:=lz hnext;clear hfin hnext hall;generalize l[k]=r at hck hcall Hfin Hnext;obtain⟨c0,c1,c2,_⟩:=hck
   cases hq:p r with
   | true=>
    have hfin:=lz (Hfin.out hq);rw[hq]at hcall;clear Hfin Hnext hq;go_wp2_with (go_at_fn g;refine hcall.mono ?_;rintro e w' ⟨rfl,hb'⟩);go_ret;exact⟨ret_int hfin.out.symm,hB.trans (hb'.mono hs)⟩
   | false=>
    have hnext:=lz (Hnext.out hq);rw[hq]at hcall;clear Hfin Hnext hq;go_wp2_with (go_at_fn g;refine hcall.mono ?_;rintro e w' ⟨rfl,hb'⟩);go_roundw
    case rel=>exact⟨k+1,by omega,by go_num,hB.trans (hb'.mono hs),hnext⟩
    case measure=>simp[intOf];omega
  ·go_wp2
   go_ret;exact⟨ret_int (idxI_miss fun j hj=>hall.out j hj (by omega)).symm,hB⟩
theorem containsCs37(g:Nat)(lb:Array Value)(p:CsV→Bool)(eg:∀args w,(callFunc g args).run Tryz.prog w= .ok (.enter g args) w)(l:List CsV)(A:Option Addr)(c:Nat)(w:World)
 (hp:PredCs g lb p l w) (h:RdCs w w.heap.size A l) (hl:l.length≤9223372036854775807):
 CU 34 #[.slice A l.length c,.func (.func g) #[] lb] w (.bool (l.any p)):=by
 have hI:=indexCs56 g lb p eg l A c w hp h hl;rw[←idxI_ge];generalize idxI p l=q at hI ⊢;clear h hp;go_enter Tryz.func34,Tryz.ntmps34;go_wp2_with fail;refine hI.mono ?_;rintro e w1 ⟨rfl,hb1⟩;clear hI;go_wp2;go_ret;exact⟨rfl,hb1⟩
theorem indexCs211(g:Nat)(lb:Array Value)(p:CsV→Bool)(eg:∀args w,(callFunc g args).run Tryz.prog w= .ok (.enter g args) w)(l:List CsV)(A:Option Addr)(c:Nat)(w:World)
 (hp:PredCs g lb p l w) (h:RdCs w w.heap.size A l) (hl:l.length≤9223372036854775807):
 CU 180 #[.slice A l.length c,.func (.func g) #[] lb] w (.int .i64 (idxI p l)):=by
 go_enter Tryz.func180,Tryz.ntmps180;go_wp2;go_loopw [5,8] (fun _ i wr=>∃k:Nat,k≤l.length∧i= .int .i64 k∧Below w.heap.size w wr∧Hid (∀j (h:j<l.length),j<k→p l[j]=false)) (fun _ i _=>l.length-(intOf i).toNat)
 case atStart=>exact⟨0,Nat.zero_le _,rfl,Below.refl _ _,fun j _ h=>absurd h (by omega)⟩
 case round=>
  obtain⟨k,hk,rfl,hB,hall⟩:=hrel;by_cases hlt:k<l.length
  ·obtain⟨b,o,rfl,hb,hc⟩:=h.keep hB (by omega)
   have hck:=hc k hlt;have hcall:=hp wr l[k] (List.getElem_mem hlt) hB (hck.2.2.2.more (Nat.le_trans (Nat.le_refl _) hB.size));clear hc hp h;have hs:=hB.size;have hfin:p l[k]=true→idxI p l=k:=fun hq=>idxI_hit hlt hq hall.out
   have hnext:p l[k]=false→∀j (h:j<l.length),j<k+1→p l[j]=false:=fun hq=>forall_succ (p:=fun r=>p r=false) hall.out hq
   have Hfin:=lz hfin;have Hnext:=lz hnext;clear hfin hnext hall;generalize l[k]=r at hck hcall Hfin Hnext;obtain⟨c0,c1,c2,_⟩:=hck
   cases hq:p r with
   | true=>
    have hfin:=lz (Hfin.out hq);rw[hq]at hcall;clear Hfin Hnext hq;go_wp2_with (go_at_fn g;refine hcall.mono ?_;rintro e w' ⟨rfl,hb'⟩);go_ret;exact⟨ret_int hfin.out.symm,hB.trans (hb'.mono hs)⟩
   | false=>
    have hnext:=lz (Hnext.out hq);rw[hq]at hcall;clear Hfin Hnext hq;go_wp2_with (go_at_fn g;refine hcall.mono ?_;rintro e w' ⟨rfl,hb'⟩);go_roundw
    case rel=>exact⟨k+1,by omega,by go_num,hB.trans (hb'.mono hs),hnext⟩
    case measure=>simp[intOf];omega
  ·go_wp2
   go_ret;exact⟨ret_int (idxI_miss fun j hj=>hall.out j hj (by omega)).symm,hB⟩
theorem containsCs126(g:Nat)(lb:Array Value)(p:CsV→Bool)(eg:∀args w,(callFunc g args).run Tryz.prog w= .ok (.enter g args) w)(l:List CsV)(A:Option Addr)(c:Nat)(w:World)
 (hp:PredCs g lb p l w) (h:RdCs w w.heap.size A l) (hl:l.length≤9223372036854775807):
 CU 95 #[.slice A l.length c,.func (.func g) #[] lb] w (.bool (l.any p)):=by
 have hI:=indexCs211 g lb p eg l A c w hp h hl;rw[←idxI_ge];generalize idxI p l=q at hI ⊢;clear h hp;go_enter Tryz.func95,Tryz.ntmps95;go_wp2_with fail;refine hI.mono ?_;rintro e w1 ⟨rfl,hb1⟩;clear hI;go_wp2;go_ret;exact⟨rfl,hb1⟩
end Go.Proofs.YtchfcgilpjkmhaaGreatDoor
namespace Go.Proofs.YtchfcgilpjkmhaaGreatDoor
open Go.ChangeShapes Go.WideShapes Go.ChangeAt Go.RowKit
attribute [local go_sem] Oper.semAt_some
def letterN(b:Int):Bool:=(decide (b≥97)&&decide (b≤122))||(decide (b≥65)&&decide (b≤90))
def digitN(b:Int):Bool:=decide (b≥48)&&decide (b≤57)
def innerN(b:Int):Bool:=(letterN b||digitN b)||(b==95)
def signN(b:Int):Bool:=(((((b==123)||(b==125))||(b==59))||(b==44))||(b==46))||(b==58)
def bAt(s:ByteArray)(i:Nat):Int:=if h:i<s.size then((s[i]'h).toNat:Int)else 0
theorem bAt_eq{s:ByteArray}{i:Nat}(h:i<s.size):((s[i]'h).toNat:Int)=bAt s i:=by unfold bAt;rw[dif_pos h]
theorem letter_c(b:Int)(w:World):Calls Tryz.prog 244 #[.int .u8 b] w fun e w'=>e= .returned (.bool (letterN b))∧w=w':=by
 obtain⟨q,hq⟩:∃q,letterN b=q:=⟨_,rfl⟩;rw[hq];unfold letterN at hq;have Hq:=lz hq;clear hq
 cases h1:decide (b≥97)<;>cases h2:decide (b≤122)<;>cases h3:decide (b≥65)<;>cases h4:decide (b≤90)
 all_goals
  rw[h1,h2,h3,h4]at Hq;go_enter Tryz.func244,Tryz.ntmps244;go_wp2;go_ret;exact⟨ret_bool Hq.out,rfl⟩
theorem digit_c(b:Int)(w:World):Calls Tryz.prog 245 #[.int .u8 b] w fun e w'=>e= .returned (.bool (digitN b))∧w=w':=by
 obtain⟨q,hq⟩:∃q,digitN b=q:=⟨_,rfl⟩;rw[hq];unfold digitN at hq;have Hq:=lz hq;clear hq
 cases h1:decide (b≥48)<;>cases h2:decide (b≤57)
 all_goals
  rw[h1,h2]at Hq;go_enter Tryz.func245,Tryz.ntmps245;go_wp2;go_ret;exact⟨ret_bool Hq.out,rfl⟩
theorem inner_c(b:Int)(w:World):Calls Tryz.prog 246 #[.int .u8 b] w fun e w'=>e= .returned (.bool (innerN b))∧w=w':=by
 have hl:=letter_c b w;have hd:=digit_c b w;obtain⟨q,hq⟩:∃q,innerN b=q:=⟨_,rfl⟩;rw[hq];unfold innerN at hq;have Hq:=lz hq;clear hq
 cases h1:letterN b<;>cases h2:digitN b<;>cases h3:(b==95)
 all_goals
  rw[h1,h2,h3]at Hq;rw[h1]at hl;rw[h2]at hd;have Hl:=lz hl;have Hd:=lz hd;clear hl hd h1 h2;go_enter Tryz.func246,Tryz.ntmps246;go_wp2_with (first | (go_at_call 244;refine Hl.out.mono ?_;rintro e w' ⟨rfl,rfl⟩) | (go_at_call 245;refine Hd.out.mono ?_;rintro e w' ⟨rfl,rfl⟩));go_ret;exact⟨ret_bool Hq.out,rfl⟩
theorem sign_c(b:Int)(w:World):Calls Tryz.prog 243 #[.int .u8 b] w fun e w'=>e= .returned (.bool (signN b))∧w=w':=by
 obtain⟨q,hq⟩:∃q,signN b=q:=⟨_,rfl⟩;rw[hq];unfold signN at hq;have Hq:=lz hq;clear hq;have fin:∀q1:Bool,q1=q→Calls Tryz.prog 243 #[.int .u8 b] w (fun e w'=>e= .returned (.bool q1)∧w=w')→Calls Tryz.prog 243 #[.int .u8 b] w (fun e w'=>e= .returned (.bool q)∧w=w'):=fun _ h=>h▸id
 cases h1:(b==123)
 ·cases h2:(b==125)
  ·cases h3:(b==59)
   ·cases h4:(b==44)
    ·cases h5:(b==46)
     ·cases h6:(b==58)
      all_goals
       rw[h1,h2,h3,h4,h5,h6]at Hq;go_enter Tryz.func243,Tryz.ntmps243;go_wp2;go_ret;exact⟨ret_bool Hq.out,rfl⟩
     ·rw[h1,h2,h3,h4,h5]at Hq
      go_enter Tryz.func243,Tryz.ntmps243;go_wp2;go_ret;exact⟨ret_bool Hq.out,rfl⟩
    ·rw[h1,h2,h3,h4]at Hq
     go_enter Tryz.func243,Tryz.ntmps243;go_wp2;go_ret;exact⟨ret_bool (by simpa using Hq.out),rfl⟩
   ·rw[h1,h2,h3]at Hq
    go_enter Tryz.func243,Tryz.ntmps243;go_wp2;go_ret;exact⟨ret_bool (by simpa using Hq.out),rfl⟩
  ·rw[h1,h2]at Hq
   go_enter Tryz.func243,Tryz.ntmps243;go_wp2;go_ret;exact⟨ret_bool (by simpa using Hq.out),rfl⟩
 ·rw[h1]at Hq
  go_enter Tryz.func243,Tryz.ntmps243;go_wp2;go_ret;exact⟨ret_bool (by simpa using Hq.out),rfl⟩
def innerTo(s:ByteArray):Nat→Bool
 | 0=>true
 | k+1=>innerTo s k&&innerN (bAt s k)
theorem innerTo_at{s:ByteArray}{n k:Nat}(h:innerTo s n=true)(hk:k<n):innerN (bAt s k)=true:=by
 induction n with
 | zero=>omega
 | succ n ih=>
  simp only[innerTo,Bool.and_eq_true]at h;by_cases e:k=n
  ·subst e;exact h.2
  ·exact ih h.1 (by omega)
def nameB(s:ByteArray):Bool:=(decide (0<s.size)&&decide (s.size≤24))&&(letterN (bAt s 0)&&innerTo s s.size)
theorem name_ok{s:ByteArray}(w:World)(hn:nameB s=true):Calls Tryz.prog 247 #[.string s] w fun e w'=>e= .returned (.bool true)∧w=w':=by
 simp only[nameB,Bool.and_eq_true,decide_eq_true_eq]at hn;obtain⟨⟨h0,h24⟩,hl,hin⟩:=hn;have hL:=letter_c ((s[0]'h0).toNat:Int) w;rw[bAt_eq h0,hl,←bAt_eq h0]at hL;have hI:=fun(k:Nat) (hk:k<s.size)=>inner_c ((s[k]'hk).toNat:Int) w
 have HL:=lz hL;have HI:=lz hI;have Hin:=lz hin;clear hL hI hin hl;have e1:((s.size:Int)==0)=false:=by rw[beq_eq_false_iff_ne];omega
 have e2:decide ((s.size:Int)>24)=false:=by simp;omega
 go_enter Tryz.func247,Tryz.ntmps247;go_wp2_with (go_at_call 244;refine HL.out.mono ?_;rintro e w' ⟨rfl,rfl⟩);go_loopw [3] (fun t wr=>∃k:Nat,k≤s.size∧t= .int .i64 k∧wr=w) (fun t _=>s.size-(intOf t).toNat)
 case atStart=>exact⟨0,Nat.zero_le _,rfl,rfl⟩
 case round=>
  obtain⟨k,hk,rfl,rfl⟩:=hrel;by_cases hlt:k<s.size
  ·have hI:=HI.out k hlt
   rw[bAt_eq hlt,innerTo_at Hin.out hlt,←bAt_eq hlt]at hI;have HI1:=lz hI;clear hI;go_wp2_with (go_at_call 246;refine HI1.out.mono ?_;rintro e w' ⟨rfl,rfl⟩);go_roundw
   case rel=>exact⟨k+1,by omega,by go_num,trivial⟩
   case measure=>simp[intOf];omega
  ·go_wp2_with fail
   go_ret;exact⟨rfl,rfl⟩
theorem num1_c(w:World):Calls Tryz.prog 248 #[.string ⟨#[49]⟩] w fun e w'=>e= .returned (.tuple #[.int .i64 1,.bool true])∧w=w':=by
 have hD:=digit_c 49 w;rw[show digitN 49=true from rfl]at hD;have HD:=lz hD;clear hD;go_enter Tryz.func248,Tryz.ntmps248;go_wp2_with fail;go_loopw [4,5] (fun n t wr=>((n= .int .i64 0∧t= .int .i64 0)∨(n= .int .i64 1∧t= .int .i64 1))∧wr=w) (fun _ t _=>1-(intOf t).toNat)
 case atStart=>exact⟨.inl ⟨rfl,rfl⟩,rfl⟩
 case round=>
  obtain⟨⟨rfl,rfl⟩ | ⟨rfl,rfl⟩,rfl⟩:=hrel
  ·go_wp2_with (go_at_call 245;refine HD.out.mono ?_;rintro e w' ⟨rfl,rfl⟩)
   go_roundw
   case rel=>exact⟨.inr ⟨rfl,rfl⟩,trivial⟩
   case measure=>simp[intOf]
  ·go_wp2_with fail
   refine bodyPost_ret (results_tmp2 rfl _ _ _) rfl ?_;exact⟨rfl,rfl⟩
theorem num2_c(w:World):Calls Tryz.prog 248 #[.string ⟨#[50]⟩] w fun e w'=>e= .returned (.tuple #[.int .i64 2,.bool true])∧w=w':=by
 have hD:=digit_c 50 w;rw[show digitN 50=true from rfl]at hD;have HD:=lz hD;clear hD;go_enter Tryz.func248,Tryz.ntmps248;go_wp2_with fail;go_loopw [4,5] (fun n t wr=>((n= .int .i64 0∧t= .int .i64 0)∨(n= .int .i64 2∧t= .int .i64 1))∧wr=w) (fun _ t _=>1-(intOf t).toNat)
 case atStart=>exact⟨.inl ⟨rfl,rfl⟩,rfl⟩
 case round=>
  obtain⟨⟨rfl,rfl⟩ | ⟨rfl,rfl⟩,rfl⟩:=hrel
  ·go_wp2_with (go_at_call 245;refine HD.out.mono ?_;rintro e w' ⟨rfl,rfl⟩)
   go_roundw
   case rel=>exact⟨.inr ⟨rfl,rfl⟩,trivial⟩
   case measure=>simp[intOf]
  ·go_wp2_with fail
   refine bodyPost_ret (results_tmp2 rfl _ _ _) rfl ?_;exact⟨rfl,rfl⟩
theorem num3_c(w:World):Calls Tryz.prog 248 #[.string ⟨#[51]⟩] w fun e w'=>e= .returned (.tuple #[.int .i64 3,.bool true])∧w=w':=by
 have hD:=digit_c 51 w;rw[show digitN 51=true from rfl]at hD;have HD:=lz hD;clear hD;go_enter Tryz.func248,Tryz.ntmps248;go_wp2_with fail;go_loopw [4,5] (fun n t wr=>((n= .int .i64 0∧t= .int .i64 0)∨(n= .int .i64 3∧t= .int .i64 1))∧wr=w) (fun _ t _=>1-(intOf t).toNat)
 case atStart=>exact⟨.inl ⟨rfl,rfl⟩,rfl⟩
 case round=>
  obtain⟨⟨rfl,rfl⟩ | ⟨rfl,rfl⟩,rfl⟩:=hrel
  ·go_wp2_with (go_at_call 245;refine HD.out.mono ?_;rintro e w' ⟨rfl,rfl⟩)
   go_roundw
   case rel=>exact⟨.inr ⟨rfl,rfl⟩,trivial⟩
   case measure=>simp[intOf]
  ·go_wp2_with fail
   refine bodyPost_ret (results_tmp2 rfl _ _ _) rfl ?_;exact⟨rfl,rfl⟩
def figB(s:ByteArray)(n:Int):Bool:=(decide (s=⟨#[49]⟩)&&decide (n=1))||(decide (s=⟨#[50]⟩)&&decide (n=2))||(decide (s=⟨#[51]⟩)&&decide (n=3))
theorem num_ok{s:ByteArray}{n:Int}(w:World)(h:figB s n=true):Calls Tryz.prog 248 #[.string s] w fun e w'=>e= .returned (.tuple #[.int .i64 n,.bool true])∧w=w':=by
 simp only[figB,Bool.or_eq_true,Bool.and_eq_true,decide_eq_true_eq]at h;rcases h with(⟨rfl,rfl⟩ | ⟨rfl,rfl⟩) | ⟨rfl,rfl⟩
 ·exact num1_c w
 ·exact num2_c w
 ·exact num3_c w
end Go.Proofs.YtchfcgilpjkmhaaGreatDoor
namespace Go.Proofs.YtchfcgilpjkmhaaGreatDoor
open Go.ChangeShapes Go.WideShapes Go.ChangeAt Go.RowKit
theorem missing_c(reps:List Rep)(Bs b:Nat)(r:Rep)(w:World)(hr:r.ok)(hb:Blk w Bs 101 #[.map (some b)])(hm:CntMap KR w b reps):
 CU 112 #[r.val,.pointer (some ⟨Bs,0,none⟩)] w (.bool (!memB r reps)):=by
 have c0:=hb.cell 0;have hlt:=hb.lt;have Hm:=lz hm;have Hc:=lz (cnt_eq0 r reps);clear hm hb;go_enter Tryz.func112,Tryz.ntmps112;go_wp2_with (at_lookup;refine wpList_cnt (M:=KR) rfl (.tmp 4) (.tmp 5) rfl rfl (Hm.out.alloc _) r hr rfl ?_);go_ret;exact⟨ret_bool Hc.out,(Below.refl _ _).alloc (Nat.le_refl _) _⟩
theorem accused1_c(us:List ByteArray)(Bu b:Nat)(u:ByteArray)(w:World)(hu:u.size≤maxLen)(hb:Blk w Bu 113 #[.map (some b)])(hm:CntMap KS w b us):
 CU 113 #[.string u,.pointer (some ⟨Bu,0,none⟩)] w (.bool (memB u us)):=by
 have c0:=hb.cell 0;have hlt:=hb.lt;have Hm:=lz hm;have Hc:=lz (cnt_gt u us);clear hm hb;go_enter Tryz.func113,Tryz.ntmps113;go_wp2_with (at_lookup;refine wpList_cnt (M:=KS) rfl (.tmp 4) (.tmp 5) rfl rfl Hm.out u hu rfl ?_);go_ret;exact⟨ret_bool Hc.out,Below.refl _ _⟩
def holdB(reps:List Rep)(us:List ByteArray)(c:Cs):Bool:=holdsV reps us c
theorem holdB_eq(reps:List Rep)(us:List ByteArray)(c:Cs):holdB reps us c=(!(c.needs.any fun r=> !memB r reps)&& !(c.excl.any fun u=>memB u us)):=by
 unfold holdB holdsV memB;congr 1
 ·rw[List.not_any_eq_all_not];simp
 ·rw[List.not_any_eq_all_not]
theorem holds_c(reps:List Rep)(us:List ByteArray)(b b2:Nat)(x:CsV)(w:World)(hx:x.rd w w.heap.size)(ok:OkC x.c)(hm:CntMap KR w b reps)(hm2:CntMap KS w b2 us):
 CU 43 #[.map (some b),x.val,.map (some b2)] w (.bool (holdB reps us x.c)):=by
 rw[holdB_eq];obtain⟨w1,hw1⟩:∃w1,w1=((w.alloc (.cells #[.map (some b)] 101)).alloc (.cells #[.string x.c.unit,x.n.val,x.x.val] 48)).alloc (.cells #[.map (some b2)] 113):=⟨_,rfl⟩;have hB1:Below w.heap.size w w1:=by rw[hw1];exact(((Below.refl _ w).alloc (Nat.le_refl _) _).alloc (by simp) _).alloc (by simp;omega) _
 have hb0:Blk w1 w.heap.size 101 #[.map (some b)]:=by rw[hw1];exact((Blk.new w _ _).alloc _).alloc _
 have hb1:Blk w1 (w.heap.size+1) 48 #[.string x.c.unit,x.n.val,x.x.val]:=by
  rw[hw1];have:=Blk.new (w.alloc (.cells #[.map (some b)] 101)) 48 #[.string x.c.unit,x.n.val,x.x.val];rw[World.size_alloc]at this;exact this.alloc _
 have hb2:Blk w1 (w.heap.size+2) 113 #[.map (some b2)]:=by
  rw[hw1];have:=Blk.new ((w.alloc (.cells #[.map (some b)] 101)).alloc (.cells #[.string x.c.unit,x.n.val,x.x.val] 48)) 113 #[.map (some b2)];rw[World.size_alloc,World.size_alloc]at this;exact this
 have hx1:=hx.to_ hB1.size (bcell hB1);have hm1:CntMap KR w1 b reps:=hm.below hB1 hm.lt;have hm21:CntMap KS w1 b2 us:=hm2.below hB1 hm2.lt;have hp1:PredRep 112 #[.pointer (some ⟨w.heap.size,0,none⟩)] (fun r=> !memB r reps) x.c.needs w1:=fun W r hr hW=>
  missing_c reps w.heap.size b r W (ok.n r hr) (hb0.below hW hb0.lt) (hm1.next hW)
 have e1:=containsRep47 112 #[.pointer (some ⟨w.heap.size,0,none⟩)] (fun r=> !memB r reps) (enters_of Tryz.func112 kz rfl) x.c.needs x.n.a x.n.c w1 hp1 hx1.n (by have:=hx1.nl;have:=hx1.nc;have:=hx1.nm;unfold maxLen at this;omega);rw[←hx1.nl]at e1;have E1:=lz e1;have hp2:∀w2,Below w1.heap.size w1 w2→CU 115 #[x.x.val,.func (.func 113) #[] #[.pointer (some ⟨w.heap.size+2,0,none⟩)]] w2 (.bool (x.c.excl.any fun u=>memB u us)):=fun w2 hW=>by
  have:=containsStr48 113 #[.pointer (some ⟨w.heap.size+2,0,none⟩)] (fun u=>memB u us) (enters_of Tryz.func113 kz rfl) x.c.excl x.x.a x.x.c w2
   (fun W r hr hW2=>accused1_c us (w.heap.size+2) b2 r W (ok.x r hr) ((hb2.below hW hb2.lt).below hW2 (Nat.lt_of_lt_of_le hb2.lt hW.size)) ((hm21.next hW).next hW2))
   (hx1.x.below hW) (by have:=hx1.xl;have:=hx1.xc;have:=hx1.xm;unfold maxLen at this;omega)
  rwa[←hx1.xl]at this
 have E2:=lz hp2;have Hb1:=lz hb1;have HB1:=lz hB1;have HW:=lz hw1;clear hw1 hx ok hm hm2 hb0 hb1 hb2 hx1 hm1 hm21 hp1 e1 hp2 hB1;generalize (x.c.needs.any fun r=> !memB r reps)=q1 at *;generalize (x.c.excl.any fun u=>memB u us)=q2 at *;go_enter Tryz.func43,Tryz.ntmps43;go_wp2_with fail;rw[←HW.out];clear HW;refine E1.out.mono ?_;rintro e w2 ⟨rfl,hb2⟩;have hB2:=HB1.out.trans (hb2.mono HB1.out.size);have Hb2:=lz (Hb1.out.below hb2 Hb1.out.lt);have c1:=Hb2.out.cell 1;have c2:=Hb2.out.cell 2;have E3:=lz (E2.out w2 hb2);clear E1 E2 Hb1 HB1 hb2
 cases q1 with
 | true=>
  go_wp2_with fail;go_ret;exact⟨rfl,hB2⟩
 | false=>
  go_wp2_with fail;refine E3.out.mono ?_;rintro e w3 ⟨rfl,hb3⟩;have hB3:=hB2.trans (hb3.mono hB2.size);clear E3 c1 c2 Hb2 hb3 hB2;go_wp2_with fail;go_ret;exact⟨by simp,hB3⟩
end Go.Proofs.YtchfcgilpjkmhaaGreatDoor
namespace Go.Proofs.YtchfcgilpjkmhaaGreatDoor
open Go.ChangeShapes Go.WideShapes Go.ChangeAt Go.RowKit
attribute [local go_sem] Oper.semAt_some
structure Hit(L:List CsV)(u:ByteArray) where
 i:Nat
 x:CsV
 h:L[i]?=some x
 hu:x.c.unit=u
def upTo(L:List CsV)(u:ByteArray):Nat→List (Hit L u)
 | 0=> []
 | k+1=>match h:L[k]? with
  | some x=>if hu:x.c.unit=u then upTo L u k++ [⟨k,x,h,hu⟩]else upTo L u k
  | none=>upTo L u k
theorem upTo_yes{L:List CsV}{u:ByteArray}{k:Nat}{x:CsV}(h:L[k]?=some x)(hu:x.c.unit=u):upTo L u (k+1)=upTo L u k++ [⟨k,x,h,hu⟩]:=by
 simp only[upTo];split
 ·rename_i y hy
  obtain rfl:x=y:=by rw[h]at hy;injection hy
  rw[dif_pos hu]
 ·rename_i hy
  rw[h]at hy;cases hy
theorem upTo_no{L:List CsV}{u:ByteArray}{k:Nat}{x:CsV}(h:L[k]?=some x)(hu:¬x.c.unit=u):upTo L u (k+1)=upTo L u k:=by
 simp only[upTo];split
 ·rename_i y hy
  obtain rfl:x=y:=by rw[h]at hy;injection hy
  rw[dif_neg hu]
 ·rfl
theorem upTo_pre{L:List CsV}{u:ByteArray}(k:Nat):∀n,k≤n→upTo L u k <+: upTo L u n
 | 0,h=>by
  obtain rfl:k=0:=(by omega);exact List.prefix_refl _
 | n+1,h=>by
  by_cases e:k=n+1
  ·subst e;exact List.prefix_refl _
  ·refine(upTo_pre k n (by omega)).trans ?_
   simp only[upTo];split
   ·split
    ·exact List.prefix_append _ _
    ·exact List.prefix_refl _
   ·exact List.prefix_refl _
theorem upTo_len{L:List CsV}{u:ByteArray}:∀n,(upTo L u n).length≤n
 | 0=>Nat.le_refl _
 | n+1=>by
  have:=upTo_len (L:=L) (u:=u) n;simp only[upTo];split
  ·split
   ·simp;omega
   ·omega
  ·omega
theorem upTo_mem{L:List CsV}{u:ByteArray}:∀n (y:Hit L u),y∈upTo L u n↔y.i<n
 | 0,y=>by simp[upTo]
 | n+1,y=>by
  have ih:=upTo_mem (L:=L) (u:=u) n y;simp only[upTo];split
  ·rename_i x hx
   split
   ·rename_i hu
    rw[List.mem_append,ih,List.mem_singleton];constructor
    ·rintro(h | h)
     ·omega
     ·subst h;show n<n+1;omega
    ·intro h
     by_cases e:y.i=n
     ·right
      obtain⟨i,z,hz,hzu⟩:=y;simp only at e;subst e;obtain rfl:z=x:=by rw[hz]at hx;injection hx
      rfl
     ·left;omega
   ·rename_i hu
    rw[ih];constructor
    ·intro h;omega
    ·intro h
     have:y.i≠n:=fun e=>by
      have h2:=y.h;rw[e,hx]at h2;injection h2 with h2
      exact hu (h2▸y.hu)
     omega
  ·rename_i hx
   rw[ih];constructor
   ·intro h;omega
   ·intro h
    have:y.i≠n:=fun e=>by
     have h2:=y.h;rw[e,hx]at h2
     cases h2
    omega
abbrev Hit.enc{L:List CsV}{u:ByteArray}(y:Hit L u):Array Value:= #[.int .i64 y.i,y.x.val]
structure KpA(B Bl Bu:Nat)(W W':World):Prop where
 size:W.heap.size≤W'.heap.size
 same:∀k,k<B∨k=Bl∨k=Bu→W'.heap[k]?=W.heap[k]?
theorem KpA.refl(B Bl Bu:Nat)(W:World):KpA B Bl Bu W W:=⟨Nat.le_refl _,fun _ _=>rfl⟩
theorem KpA.trans{B Bl Bu:Nat}{W W' W'':World}(h:KpA B Bl Bu W W')(h':KpA B Bl Bu W' W''):KpA B Bl Bu W W'':=⟨Nat.le_trans h.size h'.size,fun k hk=>(h'.same k hk).trans (h.same k hk)⟩
theorem KpA.blk{B Bl Bu:Nat}{W W':World}(h:KpA B Bl Bu W W'){g:Nat}{t:TypeId}{cs:Array Value}(hb:Blk W g t cs)(hg:g<B∨g=Bl∨g=Bu):Blk W' g t cs:=(h.same g hg).trans hb
theorem KpA.cell{B Bl Bu:Nat}{W W':World}(h:KpA B Bl Bu W W'):∀b o,b<B→W'.cell? ⟨b,o,none⟩=W.cell? ⟨b,o,none⟩:=fun b o hb=>World.cell?_of_block (h.same b (.inl hb))
theorem KpA.of_below{B Bl Bu:Nat}{W W':World}(h:Below W.heap.size W W')(hB:B≤W.heap.size)(hl:Bl<W.heap.size)(hu:Bu<W.heap.size):KpA B Bl Bu W W':=
 ⟨h.size,fun k hk=>h.block k (by rcases hk with hk | rfl | rfl<;>omega)⟩
theorem KpA.put{B Bl Bu:Nat}{w:World}(hB:B≤w.heap.size)(hl:Bl<w.heap.size)(hu:Bu<w.heap.size):∀(W:World) (l:Nat) (o o':Obj),w.heap.size≤l→W.heap[l]?=some o→o.isCells=false→o.isWalk=false→KpA B Bl Bu W (W.putObj l o'):=
 fun W l o o' h _ _ _=>⟨by simp,fun k hk=>World.putObj_heap_other (by rcases hk with hk | rfl | rfl<;>omega)⟩
theorem cell_alloc{w:World}(o:Obj){B:Nat}(hB:B≤w.heap.size):∀b i,b<B→(w.alloc o).cell? ⟨b,i,none⟩=w.cell? ⟨b,i,none⟩:=fun b i h=>World.cell?_alloc_lt w o ⟨b,i,none⟩ (Nat.lt_of_lt_of_le h hB)
set_option maxHeartbeats 1000000 in
theorem all1_seq(L:List CsV)(u:ByteArray)(A:Option Addr)(c B Bl Bu m:Nat)(w:World)(hm:1≤m)(hBl:Bl<w.heap.size)(hBu:Bu<w.heap.size)(hB:B≤w.heap.size)(hl:Blk w Bl 97 #[.slice A L.length c])(hu:Blk w Bu 9 #[.string u])
 (h:RdCs w B A L) (hlen:L.length≤9223372036854775807):
 SeqStopsK Fence.wide m Tryz.prog 111 #[.pointer (some ⟨Bl,0,none⟩),.pointer (some ⟨Bu,0,none⟩)] (Hit.enc (L:=L) (u:=u)) (KpA B Bl Bu) (fun xs=>xs=upTo L u L.length) (fun pre=>pre <+: upTo L u L.length) L.length w:=by
 intro l J Jx W hW hJ hJx hY h0;have hB2:B≤W.heap.size:=Nat.le_trans hB hW.size;have hlW:=hl.below hW hBl;have huW:=hu.below hW hBu;have hLW:RdCs W B A L:=h.to_ (Nat.le_refl _) fun b o hb=>hW.cell (p:=⟨b,o,none⟩) (Nat.lt_of_lt_of_le hb hB)
 have c0:=hlW.cell 0;have hst:=hW.size;refine callsIn_of_wp Tryz.func111 rfl trivial ?_ rfl;simp only[Tryz.ntmps111,List.size_toArray,List.length_cons,List.length_nil,Nat.reduceAdd,Nat.reduceSub,Array.replicate_succ,Array.replicate_zero,List.push_toArray,List.append_toArray,List.nil_append,List.cons_append];gi_wp2;gi_loopw [8] (fun t wr=>∃k:Nat,k≤L.length∧t= .int .i64 k∧J (upTo L u k) wr∧Blk wr Bl 97 #[.slice A L.length c]∧Blk wr Bu 9 #[.string u]∧RdCs wr B A L∧B≤wr.heap.size)
  (fun t wr=>L.length-(intOf t).toNat)
 case atStart=>exact⟨0,Nat.zero_le _,rfl,h0,hlW,huW,hLW,hB2⟩
 case round=>
  clear c0 hlW huW hLW h0;obtain⟨k,hk,rfl,hJk,hlr,hur,hLr,hBr⟩:=hrel;by_cases hlt:k<L.length
  ·obtain⟨b,o,rfl,hb,hc⟩:=hLr (by omega)
   obtain⟨d0,d1,d2,_⟩:=hc k hlt;have hgk:L[k]?=some L[k]:=List.getElem?_eq_getElem hlt;have hyes:=fun hu=>upTo_yes (u:=u) hgk hu
   have hno:=fun hu=>upTo_no (u:=u) hgk hu
   have c0:=hur.cell 0;have hub:=hur.lt;have hbs:b<wr.heap.size:=World.block_lt_of_cell? wr _ d0;have hbox:∀v,J (upTo L u k) (wr.alloc (.cells v 48)):=fun v=>hJ _ _ _ none hJk (World.grownBy_alloc _ _ _) (fun r e=>by cases e)
   have hl1:=fun v=>hlr.alloc (.cells v 48)
   have hu1:=fun v=>hur.alloc (.cells v 48)
   have hR1:=fun v=>hLr.to_ (Nat.le_refl _) (cell_alloc (.cells v 48) hBr)
   have HL:=lz hlr;have HU:=lz hur;have HR:=lz hLr;have Hy:=lz hyes;have Hn:=lz hno;have HJ:=lz hbox;have H1:=lz hl1;have H2:=lz hu1;have H3:=lz hR1;clear hlr hur hLr hyes hno hbox hl1 hu1 hR1 hc;by_cases e:L[k].c.unit=u
   ·have hk2:(upTo L u k).length<L.length:=Nat.lt_of_le_of_lt (upTo_len k) hlt
    obtain⟨fn,tmps,assign,body,hy,hR⟩:=hY (upTo L u k) ⟨k,L[k],hgk,e⟩ (wr.alloc (.cells #[.string L[k].c.unit,L[k].n.val,L[k].x.val] 48)) (HJ.out _) hk2;dsimp only[Hit.enc,CsV.val]at hy;rw[e]at hy hR;have HY:=lz (Hy.out e);clear hY Hn Hy hk2;have he:=str_eq e;generalize L[k]=x at *;gi_wp2;refine hR.mono ?_;rintro e' W3 (⟨rfl,hJ3,hk3⟩ | ⟨rfl,hJx3⟩)
    ·rw[←HY.out]at hJ3
     have hl3:=hk3.blk (H1.out _) (.inr (.inl rfl));have hu3:=hk3.blk (H2.out _) (.inr (.inr rfl));have hR3:=(H3.out _).to_ (Nat.le_refl _) hk3.cell;have hs3:=hk3.size;have HF:=lz (And.intro hJ3 (And.intro hl3 (And.intro hu3 hR3)));have hs4:B≤W3.heap.size:=by simp at hs3;omega
     clear hJ3 hl3 hu3 hR3 hk3 hs3;gi_wp2;go_roundw
     case rel=>exact⟨k+1,by omega,by go_num,HF.out.1,HF.out.2.1,HF.out.2.2.1,HF.out.2.2.2,hs4⟩
     case measure=>simp[intOf];omega
    ·rw[←HY.out]at hJx3
     gi_wp2;refine bodyPost_ret (results_none rfl _ _ _) rfl ?_;exact⟨⟨_,rfl⟩,.inr ⟨_,upTo_pre _ _ (by omega),hJx3⟩⟩
   ·have he:=str_ne e
    have hj:=lz (Hn.out e);clear Hn Hy hY;generalize L[k]=x at *;gi_wp2;refine⟨fun _ h=>(by cases h),?_⟩;gi_wp2;go_roundw
    case rel=>exact⟨k+1,by omega,by go_num,by rw[hj.out];exact HJ.out _,H1.out _,H2.out _,H3.out _,by simp;omega⟩
    case measure=>simp[intOf];omega
  ·obtain rfl:k=L.length:=by omega
   gi_wp2;go_end0;exact⟨⟨_,rfl⟩,.inl ⟨_,rfl,hJk⟩⟩
theorem rd_of{W:World}{B:Nat}{A:Option Addr}{L:List CsV}(h:RdCs W B A L){i:Nat}{x:CsV}(hx:L[i]?=some x):x.rd W B:=by
 obtain⟨hi,rfl⟩:=List.getElem?_eq_some_iff.1 hx;obtain⟨b,o,_,_,hc⟩:=h (by omega);exact(hc i hi).2.2.2
structure RS(W4:World)(Bf:Nat)(t:TypeId)(v:Value)(W:World):Prop where
 os:W.os=W4.os
 tape:W.tape=W4.tape
 output:W.output=W4.output
 size:W4.heap.size≤W.heap.size
 block:∀k,k<W4.heap.size→k≠Bf→W.heap[k]?=W4.heap[k]?
 bf:Blk W Bf t #[v]
section
variable {W4 W W':World} {Bf:Nat} {t:TypeId} {v v':Value}
theorem RS.refl(h:Blk W4 Bf t #[v]):RS W4 Bf t v W4:=⟨rfl,rfl,rfl,Nat.le_refl _,fun _ _ _=>rfl,h⟩
theorem RS.trans(h:RS W4 Bf t v W)(h':RS W Bf t v' W'):RS W4 Bf t v' W':=
 ⟨h'.os.trans h.os,h'.tape.trans h.tape,h'.output.trans h.output,Nat.le_trans h.size h'.size,fun k hk hn=>(h'.block k (Nat.lt_of_lt_of_le hk h.size) hn).trans (h.block k hk hn),h'.bf⟩
theorem RS.next(h:RS W4 Bf t v W)(hb:Below W.heap.size W W'):RS W4 Bf t v W':=
 ⟨hb.os.trans h.os,hb.tape.trans h.tape,hb.output.trans h.output,Nat.le_trans h.size hb.size,fun k hk hn=>(hb.block k (Nat.lt_of_lt_of_le hk h.size)).trans (h.block k hk hn),h.bf.below hb h.bf.lt⟩
theorem RS.alloc(h:RS W4 Bf t v W)(o:Obj):RS W4 Bf t v (W.alloc o):=h.next ((Below.refl _ W).alloc (Nat.le_refl _) o)
theorem RS.set_(h:RS W4 Bf t v W)(u:Value):RS W4 Bf t u (W.setCell ⟨Bf,0,none⟩ u):=
 ⟨h.os,h.tape,h.output,by simpa [World.setCell]using h.size,fun k hk hn=>(Below.heap_setCell W ⟨Bf,0,none⟩ u k (by simpa using hn)).trans (h.block k hk hn),by simpa using h.bf.set_ 0 u⟩
theorem RS.own{β:Type}{g:β→Value}(hlt:Bf<W4.heap.size):OwnFrom W4.heap.size (fun(s:β) W=>RS W4 Bf t (g s) W):=fun s X Y row hs hg hr=>
 ⟨hg.os.trans hs.os,hg.tape.trans hs.tape,hg.output.trans hs.output,Nat.le_trans hs.size hg.size,
  fun k hk hn=>(hg.block k (Nat.lt_of_lt_of_le hk hs.size) (fun e=>by have:=(hr k e.symm).1;omega)).trans (hs.block k hk hn),ownFrom_blk (β:=β) W4.heap.size _ _ _ s X Y row hs.bf hg hr⟩
theorem RS.blk(h:RS W4 Bf t v W){g:Nat}{t':TypeId}{cs:Array Value}(hb:Blk W4 g t' cs)(hn:g≠Bf):Blk W g t' cs:=(h.block g hb.lt hn).trans hb
theorem RS.below{w:World}{base:Nat}(h:RS W4 Bf t v W)(hb:Below base w W4)(hs:base≤W4.heap.size)(hf:base≤Bf):Below base w W:=
 ⟨h.os.trans hb.os,h.tape.trans hb.tape,h.output.trans hb.output,Nat.le_trans hb.size h.size,fun k hk=>(h.block k (by omega) (by omega)).trans (hb.block k hk)⟩
theorem RS.keeps(h:RS W Bf t v W')(hf:Blk W Bf t #[v']):KeepsOthers W W':=
 ⟨h.size,fun k o hk ho=>(h.block k (Array.getElem?_eq_some_iff.1 hk).1 (fun e=>by subst e;rw[show W.heap[k]?=_ from hf]at hk;cases hk;cases ho)).trans hk⟩
theorem RS.kpa{B Bl Bu:Nat}(h:RS W Bf t v W')(hB:B≤Bf)(hB2:B≤W.heap.size)(hl:Bl<W.heap.size)(hu:Bu<W.heap.size)(hl2:Bl≠Bf)(hu2:Bu≠Bf):KpA B Bl Bu W W':=
 ⟨h.size,fun k hk=>h.block k (by rcases hk with hk | rfl | rfl<;>omega) (by rcases hk with hk | rfl | rfl<;>omega)⟩
end
end Go.Proofs.YtchfcgilpjkmhaaGreatDoor
