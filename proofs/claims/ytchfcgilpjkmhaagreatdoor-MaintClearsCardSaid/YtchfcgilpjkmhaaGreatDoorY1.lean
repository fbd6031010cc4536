import Derived.DeepKeys4
import Derived.Test.YtchfcgilpjkmhaaGreatDoorY0
set_option maxRecDepth 100000
set_option linter.unusedSimpArgs false
set_option linter.unusedVariables false
set_option linter.unusedSectionVars false
namespace Go.Proofs.YtchfcgilpjkmhaaGreatDoor
structure Ca(ν ρ:Type) where
 unit:ν
 needs:List ρ
 excl:List ν
section
variable {ν ρ:Type} [DecidableEq ν] [DecidableEq ρ]
def freeV(l:List (Ca ν ρ))(out:List ν)(u:ν):Bool:=l.all fun c=> !decide (c.unit=u)||c.excl.all fun x=>decide (x∈out)
def addU(acc:List ν)(u:ν):List ν:=if u∈acc then acc else acc++ [u]
def unitsV(l:List (Ca ν ρ)):List ν:=(l.map Ca.unit).foldl addU []
def nextV(l:List (Ca ν ρ))(out:List ν):Option ν:=(l.find? fun c=> !decide (c.unit∈out)&&freeV l out c.unit).map Ca.unit
def orderL(l:List (Ca ν ρ)):Nat→List ν→List ν
 | 0,out=>out
 | f+1,out=>match nextV l out with
  | none=>out
  | some u=>orderL l f (out++ [u])
def orderV(l:List (Ca ν ρ)):List ν:=orderL l (l.length+1) []
def okV(l:List (Ca ν ρ)):Bool:=decide ((orderV l).length=(unitsV l).length)
def holdsV(reps:List ρ)(us:List ν)(c:Ca ν ρ):Bool:=c.needs.all (fun r=>decide (r∈reps))&&c.excl.all (fun x=> !decide (x∈us))
def hitV(l:List (Ca ν ρ))(reps:List ρ)(us:List ν)(u:ν):Bool:=l.any fun c=>decide (c.unit=u)&&holdsV reps us c
def accL(l:List (Ca ν ρ))(reps:List ρ):List ν→List ν→List ν
 | [],out=>out
 | u :: r,out=>accL l reps r (if hitV l reps out u then out++ [u]else out)
def accV(l:List (Ca ν ρ))(reps:List ρ):List ν:=accL l reps (orderV l) []
theorem len_le:∀(a b:List ν),a.Nodup→(∀x∈a,x∈b)→a.length≤b.length
 | [],b,_,_=>Nat.zero_le _
 | x :: a,b,hn,hs=>by
  obtain⟨h1,h2⟩:=List.nodup_cons.1 hn;have hx:x∈b:=hs x (by simp);have:=len_le a (b.erase x) h2 fun y hy=>(List.mem_erase_of_ne (fun e=>h1 (by subst e;exact hy))).2 (hs y (by simp[hy]))
  rw[List.length_erase_of_mem hx]at this;have hb:0<b.length:=List.length_pos_of_mem hx;simp only[List.length_cons];omega
theorem all_of_len{a b:List ν}(hn:a.Nodup)(hs:∀x∈a,x∈b)(hl:b.length≤a.length):∀x∈b,x∈a:=fun x hx=>by
 rcases Decidable.em (x∈a)with h | h
 ·exact h
 ·have:=len_le (x :: a) b (List.nodup_cons.2 ⟨h,hn⟩) fun y hy=>by
   rcases List.mem_cons.1 hy with rfl | hy
   ·exact hx
   ·exact hs y hy
  simp only[List.length_cons]at this;omega
theorem mem_addU{acc:List ν}{u x:ν}:x∈addU acc u↔x∈acc∨x=u:=by
 unfold addU;split
 ·rename_i h
  exact⟨.inl,fun h'=>h'.elim id fun e=>e▸h⟩
 ·simp
theorem mem_fold:∀(us acc:List ν) (x:ν),x∈us.foldl addU acc↔x∈acc∨x∈us
 | [],acc,x=>by simp
 | u :: us,acc,x=>by
  rw[List.foldl_cons,mem_fold us,mem_addU,List.mem_cons,or_assoc]
theorem nodup_addU{acc:List ν}{u:ν}(h:acc.Nodup):(addU acc u).Nodup:=by
 unfold addU;split
 ·exact h
 ·rename_i hu
  rw[List.nodup_append];exact⟨h,by simp,fun a ha b hb=>by simp at hb;subst hb;exact fun e=>hu (e▸ha)⟩
theorem nodup_fold:∀(us acc:List ν),acc.Nodup→(us.foldl addU acc).Nodup
 | [],acc,h=>h
 | u :: us,acc,h=>nodup_fold us _ (nodup_addU h)
theorem len_fold:∀(us acc:List ν),(us.foldl addU acc).length≤acc.length+us.length
 | [],acc=>by simp
 | u :: us,acc=>by
  have:=len_fold us (addU acc u);have h2:(addU acc u).length≤acc.length+1:=by unfold addU;split<;>simp
  simp only[List.foldl_cons,List.length_cons];omega
theorem mem_units{l:List (Ca ν ρ)}{u:ν}:u∈unitsV l↔∃c∈l,c.unit=u:=by
 unfold unitsV;rw[mem_fold];simp
theorem nodup_units(l:List (Ca ν ρ)):(unitsV l).Nodup:=nodup_fold _ _ List.nodup_nil
theorem len_units(l:List (Ca ν ρ)):(unitsV l).length≤l.length:=by
 have:=len_fold (l.map Ca.unit) [];simpa [unitsV]using this
theorem free_iff{l:List (Ca ν ρ)}{out:List ν}{u:ν}:freeV l out u=true↔∀c∈l,c.unit=u→∀x∈c.excl,x∈out:=by
 unfold freeV;rw[List.all_eq_true];refine⟨fun h c hc e x hx=> ?_,fun h c hc=> ?_⟩
 ·have:=h c hc
  rw[decide_eq_true e]at this;simp only[Bool.not_true,Bool.false_or,List.all_eq_true,decide_eq_true_eq]at this;exact this x hx
 ·rcases Decidable.em (c.unit=u)with e | e
  ·rw[decide_eq_true e]
   simp only[Bool.not_true,Bool.false_or,List.all_eq_true,decide_eq_true_eq];exact h c hc e
  ·rw[decide_eq_false e];rfl
structure OrdOk(l:List (Ca ν ρ))(out:List ν):Prop where
 nodup:out.Nodup
 sub:∀u∈out,u∈unitsV l
 before:∀i (h:i<out.length),∀c∈l,c.unit=out[i]→∀x∈c.excl,x∈out.take i
theorem OrdOk.nil(l:List (Ca ν ρ)):OrdOk l []:=⟨List.nodup_nil,fun u h=>by simp at h,fun i h=>by simp at h⟩
theorem OrdOk.push{l:List (Ca ν ρ)}{out:List ν}{u:ν}(h:OrdOk l out)(hu:u∈unitsV l)(hn:u∉out)(hf:freeV l out u=true):OrdOk l (out++ [u]):=by
 refine⟨?_,fun x hx=> ?_,fun i hi c hc e x hx=> ?_⟩
 ·rw[List.nodup_append]
  exact⟨h.nodup,by simp,fun a ha b hb=>by simp at hb;subst hb;exact fun e=>hn (e▸ha)⟩
 ·rcases List.mem_append.1 hx with hx | hx
  ·exact h.sub x hx
  ·simp at hx;subst hx;exact hu
 ·by_cases hlt:i<out.length
  ·rw[List.getElem_append_left hlt]at e
   have:=h.before i hlt c hc e x hx;rw[List.take_append_of_le_length (by omega)];exact this
  ·have hi2:i=out.length:=by simp at hi;omega
   subst hi2;rw[List.take_append_of_le_length (Nat.le_refl _),List.take_length];simp at e;exact free_iff.1 hf c hc e x hx
theorem next_some{l:List (Ca ν ρ)}{out:List ν}{u:ν}(h:nextV l out=some u):u∈unitsV l∧u∉out∧freeV l out u=true:=by
 unfold nextV at h;rw[Option.map_eq_some_iff]at h;obtain⟨c,hc,rfl⟩:=h;have h1:=List.find?_some hc;have h2:=List.mem_of_find?_eq_some hc;simp only[Bool.and_eq_true,Bool.not_eq_true',decide_eq_false_iff_not]at h1;exact⟨mem_units.2 ⟨c,h2,rfl⟩,h1.1,h1.2⟩
theorem next_none{l:List (Ca ν ρ)}{out:List ν}(h:nextV l out=none){u:ν}(hu:u∈unitsV l)(hf:freeV l out u=true):u∈out:=by
 unfold nextV at h;rw[Option.map_eq_none_iff,List.find?_eq_none]at h;obtain⟨c,hc,rfl⟩:=mem_units.1 hu;have:=h c hc;rw[hf,Bool.and_true]at this;simpa using this
theorem orderL_ok{l:List (Ca ν ρ)}:∀(f:Nat) (out:List ν),OrdOk l out→OrdOk l (orderL l f out)
 | 0,out,h=>h
 | f+1,out,h=>by
  unfold orderL;split
  ·exact h
  ·rename_i u hn
   obtain⟨h1,h2,h3⟩:=next_some hn;exact orderL_ok f _ (h.push h1 h2 h3)
theorem orderL_stuck{l:List (Ca ν ρ)}:∀(f:Nat) (out:List ν),OrdOk l out→(unitsV l).length<out.length+f→nextV l (orderL l f out)=none
 | 0,out,h,hl=>absurd (len_le out _ h.nodup h.sub) (by omega)
 | f+1,out,h,hl=>by
  unfold orderL;split
  ·rename_i hn;exact hn
  ·rename_i u hn
   obtain⟨h1,h2,h3⟩:=next_some hn;exact orderL_stuck f _ (h.push h1 h2 h3) (by simp;omega)
theorem order_ok(l:List (Ca ν ρ)):OrdOk l (orderV l):=orderL_ok _ _ (OrdOk.nil l)
theorem order_stuck(l:List (Ca ν ρ)):nextV l (orderV l)=none:=orderL_stuck _ _ (OrdOk.nil l) (by have:=len_units l;simp;omega)
theorem order_len(l:List (Ca ν ρ)):(orderV l).length≤(unitsV l).length:=len_le _ _ (order_ok l).nodup (order_ok l).sub
theorem ok_all{l:List (Ca ν ρ)}(h:okV l=true):∀u∈unitsV l,u∈orderV l:=all_of_len (order_ok l).nodup (order_ok l).sub (by have:=of_decide_eq_true h;omega)
theorem ok_of{l:List (Ca ν ρ)}{out:List ν}(h:OrdOk l out)(hl:(unitsV l).length≤out.length):okV l=true:=by
 have hall:=all_of_len h.nodup h.sub hl;have key:∀n i (hi:i<out.length),i<n→out[i]∈orderV l:=by
  intro n
  induction n with
  | zero=>intro i _ h;omega
  | succ n ih=>
   intro i hi hin;refine next_none (order_stuck l) (h.sub _ (List.getElem_mem hi)) (free_iff.2 fun c hc e x hx=> ?_);have:=h.before i hi c hc e x hx;obtain⟨j,hj,rfl⟩:=List.getElem_of_mem this;rw[List.length_take]at hj;rw[List.getElem_take];exact ih j (by omega) (by omega)
 refine decide_eq_true (Nat.le_antisymm (order_len l) (len_le _ _ (nodup_units l) fun u hu=> ?_));obtain⟨i,hi,rfl⟩:=List.getElem_of_mem (hall u hu);exact key (i+1) i hi (by omega)
theorem holds_iff{reps:List ρ}{us:List ν}{c:Ca ν ρ}:holdsV reps us c=true↔(∀r∈c.needs,r∈reps)∧∀x∈c.excl,x∉us:=by
 unfold holdsV;simp
theorem hit_iff{l:List (Ca ν ρ)}{reps:List ρ}{us:List ν}{u:ν}:hitV l reps us u=true↔∃c∈l,c.unit=u∧holdsV reps us c=true:=by
 unfold hitV;simp
theorem accL_append(l:List (Ca ν ρ))(reps:List ρ):∀(a b out:List ν),accL l reps (a++b) out=accL l reps b (accL l reps a out)
 | [],b,out=>rfl
 | u :: a,b,out=>by
  simp only[List.cons_append,accL];exact accL_append l reps a b _
theorem accL_mem(l:List (Ca ν ρ))(reps:List ρ):∀(a out:List ν) (x:ν),(x∈out→x∈accL l reps a out)∧(x∈accL l reps a out→x∈out∨x∈a)
 | [],out,x=>⟨id,.inl⟩
 | u :: a,out,x=>by
  have ih:=accL_mem l reps a (if hitV l reps out u then out++ [u]else out) x;simp only[accL];refine⟨fun h=>ih.1 (by split<;>simp[h]),fun h=> ?_⟩;rcases ih.2 h with h | h
  ·split at h
   ·rcases List.mem_append.1 h with h | h
    ·exact .inl h
    ·simp at h;subst h;simp
   ·exact .inl h
  ·exact .inr (by simp[h])
theorem acc_char{l:List (Ca ν ρ)}{ord:List ν}(reps:List ρ)(h:OrdOk l ord){u:ν}(hu:u∈ord):u∈accL l reps ord []↔hitV l reps (accL l reps ord []) u=true:=by
 obtain⟨i,hi,rfl⟩:=List.getElem_of_mem hu;have hsplit:ord=ord.take i++ord[i] :: ord.drop (i+1):=by
  rw[List.getElem_cons_drop,List.take_append_drop]
 have hnd:=h.nodup;rw[hsplit,List.nodup_append]at hnd;obtain⟨hn1,hn2,hn3⟩:=hnd;obtain⟨hn4,hn5⟩:=List.nodup_cons.1 hn2;obtain⟨Ai,hAi⟩:∃Ai,Ai=accL l reps (ord.take i) []:=⟨_,rfl⟩;have hA:accL l reps ord []=accL l reps (ord.drop (i+1)) (if hitV l reps Ai ord[i]then Ai++ [ord[i]]else Ai):=by
  conv=>lhs;rw[hsplit,accL_append,←hAi]
  rfl
 have hAsub:∀x,x∈Ai→x∈ord.take i:=fun x hx=>by
  rw[hAi]at hx;exact((accL_mem l reps _ [] x).2 hx).elim (fun h=>by simp at h) id
 have hold:∀x∈ord.take i,(x∈accL l reps ord []↔x∈Ai):=fun x hx=>by
  rw[hA];refine⟨fun hm=> ?_,fun hm=>(accL_mem l reps _ _ x).1 (by split<;>simp[hm])⟩;rcases(accL_mem l reps _ _ x).2 hm with hm | hm
  ·split at hm
   ·rcases List.mem_append.1 hm with hm | hm
    ·exact hm
    ·simp at hm;subst hm;exact absurd rfl (hn3 _ hx _ List.mem_cons_self)
   ·exact hm
  ·exact absurd rfl (hn3 _ hx _ (List.mem_cons_of_mem _ hm))
 have hhit:hitV l reps (accL l reps ord []) ord[i]=hitV l reps Ai ord[i]:=by
  rw[Bool.eq_iff_iff,hit_iff,hit_iff];refine⟨fun⟨c,hc,e,hh⟩=>⟨c,hc,e,?_⟩,fun⟨c,hc,e,hh⟩=>⟨c,hc,e,?_⟩⟩
  ·rw[holds_iff]at hh⊢
   exact⟨hh.1,fun x hx hm=>hh.2 x hx ((hold x (h.before i hi c hc e x hx)).2 hm)⟩
  ·rw[holds_iff]at hh⊢
   exact⟨hh.1,fun x hx hm=>hh.2 x hx ((hold x (h.before i hi c hc e x hx)).1 hm)⟩
 rw[hhit,hA];refine⟨fun hm=> ?_,fun hm=>(accL_mem l reps _ _ _).1 (by rw[if_pos hm];simp)⟩;rcases(accL_mem l reps _ _ _).2 hm with hm | hm
 ·split at hm
  ·rename_i hc;exact hc
  ·have:=hAsub _ hm
   exact absurd rfl (hn3 _ this _ List.mem_cons_self)
 ·exact absurd hm hn4
theorem acc_right{l:List (Ca ν ρ)}(reps:List ρ)(hok:okV l=true):∀u∈unitsV l,(u∈accV l reps↔hitV l reps (accV l reps) u=true):=fun u hu=>acc_char reps (order_ok l) (ok_all hok u hu)
theorem acc_sub(l:List (Ca ν ρ))(reps:List ρ):∀u∈accV l reps,u∈unitsV l:=fun u hu=>by
 rcases(accL_mem l reps _ _ _).2 hu with h | h
 ·simp at h
 ·exact(order_ok l).sub u h
end
end Go.Proofs.YtchfcgilpjkmhaaGreatDoor
namespace Go.Proofs.YtchfcgilpjkmhaaGreatDoor
open Go.ChangeShapes Go.WideShapes Go.ChangeAt Go.RowKit Go.Deep
structure Rep where
 unit:ByteArray
 code:Int
 deriving DecidableEq
abbrev Cs:=Ca ByteArray Rep
abbrev Rep.val(r:Rep):Value:= .agg #[.string r.unit,.int .i64 r.code]
def Rep.ok(r:Rep):Prop:=r.unit.size≤maxLen∧(Lit.int .i64 r.code).wf=true
theorem stringInv{v:Value}{l:Lit}(h:keyOf Tryz.prog 9 v=some l):∃x:ByteArray,x.size≤maxLen∧v= .string x:=by
 cases v<;>simp[keyOf,Tryz.underlying9,mapKey]at h
 exact⟨_,h.1,rfl⟩
noncomputable def KS:MKind ByteArray where
 t:=113
 k:=9
 vl:=fun s=> .string s
 lit:=fun s=> .string s.data.toList
 good:=fun s=>s.size≤maxLen
 law:=Maps.string_keyed Tryz.underlying9
 und:=Tryz.underlying113
 key:=fun _ h=>WideMaps.keyOf_string_mk Tryz.underlying9 h
 inj:=fun x y h=>by injection h
 inv:=fun v l h=>stringInv h
theorem cells46:Tryz.prog.cellsOf 41=2:=by kernel_rfl
theorem cells9:Tryz.prog.cellsOf 9=1:=by kernel_rfl
theorem cells3:Tryz.prog.cellsOf 3=1:=by kernel_rfl
theorem keyTypeR:Tryz.prog.keyTypeAt (Tryz.prog.types.size+1) 41=true:=by kernel_rfl
theorem rowR:(41:TypeId)<Tryz.prog.types.size:=of_decide_eq_true kz
theorem sizeR:∃n,Tryz.prog.types.size+1=n+2:=by
 have h:0<Tryz.prog.types.size:=Nat.lt_of_le_of_lt (Nat.zero_le _) rowR;generalize Tryz.prog.types.size=z at h;exact⟨z-1,by omega⟩
theorem wideR:(match Tryz.prog.underlying 41 with | some (.array _ _) | some (.struct _)=>true | _=>false)=true:=by kernel_rfl
theorem lawR:WideMaps.KeyLaw Tryz.prog 41:=deep_law_laid laid (m:=2) (by omega) rowR kz wideR
theorem litsR(d:Nat)(r:Rep)(h:r.ok):Tryz.prog.keyLits (d+2) 41 [.string r.unit,.int .i64 r.code]=some [.string r.unit.data.toList,.int .i64 r.code]:=by
 have h1:=h.1;have h2:=h.2;simp[Program.keyLits,Tryz.underlying41,Tryz.underlying9,Tryz.underlying3,cells46,cells9,cells3,h1,h2]
theorem keyR(r:Rep)(h:r.ok):keyOf Tryz.prog 41 r.val=some (.string (keyBytes [.string r.unit.data.toList,.int .i64 r.code])):=by
 have hk:Tryz.prog.keyType 41=true:=keyTypeR;unfold keyOf;simp[Tryz.underlying41,hk,Value.formed,cells46,Value.cells,litsR 408 r h]
theorem two_of{cs:Array Value}(h:cs.size=2):∃a b,cs= #[a,b]:=by
 obtain⟨l⟩:=cs
 match l,h with
 | [a,b],_=>exact⟨a,b,rfl⟩
theorem litsInv(d:Nat)(a b:Value)(ls:List Lit)(h:Tryz.prog.keyLits (d+1) 41 [a,b]=some ls):∃x:Rep,a= .string x.unit∧b= .int .i64 x.code:=by
 unfold Program.keyLits at h;simp only[Tryz.underlying41]at h
 cases hx:Tryz.prog.keyLits d 9 [a]with
 | none=>simp[cells46,cells9,cells3,hx]at h
 | some x=>
  cases hy:Tryz.prog.keyLits d 3 [b]with
  | none=>simp[cells46,cells9,cells3,hx,hy]at h
  | some y=>
   obtain⟨s,hs,e1⟩:=keyLits_string' Tryz.underlying9 hx;obtain⟨n,hn,e2⟩:=keyLits_int' Tryz.underlying3 hy;simp at hs hn;exact⟨⟨s,n⟩,hs,hn⟩
theorem okInv(d:Nat)(x:Rep)(ls:List Lit)(h:Tryz.prog.keyLits (d+2) 41 [.string x.unit,.int .i64 x.code]=some ls):x.ok:=by
 by_cases h1:x.unit.size≤maxLen
 ·by_cases h2:(Lit.int .i64 x.code).wf=true
  ·exact⟨h1,h2⟩
  ·simp[Program.keyLits,Tryz.underlying41,Tryz.underlying9,Tryz.underlying3,cells46,cells9,cells3,h1,h2]at h
 ·simp[Program.keyLits,Tryz.underlying41,Tryz.underlying9,Tryz.underlying3,cells46,cells9,cells3,h1]at h
theorem litsEx{v:Value}{l:Lit}(h:keyOf Tryz.prog 41 v=some l):∃a b d ls,v= .agg #[a,b]∧Tryz.prog.keyLits (d+2) 41 [a,b]=some ls:=by
 unfold keyOf at h;simp only[Tryz.underlying41]at h;split at h
 ·rename_i hc
  rw[Bool.and_eq_true]at hc;rw[Option.map_eq_some_iff]at h;obtain⟨ls,hl,_⟩:=h;obtain⟨cs,rfl,hcs⟩:∃cs:Array Value,v= .agg cs∧cs.size=2:=by
   have:=hc.2
   cases v<;>simp[Value.formed,Tryz.underlying41,cells46]at this
   exact⟨_,rfl,this⟩
  obtain⟨a,b,rfl⟩:=two_of hcs;obtain⟨n,hn⟩:=sizeR;rw[hn]at hl;exact⟨a,b,n,ls,rfl,hl⟩
 ·cases h
theorem repInv{v:Value}{l:Lit}(h:keyOf Tryz.prog 41 v=some l):∃x:Rep,x.ok∧v=x.val:=by
 obtain⟨a,b,d,ls,rfl,hl⟩:=litsEx h;obtain⟨x,rfl,rfl⟩:=litsInv (d+1) a b ls hl;exact⟨x,okInv d x ls hl,rfl⟩
noncomputable def KR:MKind Rep where
 t:=101
 k:=41
 vl:=Rep.val
 lit:=fun r=> .string (keyBytes [.string r.unit.data.toList,.int .i64 r.code])
 good:=Rep.ok
 law:=Maps.Keyed.of_law lawR
 und:=Tryz.underlying101
 key:=keyR
 inj:=fun x y h=>by
  obtain⟨a,b⟩:=x;obtain⟨c,d⟩:=y;simp[Rep.val]at h;rw[h.1,h.2]
 inv:=fun v l h=>repInv h
def memB{α:Type}[DecidableEq α](x:α)(l:List α):Bool:=decide (x∈l)
theorem memB_iff{α:Type}[DecidableEq α]{x:α}{l:List α}:memB x l=true↔x∈l:=by unfold memB;rw[decide_eq_true_eq]
theorem memB_false{α:Type}[DecidableEq α]{x:α}{l:List α}(h:x∉l):memB x l=false:=decide_eq_false h
theorem str_ne{x s:ByteArray}(h:x≠s):(x.toList==s.toList)=false:=by
 rw[beq_eq_false_iff_ne];intro e;rw[ByteArray.toList_eq,ByteArray.toList_eq]at e;exact h (ByteArray.ext (Array.toList_inj.1 e))
theorem str_eq{x s:ByteArray}(h:x=s):(x.toList==s.toList)=true:=by subst h;simp
instance:Inhabited Rep:=⟨⟨⟨#[]⟩,0⟩⟩
structure SlV where
 a:Option Addr
 n:Nat
 c:Nat
 deriving Inhabited
abbrev SlV.val(s:SlV):Value:= .slice s.a s.n s.c
def RdStr(w:World)(B:Nat)(A:Option Addr)(l:List ByteArray):Prop:=
 0<l.length→∃b o,A=some ⟨b,o,none⟩∧b<B∧∀i (h:i<l.length),w.cell? ⟨b,o+i,none⟩=some (.string l[i])
def RdRep(w:World)(B:Nat)(A:Option Addr)(l:List Rep):Prop:=
 0<l.length→∃b o,A=some ⟨b,o,none⟩∧b<B∧∀i (h:i<l.length),w.cell? ⟨b,o+i*2,none⟩=some (.string l[i].unit)∧w.cell? ⟨b,o+i*2+1,none⟩=some (.int .i64 l[i].code)
structure CsV where
 c:Cs
 n:SlV
 x:SlV
abbrev CsV.val(x:CsV):Value:= .agg #[.string x.c.unit,.slice x.n.a x.n.n x.n.c,.slice x.x.a x.x.n x.x.c]
structure CsV.rd(w:World)(B:Nat)(x:CsV):Prop where
 nl:x.n.n=x.c.needs.length
 nc:x.n.n≤x.n.c
 nm:x.n.c≤maxLen
 n:RdRep w B x.n.a x.c.needs
 xl:x.x.n=x.c.excl.length
 xc:x.x.n≤x.x.c
 xm:x.x.c≤maxLen
 x:RdStr w B x.x.a x.c.excl
def RdCs(w:World)(B:Nat)(A:Option Addr)(l:List CsV):Prop:=
 0<l.length→∃b o,A=some ⟨b,o,none⟩∧b<B∧∀i (h:i<l.length),w.cell? ⟨b,o+i*3,none⟩=some (.string l[i].c.unit)∧w.cell? ⟨b,o+i*3+1,none⟩=some l[i].n.val∧w.cell? ⟨b,o+i*3+2,none⟩=some l[i].x.val∧l[i].rd w B
structure OkC(c:Cs):Prop where
 u:c.unit.size≤maxLen
 n:∀r∈c.needs,r.ok
 x:∀s∈c.excl,s.size≤maxLen
section
variable {w w':World} {B B':Nat} {A:Option Addr}
theorem RdStr.nil:RdStr w B A []:=fun h=>absurd h (by simp)
theorem RdRep.nil:RdRep w B A []:=fun h=>absurd h (by simp)
theorem RdCs.nil:RdCs w B A []:=fun h=>absurd h (by simp)
theorem RdStr.to_{l:List ByteArray}(h:RdStr w B A l)(hB:B≤B')(hk:∀b o,b<B→w'.cell? ⟨b,o,none⟩=w.cell? ⟨b,o,none⟩):RdStr w' B' A l:=fun hn=>by
 obtain⟨b,o,rfl,hbB,hc⟩:=h hn;exact⟨b,o,rfl,by omega,fun i hi=>(hk b _ hbB).trans (hc i hi)⟩
theorem RdRep.to_{l:List Rep}(h:RdRep w B A l)(hB:B≤B')(hk:∀b o,b<B→w'.cell? ⟨b,o,none⟩=w.cell? ⟨b,o,none⟩):RdRep w' B' A l:=fun hn=>by
 obtain⟨b,o,rfl,hbB,hc⟩:=h hn;exact⟨b,o,rfl,by omega,fun i hi=>⟨(hk b _ hbB).trans (hc i hi).1,(hk b _ hbB).trans (hc i hi).2⟩⟩
theorem CsV.rd.to_{x:CsV}(h:x.rd w B)(hB:B≤B')(hk:∀b o,b<B→w'.cell? ⟨b,o,none⟩=w.cell? ⟨b,o,none⟩):x.rd w' B':=
 ⟨h.nl,h.nc,h.nm,h.n.to_ hB hk,h.xl,h.xc,h.xm,h.x.to_ hB hk⟩
theorem RdCs.to_{l:List CsV}(h:RdCs w B A l)(hB:B≤B')(hk:∀b o,b<B→w'.cell? ⟨b,o,none⟩=w.cell? ⟨b,o,none⟩):RdCs w' B' A l:=fun hn=>by
 obtain⟨b,o,rfl,hbB,hc⟩:=h hn;exact⟨b,o,rfl,by omega,fun i hi=>⟨(hk b _ hbB).trans (hc i hi).1,(hk b _ hbB).trans (hc i hi).2.1,(hk b _ hbB).trans (hc i hi).2.2.1,(hc i hi).2.2.2.to_ hB hk⟩⟩
theorem bcell{B:Nat}(hb:Below B w w'):∀b o,b<B→w'.cell? ⟨b,o,none⟩=w.cell? ⟨b,o,none⟩:=fun b o h=>hb.cell (p:=⟨b,o,none⟩) h
theorem RdStr.below{l:List ByteArray}(h:RdStr w w.heap.size A l)(hb:Below w.heap.size w w'):RdStr w' w'.heap.size A l:=h.to_ hb.size (bcell hb)
theorem RdRep.below{l:List Rep}(h:RdRep w w.heap.size A l)(hb:Below w.heap.size w w'):RdRep w' w'.heap.size A l:=h.to_ hb.size (bcell hb)
theorem CsV.rd.below{x:CsV}(h:x.rd w w.heap.size)(hb:Below w.heap.size w w'):x.rd w' w'.heap.size:=h.to_ hb.size (bcell hb)
theorem RdCs.below{l:List CsV}(h:RdCs w w.heap.size A l)(hb:Below w.heap.size w w'):RdCs w' w'.heap.size A l:=h.to_ hb.size (bcell hb)
theorem RdStr.keep{l:List ByteArray}(h:RdStr w B A l)(hb:Below B w w'):RdStr w' B A l:=h.to_ (Nat.le_refl _) (bcell hb)
theorem RdRep.keep{l:List Rep}(h:RdRep w B A l)(hb:Below B w w'):RdRep w' B A l:=h.to_ (Nat.le_refl _) (bcell hb)
theorem CsV.rd.keep{x:CsV}(h:x.rd w B)(hb:Below B w w'):x.rd w' B:=h.to_ (Nat.le_refl _) (bcell hb)
theorem RdCs.keep{l:List CsV}(h:RdCs w B A l)(hb:Below B w w'):RdCs w' B A l:=h.to_ (Nat.le_refl _) (bcell hb)
theorem RdStr.more{l:List ByteArray}(h:RdStr w B A l)(hB:B≤B'):RdStr w B' A l:=h.to_ hB fun _ _ _=>rfl
theorem RdRep.more{l:List Rep}(h:RdRep w B A l)(hB:B≤B'):RdRep w B' A l:=h.to_ hB fun _ _ _=>rfl
theorem CsV.rd.more{x:CsV}(h:x.rd w B)(hB:B≤B'):x.rd w B':=h.to_ hB fun _ _ _=>rfl
theorem RdCs.more{l:List CsV}(h:RdCs w B A l)(hB:B≤B'):RdCs w B' A l:=h.to_ hB fun _ _ _=>rfl
end
def Rep.g(r:Rep):List G:= [.one (.string r.unit),.one (.int .i64 r.code)]
end Go.Proofs.YtchfcgilpjkmhaaGreatDoor
namespace Go.Proofs.YtchfcgilpjkmhaaGreatDoor
open Go.ChangeShapes Go.WideShapes Go.ChangeAt Go.RowKit
theorem rowsIn_wide{n:Nat}{P:Program}{row:String}{args:Array Value}{w:World}{R:Value→World→Prop}(h:Rows P row args w R):RowsIn Fence.wide n P row args w R:=fun c cs _=>
 let ⟨v,w',r,s⟩:=h c cs;⟨v,w',r,stepsIn_wide.2 s⟩
theorem oper_round{P:Program}{l n:Nat}{o:Oper}{a:Act}{w:World}{K:Act→World→Prop}{Q:Exit→Act→World→Prop}(ho:∀c,o.op≠ .defer c)(h:o.wp P a w K Q):o.wpIn (Fence.wide.inRound l) n P a w K Q:=by
 unfold Oper.wpIn;refine⟨fun _ _=>trivial,?_⟩;rw[Oper.semAt_eq _ _ _ ho];unfold Oper.wp at h;generalize (execOp a.eval o).run P w=r at*
 cases r with
 | ok x w'=>
  cases x with
  | value v=>exact h
  | skip=>exact h
  | defer d=>exact h
  | enter f args=>exact⟨fun h=>by simp[Fence.wide]at h,CallsIn.inRound l ((callsIn_wide.2 h).mono fun e w'' he=>by cases e<;>exact he)⟩
  | row row args=>exact⟨fun h=>by simp[Fence.wide]at h,rowsIn_wide h⟩
  | _=>exact h.elim
 | halt x w'=>cases x<;>first | exact h | exact h.elim
section
variable {P:Program} {ops:Array Oper} {Q:Exit→Act→World→Prop} {S:World→Prop} {md:Region.Mode} {l n:Nat}
theorem wpAnyIn_round(hd:∀(i:Nat) (o:Oper),ops[i]?=some o→∀c,o.op≠ .defer c)(hQ:¬LetsOut Q):∀(fuel:Nat) (listed:Array Bool) (a:Act) (w:World),wpAny P md ops Q fuel listed a w→wpAnyIn (Fence.wide.inRound l) n P md ops Q fuel listed a w
 | 0,_,_,_,h=>h
 | fuel+1,listed,a,w,h=>by
  refine⟨h.1,fun i hi=> ?_⟩;have h2:=wpOp_mono (fun a w=>wpAnyIn_round hd hQ fuel (listed.setIfInBounds i true) a w) (h.2 i hi);unfold wpOp at h2;unfold wpOpIn;split
  ·rename_i he;simpa [he]using h2
  ·rename_i o ho
   simp only[ho]at h2;split
   ·rename_i hw
    simp only[hw,if_true]at h2;rcases h2 with h2 | ⟨_,h2⟩
    ·exact oper_round (hd i o ho) h2
    ·exact absurd h2 hQ
   ·rename_i hw
    simp only[hw]at h2;exact⟨fun _ _=>trivial,h2⟩
def noDefer(ops:Array Oper):Bool:=ops.all fun o=>match o.op with | .defer _=>false | _=>true
theorem noDefer_spec(h:noDefer ops=true)(i:Nat)(o:Oper)(ho:ops[i]?=some o)(c:Call):o.op≠ .defer c:=fun e=>by
 obtain⟨hlt,rfl⟩:=Array.getElem?_eq_some_iff.1 ho;have:=Array.all_eq_true.1 h i hlt;simp[e]at this
end
end Go.Proofs.YtchfcgilpjkmhaaGreatDoor
namespace Go.Proofs.YtchfcgilpjkmhaaGreatDoor
open Go.ChangeShapes Go.WideShapes Go.ChangeAt Go.RowKit
section
variable {P:Program} {ops:Array Oper} {Q:Exit→Act→World→Prop} {md:Region.Mode} {S:World→Prop} {s:Nat}
def wpAnyS(P:Program)(md:Region.Mode)(ops:Array Oper)(Q:Exit→Act→World→Prop)(S:World→Prop)(s:Nat):Nat→Array Bool→Act→World→Prop
 | 0,listed,a,w=>Region.ready md ops listed= []∧Q .normal a w
 | fuel+1,listed,a,w=>
  (Region.ready md ops listed= []→Q .normal a w)∧
  ∀i∈Region.ready md ops listed,wpOp P ops Q i (fun a' w'=>((listed.setIfInBounds i true).getD s false=false→S w')∧wpAnyS P md ops Q S s fuel (listed.setIfInBounds i true) a' w') a w
theorem wpAny_of_S:∀(fuel:Nat) (listed:Array Bool) (a:Act) (w:World),wpAnyS P md ops Q S s fuel listed a w→wpAny P md ops Q fuel listed a w
 | 0,_,_,_,h=>h
 | fuel+1,_,_,_,h=>⟨h.1,fun i hi=>wpOp_mono (fun a' w' h'=>wpAny_of_S fuel _ a' w' h'.2) (h.2 i hi)⟩
theorem getD_set_far(listed:Array Bool){i j:Nat}(h:i≠j):(listed.setIfInBounds i true).getD j false=listed.getD j false:=getD_set_ne false h
theorem wpAnyS_first{i:Nat}{oi:Oper}{v:Value}(hi:ops[i]?=some oi)(hsel:∀(j:Nat) (o:Oper) cs b,ops[j]?=some o→o.op≠ .select cs b)
 (hQ:∀c a w,Q (.panic c) (a.put oi.dst v) w→Q (.panic c) a w) (C:List Nat) (hsC:s∈C) (hiC:i∉C) (hs:∀j∈C,∀oj,ops[j]?=some oj→∃e∈oj.after,Region.binds md e=true∧(e.on=i∨e.on∈C)):
 ∀(fuel:Nat) (listed:Array Bool) (a:Act) (w:World),
  (∀j oj,ops[j]?=some oj→j≠i→listed.getD j true=false→(∀e∈oj.after,Region.binds md e=true→e.on≠i)→oi.apart ops oj=true)→
  i∈Region.ready md ops listed→YieldsIf P ops S oi v a→S w→(∀j∈C,listed.getD j false=false)→
  wpAnyS P md ops Q S s fuel (listed.setIfInBounds i true) (a.put oi.dst v) w→wpAnyS P md ops Q S s (fuel+1) listed a w:=by
 intro fuel
 induction fuel with
 | zero=>
  intro listed a w _ hr hy hS hls H;refine⟨fun h=>(by rw[h]at hr;cases hr),fun j hj=> ?_⟩;by_cases hji:j=i
  ·subst hji;exact hy.wpOp hi hS ⟨fun _=>hS,H⟩
  ·have:=ready_mono hj hji
   rw[H.1]at this
   cases this
 | succ fuel ih=>
  intro listed a w hfree hr hy hS hls H;refine⟨fun h=>(by rw[h]at hr;cases hr),fun j hj=> ?_⟩;by_cases hji:j=i
  ·subst hji;exact hy.wpOp hi hS ⟨fun _=>hS,H⟩
  ·have h1:=H.2 j (ready_mono hj hji)
   obtain⟨hjun,oj,hoj,hall⟩:=mem_ready.1 hj;have hnot:∀e∈oj.after,Region.binds md e=true→e.on≠i:=fun e he hb heq=>by
    have h1:=hall e he hb;have h0:=(mem_ready.1 hr).1;rw[heq]at h1;rcases Nat.lt_or_ge i listed.size with h' | h'
    ·simp[h']at h0 h1;rw[h0]at h1;cases h1
    ·simp[Array.getElem?_eq_none h']at h1
   have hjC:j∉C:=fun hj=>by
    obtain⟨e,he,hb,hon⟩:=hs j hj oj hoj;rcases hon with hon | hon
    ·exact hnot e he hb hon
    ·have h1:=hall e he hb
     have h0:=hls e.on hon;rcases Nat.lt_or_ge e.on listed.size with h' | h'
     ·simp[h']at h0 h1;rw[h0]at h1;cases h1
     ·simp[Array.getElem?_eq_none h']at h1
   have hjs:j≠s:=fun e=>hjC (e▸hsC)
   have hsi:s≠i:=fun e=>hiC (e▸hsC)
   have h2:=wpOp_putIf hoj (hfree j oj hoj hji hjun hnot) (fun cs b=>hsel i oi cs b hi) (fun cs b=>hsel j oj cs b hoj) hQ hy h1;have hfree':∀k ok,ops[k]?=some ok→k≠i→(listed.setIfInBounds j true).getD k true=false→
    (∀e∈ok.after,Region.binds md e=true→e.on≠i)→oi.apart ops ok=true:=fun k ok hk hki hun hno=>by
    refine hfree k ok hk hki ?_ hno;by_cases hjk:j=k
    ·subst hjk;exact hjun
    ·rw[getD_set_ne true hjk]at hun;exact hun
   have hl':∀x∈C,(listed.setIfInBounds j true).getD x false=false:=fun x hx=>by rw[getD_set_far _ (show j≠x from fun e=>hjC (by rw[e];exact hx))];exact hls x hx
   have hl2:((listed.setIfInBounds i true).setIfInBounds j true).getD s false=false:=by rw[getD_set_far _ hjs,getD_set_far _ (Ne.symm hsi)];exact hls s hsC
   refine wpOp_mono (fun a' w' h3=>⟨fun _=>h3.2.1 hl2,ih (listed.setIfInBounds j true) a' w' hfree' (ready_mono hr (Ne.symm hji)) h3.1 (h3.2.1 hl2) hl' ?_⟩) h2;rw[Array.setIfInBounds_comm _ _ hji];exact h3.2.2
theorem wpAnyS_firstT{i:Nat}{oi:Oper}{v:Value}(hi:ops[i]?=some oi)(hsel:∀(j:Nat) (o:Oper) cs b,ops[j]?=some o→o.op≠ .select cs b)
 (hQ:∀c a w,Q (.panic c) (a.put oi.dst v) w→Q (.panic c) a w) (hsi:s≠i):
 ∀(fuel:Nat) (listed:Array Bool) (a:Act) (w:World),
  (∀j oj,ops[j]?=some oj→j≠i→listed.getD j true=false→(∀e∈oj.after,Region.binds md e=true→e.on≠i)→oi.apart ops oj=true)→
  i∈Region.ready md ops listed→YieldsIf P ops (fun _=>True) oi v a→(listed.getD s false=false→S w)→
  wpAnyS P md ops Q S s fuel (listed.setIfInBounds i true) (a.put oi.dst v) w→wpAnyS P md ops Q S s (fuel+1) listed a w:=by
 intro fuel
 induction fuel with
 | zero=>
  intro listed a w _ hr hy hS H;refine⟨fun h=>(by rw[h]at hr;cases hr),fun j hj=> ?_⟩;by_cases hji:j=i
  ·subst hji;exact hy.wpOp hi trivial ⟨fun h=>hS (by rw[getD_set_far _ (Ne.symm hsi)]at h;exact h),H⟩
  ·have:=ready_mono hj hji
   rw[H.1]at this
   cases this
 | succ fuel ih=>
  intro listed a w hfree hr hy hS H;refine⟨fun h=>(by rw[h]at hr;cases hr),fun j hj=> ?_⟩;by_cases hji:j=i
  ·subst hji;exact hy.wpOp hi trivial ⟨fun h=>hS (by rw[getD_set_far _ (Ne.symm hsi)]at h;exact h),H⟩
  ·have h1:=H.2 j (ready_mono hj hji)
   obtain⟨hjun,oj,hoj,hall⟩:=mem_ready.1 hj;have hnot:∀e∈oj.after,Region.binds md e=true→e.on≠i:=fun e he hb heq=>by
    have h1:=hall e he hb;have h0:=(mem_ready.1 hr).1;rw[heq]at h1;rcases Nat.lt_or_ge i listed.size with h' | h'
    ·simp[h']at h0 h1;rw[h0]at h1;cases h1
    ·simp[Array.getElem?_eq_none h']at h1
   have h2:=wpOp_putIf hoj (hfree j oj hoj hji hjun hnot) (fun cs b=>hsel i oi cs b hi) (fun cs b=>hsel j oj cs b hoj) hQ hy h1;have hfree':∀k ok,ops[k]?=some ok→k≠i→(listed.setIfInBounds j true).getD k true=false→
    (∀e∈ok.after,Region.binds md e=true→e.on≠i)→oi.apart ops ok=true:=fun k ok hk hki hun hno=>by
    refine hfree k ok hk hki ?_ hno;by_cases hjk:j=k
    ·subst hjk;exact hjun
    ·rw[getD_set_ne true hjk]at hun;exact hun
   have hcv:∀h:(listed.setIfInBounds j true).getD s false=false,((listed.setIfInBounds i true).setIfInBounds j true).getD s false=false:=fun h=>by
    rw[Array.setIfInBounds_comm _ _ (Ne.symm hji),getD_set_far _ (Ne.symm hsi)];exact h
   refine wpOp_mono (fun a' w' h3=>⟨fun h=>h3.2.1 (hcv h),ih (listed.setIfInBounds j true) a' w' hfree' (ready_mono hr (Ne.symm hji)) h3.1 (fun h=>h3.2.1 (hcv h)) ?_⟩) h2;rw[Array.setIfInBounds_comm _ _ hji];exact h3.2.2
theorem wpAnyS_takeT{i:Nat}{oi:Oper}{v:Value}{fuel:Nat}{listed:Array Bool}{a:Act}{w:World}(hi:ops[i]?=some oi)
 (hs:Region.noSelect ops=true) (hf:Region.free md ops listed i=true) (hr:(Region.ready md ops listed).contains i=true) (hw:(s !=i)=true)
 (hQ:∀c a w,Q (.panic c) (a.put oi.dst v) w→Q (.panic c) a w) (hy:YieldsIf P ops (fun _=>True) oi v a) (hS:S w)
 (h:wpAnyS P md ops Q S s fuel (listed.setIfInBounds i true) (a.put oi.dst v) w):wpAnyS P md ops Q S s (fuel+1) listed a w:=
 wpAnyS_firstT hi (Region.noSelect_spec hs) hQ (by simpa using hw) fuel listed a w (Region.free_spec hi hf) (by simpa using hr) hy (fun _=>hS) h
def after_(md:Region.Mode)(ops:Array Oper)(i:Nat):List Nat:=
 (List.range ops.size).foldl (fun C j=>match ops[j]? with
  | some o=>if o.after.any (fun e=>Region.binds md e&&(e.on==i||C.contains e.on))then j :: C else C
  | none=>C) []
def waits(md:Region.Mode)(ops:Array Oper)(C:List Nat)(s i:Nat)(listed:Array Bool):Bool:=
 C.contains s&& !C.contains i&&C.all (fun j=> !listed.getD j false&&match ops[j]? with
  | some o=>o.after.any fun e=>Region.binds md e&&(e.on==i||C.contains e.on)
  | none=>true)
theorem wpAnyS_take{i:Nat}{oi:Oper}{v:Value}{fuel:Nat}{listed:Array Bool}{a:Act}{w:World}(hi:ops[i]?=some oi)
 (hs:Region.noSelect ops=true) (hf:Region.free md ops listed i=true) (hr:(Region.ready md ops listed).contains i=true) (hw:waits md ops (after_ md ops i) s i listed=true)
 (hQ:∀c a w,Q (.panic c) (a.put oi.dst v) w→Q (.panic c) a w) (hy:YieldsIf P ops S oi v a) (hS:S w)
 (h:wpAnyS P md ops Q S s fuel (listed.setIfInBounds i true) (a.put oi.dst v) w):wpAnyS P md ops Q S s (fuel+1) listed a w:=by
 generalize after_ md ops i=C at hw;simp only[waits,Bool.and_eq_true,Bool.not_eq_true',List.all_eq_true,List.contains_iff_mem]at hw;obtain⟨⟨h1,h2⟩,h3⟩:=hw;refine wpAnyS_first hi (Region.noSelect_spec hs) hQ C h1 (fun e=>by rw[←List.contains_iff_mem,h2]at e;cases e) (fun j hj oj ho=> ?_) fuel listed a w (Region.free_spec hi hf) (by simpa using hr) hy hS (fun j hj=>(h3 j hj).1) h;have h4:=(h3 j hj).2;rw[ho]at h4;simp only[Array.any_eq_true']at h4;obtain⟨e,he,hb⟩:=h4;simp only[Bool.and_eq_true,Bool.or_eq_true,beq_iff_eq,List.contains_iff_mem]at hb;exact⟨e,he,hb.1,hb.2⟩
def AllReadyS(P:Program)(md:Region.Mode)(ops:Array Oper)(Q:Exit→Act→World→Prop)(S:World→Prop)(s:Nat)(fuel:Nat)(listed:Array Bool)(a:Act)(w:World)(rs:List Nat):Prop:=
 ∀i∈rs,wpOp P ops Q i (fun a' w'=>((listed.setIfInBounds i true).getD s false=false→S w')∧wpAnyS P md ops Q S s fuel (listed.setIfInBounds i true) a' w') a w
theorem AllReadyS.nil{fuel:Nat}{listed:Array Bool}{a:Act}{w:World}:AllReadyS P md ops Q S s fuel listed a w []:=fun _ h=>by cases h
theorem AllReadyS.cons{fuel:Nat}{listed:Array Bool}{a:Act}{w:World}{i:Nat}{o:Oper}{rs:List Nat}(ho:ops[i]?=some o)
 (h:∀K':Act→World→Prop,Go.Shut (∀a w,((listed.setIfInBounds i true).getD s false=false→S w)→wpAnyS P md ops Q S s fuel (listed.setIfInBounds i true) a w→K' a w)→if Region.wanted o (yielded ops a.tmps)=true then Oper.wp P o a w K' Q else K' (a.put o.dst undef) w)
 (hs:AllReadyS P md ops Q S s fuel listed a w rs):AllReadyS P md ops Q S s fuel listed a w (i :: rs):=fun j hj=>by
 rcases List.mem_cons.1 hj with rfl | hj
 ·exact wpOp_step ho (fun K' hK=>h K' (fun a w hS hW=>hK a w ⟨hS,hW⟩))
 ·exact hs j hj
theorem wpAnyS_ready{rs:List Nat}{fuel:Nat}{listed:Array Bool}{a:Act}{w:World}(hr:Region.ready md ops listed=rs)(hne:rs≠ [])
 (h:AllReadyS P md ops Q S s fuel listed a w rs):wpAnyS P md ops Q S s (fuel+1) listed a w:=⟨fun h0=>absurd (hr▸h0) hne,hr▸h⟩
theorem wpAnyS_done{listed:Array Bool}{a:Act}{w:World}(hr:Region.ready md ops listed= [])(h:Q .normal a w):∀fuel,wpAnyS P md ops Q S s fuel listed a w
 | 0=>⟨hr,h⟩
 | _+1=>⟨fun _=>h,by rw[hr];simp⟩
theorem wpIn_region_roundS{l n:Nat}{id:Nat}{a:Act}{w:World}(S:World→Prop)(s:Nat)(hm:P.follows .mixedOrders=true)(hd:noDefer ops=true)(hQ:¬LetsOut Q)
 (hS:S w.drew) (h:S w.drew→wpAnyS P .any ops Q S s ops.size (Array.replicate ops.size false) a w.drew):(Code.region id ops true).wpIn (Fence.wide.inRound l) n P Q a w:=
 wpIn_region_any hm (wpAnyIn_round (noDefer_spec hd) hQ _ _ _ _ (wpAny_of_S _ _ _ _ (h hS)))
end
end Go.Proofs.YtchfcgilpjkmhaaGreatDoor
namespace Go.Proofs.YtchfcgilpjkmhaaGreatDoor
open Go.ChangeShapes Go.WideShapes Go.ChangeAt Go.RowKit
structure Gr(X:Nat→Prop)(w w':World):Prop where
 os:w'.os=w.os
 tape:w'.tape=w.tape
 output:w'.output=w.output
 size:w.heap.size≤w'.heap.size
 block:∀k,k<w.heap.size→¬X k→w'.heap[k]?=w.heap[k]?
theorem Gr.refl(X:Nat→Prop)(w:World):Gr X w w:=⟨rfl,rfl,rfl,Nat.le_refl _,fun _ _ _=>rfl⟩
theorem Gr.trans{X:Nat→Prop}{a b c:World}(h:Gr X a b)(k:Gr X b c):Gr X a c:=
 ⟨k.os.trans h.os,k.tape.trans h.tape,k.output.trans h.output,Nat.le_trans h.size k.size,fun i hi hx=>(k.block i (Nat.lt_of_lt_of_le hi h.size) hx).trans (h.block i hi hx)⟩
theorem Gr.mono{X Y:Nat→Prop}{a b:World}(h:Gr X a b)(hx:∀k,k<a.heap.size→X k→Y k):Gr Y a b:=
 ⟨h.os,h.tape,h.output,h.size,fun i hi hy=>h.block i hi fun x=>hy (hx i hi x)⟩
theorem Gr.of_grown{X:Nat→Prop}{a b:World}{row:Option Nat}(h:a.grownBy b row)(hx:∀k,row=some k→X k):Gr X a b:=
 ⟨h.os,h.tape,h.output,h.size,fun i hi hn=>h.block i hi fun e=>hn (hx i e.symm)⟩
theorem Gr.of_below{X:Nat→Prop}{a b:World}(h:Below a.heap.size a b):Gr X a b:=⟨h.os,h.tape,h.output,h.size,fun i hi _=>h.block i hi⟩
theorem Gr.alloc(X:Nat→Prop)(w:World)(o:Obj):Gr X w (w.alloc o):= .of_below ((Below.refl _ w).alloc (Nat.le_refl _) _)
theorem Gr.setCell{X:Nat→Prop}(w:World)(a:Addr)(v:Value)(h:X a.block):Gr X w (w.setCell a v):=
 ⟨rfl,rfl,rfl,by simp[World.setCell],fun k _ hx=>Below.heap_setCell w a v k (fun e=>hx (e▸h))⟩
theorem Gr.grown{X:Nat→Prop}{w a b:World}{r:Nat}(h:w.grownBy a (some r))(k:Gr X a b)(hx:∀k,k<w.heap.size→X k→k=r):w.grownBy b (some r):=
 ⟨k.os.trans h.os,k.tape.trans h.tape,k.output.trans h.output,Nat.le_trans h.size k.size,fun i hi hn=>(k.block i (Nat.lt_of_lt_of_le hi h.size) (fun x=>hn (by rw[hx i hi x]))).trans (h.block i hi hn)⟩
theorem Gr.cell{X:Nat→Prop}{a b:World}(h:Gr X a b){p:Addr}{v:Value}(hv:a.cell? p=some v)(hx:¬X p.block):b.cell? p=some v:=
 (World.cell?_of_block (h.block p.block (World.block_lt_of_cell? a p hv) hx)).trans hv
theorem Gr.blk{X:Nat→Prop}{a b:World}(h:Gr X a b){g:Nat}{t:TypeId}{cs:Array Value}(hb:Blk a g t cs)(hx:¬X g):Blk b g t cs:=(h.block g hb.lt hx).trans hb
end Go.Proofs.YtchfcgilpjkmhaaGreatDoor
namespace Go.Proofs.YtchfcgilpjkmhaaGreatDoor
open Go.ChangeShapes Go.WideShapes Go.ChangeAt Go.RowKit
def regAt(id:Nat):Code→Option Code
 | .region i ops d=>if i=id then some (.region i ops d)else none
 | .seq a b=>match regAt id a with | some c=>some c | none=>regAt id b
 | .cond _ a b=>match regAt id a with | some c=>some c | none=>regAt id b
 | .block _ b=>regAt id b
 | .loop b=>regAt id b
 | .scope b=>regAt id b
 | .rangeFunc _ _ a b=>match regAt id a with | some c=>some c | none=>regAt id b
 | _=>none
theorem wp_region_S{P:Program}{id:Nat}{ops:Array Oper}{Q:Exit→Act→World→Prop}{a:Act}{w:World}(S:World→Prop)(s:Nat)(hm:P.follows .mixedOrders=true)(hS:S w.drew)
 (h:S w.drew→wpAnyS P .any ops Q S s ops.size (Array.replicate ops.size false) a w.drew):(Code.region id ops true).wp P Q a w:=
 wp_region_any hm (wpAny_of_S _ _ _ _ (h hS))
end Go.Proofs.YtchfcgilpjkmhaaGreatDoor
namespace Go.Proofs.YtchfcgilpjkmhaaGreatDoor
open Go.ChangeShapes Go.WideShapes Go.ChangeAt Go.RowKit
attribute [local go_sem] Oper.semAt_some
theorem TS{P:Program}{ops:Array Oper}{Q:Exit→Act→World→Prop}{S:World→Prop}{md:Region.Mode}{s:Nat}(i:Nat){oi:Oper}{v:Value}{fuel:Nat}{listed:Array Bool}{a:Act}{w:World}(hi:ops[i]?=some oi)(hS:S w)
 (h:wpAnyS P md ops Q S s fuel (listed.setIfInBounds i true) (a.put oi.dst v) w) (hx:Region.wanted oi (yielded ops a.tmps)=true:=by rfl) (hy:∀w,S w→(execOp a.eval oi).run P w= .ok (.value v) w:=by
  intro w hSw
  first
  | obtain⟨hS0,hS1,hS2,hS3,hS4,hS5,hS6,hS7,hS8,hS9,hS10,hS11,hS12⟩:=hSw
  | obtain⟨hS0,hS1,hS2,hS3,hS4,hS5,hS6,hS7,hS8,hS9⟩:=hSw
  | obtain⟨hS0,hS1,hS2,hS3,hS4,hS5,hS6,hS7,hS8⟩:=hSw
  | obtain⟨hS0,hS1,hS2,hS3,hS4,hS5,hS6,hS7⟩:=hSw
  | obtain⟨hS0,hS1,hS2,hS3,hS4,hS5,hS6⟩:=hSw
  | obtain⟨hS0,hS1,hS2,hS3,hS4⟩:=hSw
  | obtain⟨hS0,hS1,hS2⟩:=hSw
  | obtain⟨hS0,hS1⟩:=hSw
  | skip
  go_simp
  first | done | with_reducible rfl)
 (hs:Region.noSelect ops=true:=by kernel_rfl) (hf:Region.free md ops listed i=true:=by kernel_rfl) (hr:(Region.ready md ops listed).contains i=true:=by kernel_rfl) (hw:waits md ops (after_ md ops i) s i listed=true:=by kernel_rfl)
 (hQ:∀c a w,Q (.panic c) (a.put oi.dst v) w→Q (.panic c) a w:=by exact fun c a w h=>h):wpAnyS P md ops Q S s (fuel+1) listed a w:=wpAnyS_take hi hs hf hr hw hQ (Or.inl ⟨hx,hy⟩) hS h
theorem TA{P:Program}{ops:Array Oper}{Q:Exit→Act→World→Prop}{S:World→Prop}{md:Region.Mode}{s:Nat}(i:Nat){oi:Oper}{v:Value}{fuel:Nat}{listed:Array Bool}{a:Act}{w:World}(hi:ops[i]?=some oi)(hS:S w)
 (h:wpAnyS P md ops Q S s fuel (listed.setIfInBounds i true) (a.put oi.dst v) w) (hx:Region.wanted oi (yielded ops a.tmps)=true:=by as_aux_lemma=>kernel_rfl) (hy:∀w,S w→(execOp a.eval oi).run P w= .ok (.value v) w:=by intro w hSw;go_simp;first | done | with_reducible rfl)
 (hs:Region.noSelect ops=true:=by as_aux_lemma=>kernel_rfl) (hf:Region.free md ops listed i=true:=by as_aux_lemma=>kernel_rfl) (hr:(Region.ready md ops listed).contains i=true:=by as_aux_lemma=>kernel_rfl) (hw:waits md ops (after_ md ops i) s i listed=true:=by as_aux_lemma=>kernel_rfl)
 (hQ:∀c a w,Q (.panic c) (a.put oi.dst v) w→Q (.panic c) a w:=by exact fun c a w h=>h):wpAnyS P md ops Q S s (fuel+1) listed a w:=wpAnyS_take hi hs hf hr hw hQ (Or.inl ⟨hx,hy⟩) hS h
theorem RQ{P:Program}{md:Region.Mode}{ops:Array Oper}{Q:Exit→Act→World→Prop}{S:World→Prop}{s:Nat}(i:Nat){fuel:Nat}{listed:Array Bool}{a:Act}{w:World}{o:Oper}(ho:ops[i]?=some o)
 (h:∀K':Act→World→Prop,Go.Shut (∀a w,((listed.setIfInBounds i true).getD s false=false→S w)→wpAnyS P md ops Q S s fuel (listed.setIfInBounds i true) a w→K' a w)→if Region.wanted o (yielded ops a.tmps)=true then Oper.wp P o a w K' Q else K' (a.put o.dst undef) w)
 (hr:Region.ready md ops listed= [i]:=by kernel_rfl):wpAnyS P md ops Q S s (fuel+1) listed a w:=wpAnyS_ready hr (by simp) (AllReadyS.cons ho h AllReadyS.nil)
end Go.Proofs.YtchfcgilpjkmhaaGreatDoor
