import Derived.Test.YtchfcgilpjkmhaaGreatDoorY8
import Derived.Test.YtchfcgilpjkmhaaGreatDoorY6
import Derived.Test.YtchfcgilpjkmhaaGreatDoorY38
import Derived.Test.YtchfcgilpjkmhaaGreatDoorY37
import Derived.Test.YtchfcgilpjkmhaaGreatDoorY15
import Derived.Test.YtchfcgilpjkmhaaGreatDoorY0
set_option maxRecDepth 100000
set_option linter.unusedSimpArgs false
set_option linter.unusedVariables false
set_option linter.unusedSectionVars false
namespace Go.Proofs.YtchfcgilpjkmhaaGreatDoor
open Go.ChangeShapes Go.WideShapes Go.ChangeAt Go.RowKit
attribute [local go_sem] Oper.semAt_some
theorem letter_is{b:Int}{r:Bool}(h:letterN b=r)(w:World):Calls Tryz.prog 244 #[.int .u8 b] w fun e w'=>e= .returned (.bool r)∧w=w':=h▸letter_c b w
theorem digit_is{b:Int}{r:Bool}(h:digitN b=r)(w:World):Calls Tryz.prog 245 #[.int .u8 b] w fun e w'=>e= .returned (.bool r)∧w=w':=h▸digit_c b w
structure LexSt(w:World)(out:List Tok)(v:Value)(W:World):Prop where
 below:Below w.heap.size w W
 own:W.ownsRow w.heap.size 264 3 v out.length (out.flatMap Tok.cells)
set_option maxHeartbeats 4000000 in
theorem lex_c(s:ByteArray)(ts:List Tok)(F:Nat)(w:World)(hs:s.size≤1000)(h:lexO s F 0 []=some ts):
 Calls Tryz.prog 189 #[.string s] w fun e w'=>∃A c,e= .returned (.tuple #[.slice A ts.length c,.int .i64 0,.int .i64 0])∧RdTok w' w'.heap.size A ts∧Below w.heap.size w w':=by
 have H:=lz h;obtain⟨i0,hi0,hz0,hz1,hz2⟩:=info_parts info250;have hlen:decide ((s.size:Int)>65536)=false:=by simp;omega
 clear h;go_enter Tryz.func189,Tryz.ntmps189;go_wp2_with fail;go_loopw [5,6] (fun v t wr=>∃(p f:Nat) (out:List Tok),p≤s.size∧out.length≤p∧t= .int .i64 p∧Hid (lexO s f p out=some ts)∧LexSt w out v wr) (fun _ t _=>s.size-(intOf t).toNat)
 case atStart=>exact⟨0,F,[],Nat.zero_le _,Nat.zero_le _,rfl,H,Below.refl _ _,World.ownsRow_nil _ _ _ _⟩
 case round=>
  obtain⟨p,f,out,hp,hop,rfl,hL,hS⟩:=hrel;clear H;obtain⟨f,rfl⟩:=lex_pos hL.out;obtain⟨Av,cv,rfl,_⟩:=own_caps hS.own;have HS:=lz hS;clear hS;by_cases hlt:p<s.size
  ·have hb:=bAt_eq hlt
   have hblank:(bAt s p==32)=true→Hid (lexO s f (p+1) out=some ts):=fun e=>lz (lex_blank hL.out hlt e)
   cases q0:(bAt s p==32)with
   | true=>
    have Hn:=hblank q0;rw[←hb]at q0;clear hblank hL hb;go_wp2_with fail;go_roundw
    case rel=>exact⟨p+1,f,out,by omega,by omega,by go_num,Hn,HS.out⟩
    case measure=>simp[intOf];omega
   | false=>
    obtain⟨q1,q2,q3,q4⟩:=lex_other hL.out hlt q0;have hsg:=sign_c ((s[p]'hlt).toNat:Int) wr;have hlt':=hlt;have i1:(p:Int)≤(p:Int)+1:=by omega
    have i2:(p:Int)+1≤s.size:=by omega
    cases q5:signN (bAt s p)with
    | true=>
     have Hn:=lz (lex_sign hL.out hlt q0 q5);rw[hb,q5,←hb]at hsg;have Hsg:=lz hsg;rw[←hb]at q0 q1 q2 q3 q4;clear hblank hL hb hsg q5;go_wp2_with (first | (go_at_call 243;refine Hsg.out.mono ?_;rintro e w' ⟨rfl,rfl⟩) | (at_builtin;refine wpList_append_own _ rfl (.tmp 56) (.tmp 63) 201 rfl w.heap.size 264 i0 (.agg #[.int .i64 0,.string ⟨#[]⟩,.int .i64 0]) 3 32 Tryz.underlying201 hi0 hz0 hz1 hz2 rfl (by decide) _ _ _ rfl (HS.out.own.alloc _) ⟨wr.heap.size,0,none⟩ 1 1 [.int .i64 3,.string (s.extract p (p+1)),.int .i64 p] rfl rfl ?c1 ?c2 ?c3 ?c4 ?c5 ?_))
     case c1=>
      intro j u' hj;rw[addr_add_none,Nat.zero_add,(Blk.new wr 264 #[.int .i64 3,.string (s.extract p (p+1)),.int .i64 p]).cell j];simpa using hj
     case c2=>intro u' hu';simp at hu';rcases hu' with rfl | rfl | rfl<;>rfl
     case c3=>unfold maxLen;omega
     case c4=>omega
     case c5=>have:=HS.out.below.size;simp;omega
     intro v5 w5 hown5 hg5 _;have hb5:=(HS.out.below.alloc HS.out.below.size (.cells #[.int .i64 3,.string (s.extract p (p+1)),.int .i64 p] 264)).grown hg5 (by have:=HS.out.below.size;simp;omega) (fun g hg=>((HS.out.own.alloc (.cells #[.int .i64 3,.string (s.extract p (p+1)),.int .i64 p] 264)).lt g hg).1);have HR:=lz (And.intro hb5 hown5);clear hown5 hg5 hb5;go_wp2_with fail;go_roundw
     case rel=>exact⟨p+1,f,_,by omega,by simp;omega,by go_num,Hn,HR.out.1,by simpa [Tok.cells]using HR.out.2⟩
     case measure=>simp[intOf];omega
    | false=>
     rw[hb,q5,←hb]at hsg;have Hsg:=lz hsg;have hinn:=fun(k:Nat) (hk:k<s.size)=>inner_c ((s[k]'hk).toNat:Int) wr
     have Hinn:=lz hinn;obtain⟨E,hE⟩:∃E,E=wordEnd s s.size (p+1):=⟨_,rfl⟩;have HE:=lz hE
     cases q6:letterN (bAt s p)with
     | true=>
      have hw:=lex_word hL.out hlt q0 q5 q6;rw[←hE]at hw;have hnm:=fun W=>name_ok (s:=s.extract p E) W hw.1
      have Hnm:=lz hnm;have HL2:=lz hw.2;rw[←hb]at q0 q1 q2 q3 q4 q6;have hle:=fun W=>letter_is q6 W
      have Hle:=lz hle;clear hblank hL hb hsg q5 hle hinn hE hw q6 hnm;go_wp2_with (first | (go_at_call 243;refine Hsg.out.mono ?_;rintro e w' ⟨rfl,rfl⟩) | (go_at_call 244;refine(Hle.out _).mono ?_;rintro e w' ⟨rfl,rfl⟩));go_loopw [8] (fun t wr'=>∃q f2:Nat,p+1≤q∧q≤s.size∧t= .int .i64 q∧Hid (wordEnd s f2 q=E∧s.size≤q+f2)∧wr'=wr) (fun t _=>s.size-(intOf t).toNat)
      case atStart=>exact⟨p+1,s.size,Nat.le_refl _,by omega,by go_num,⟨HE.out.symm,by omega⟩,rfl⟩
      case round=>
       obtain⟨q,f2,hq1,hq2,rfl,hWE,rfl⟩:=hrel;have hex:(¬q<s.size∨innerN (bAt s q)=false)→E=q:=fun h=>by
        rw[←hWE.out.1];rcases h with h | h
        ·exact wordEnd_end h
        ·exact wordEnd_stop h
       by_cases hql:q<s.size
       ·have hin:=fun W=>inner_c ((s[q]'hql).toNat:Int) W
        cases hqi:innerN (bAt s q)with
        | true=>
         obtain⟨f3,rfl⟩:∃f3,f2=f3+1:=⟨f2-1,by have:=hWE.out.2;omega⟩;have hnx:=lz (And.intro ((wordEnd_more hql hqi).symm.trans hWE.out.1) (show s.size≤q+1+f3 by have:=hWE.out.2;omega));rw[bAt_eq hql,hqi,←bAt_eq hql]at hin;have Hin:=lz hin;clear hin hqi hex hWE;go_wp2_with (go_at_call 246;refine(Hin.out _).mono ?_;rintro e w' ⟨rfl,rfl⟩);go_roundw
         case rel=>exact⟨q+1,f3,by omega,by omega,by go_num,hnx,trivial⟩
         case measure=>simp[intOf];omega
        | false=>
         have hEq:=hex (.inr hqi);rw[bAt_eq hql,hqi,←bAt_eq hql]at hin;have Hin:=lz hin;clear hin hqi hex hWE;obtain rfl:=hEq;have hbT:Below wr.heap.size wr (wr.alloc (.cells #[.int .i64 1,.string (s.extract p E),.int .i64 p] 264)):=(Below.refl _ wr).alloc (Nat.le_refl _) _;have HoT:=lz (own_keep HS.out.own (below_grown (row:=none) hbT) (fun r e=>by cases e));have HbT:=lz (HS.out.below.trans (hbT.mono HS.out.below.size));have hpq:(p:Int)≤(E:Int):=by omega
         have hqs:(E:Int)≤(s.size:Int):=by omega
         clear hbT;go_wp2_with (first | (go_at_call 246;refine(Hin.out _).mono ?_;rintro e w' ⟨rfl,rfl⟩) | (go_at_call 244;refine(Hle.out _).mono ?_;rintro e w' ⟨rfl,rfl⟩) | (go_at_call 247;refine(Hnm.out _).mono ?_;rintro e w' ⟨rfl,rfl⟩) | (at_builtin;refine wpList_append_own _ rfl (.tmp 110) (.tmp 112) 201 rfl w.heap.size 264 i0 (.agg #[.int .i64 0,.string ⟨#[]⟩,.int .i64 0]) 3 32 Tryz.underlying201 hi0 hz0 hz1 hz2 rfl (by decide) _ _ _ rfl (HoT.out.alloc _) ⟨wr.heap.size+1,0,none⟩ 1 1 [.int .i64 1,.string (s.extract p E),.int .i64 p] rfl rfl ?c1 ?c2 ?c3 ?c4 ?c5 ?_))
         case c1=>
          intro j u' hj;rw[addr_add_none,Nat.zero_add];have hbk:=Blk.new (wr.alloc (.cells #[.int .i64 1,.string (s.extract p E),.int .i64 p] 264)) 264 #[.int .i64 1,.string (s.extract p E),.int .i64 p];rw[show(World.heap _).size=wr.heap.size+1 by simp[World.setCell]]at hbk;exact(hbk.cell j).trans (by simpa using hj)
         case c2=>intro u' hu';simp at hu';rcases hu' with rfl | rfl | rfl<;>rfl
         case c3=>unfold maxLen;omega
         case c4=>omega
         case c5=>have:=HS.out.below.size;simp[World.setCell];omega
         intro v5 w5 hown5 hg5 _;have hb5:=(HbT.out.alloc HbT.out.size (.cells #[.int .i64 1,.string (s.extract p E),.int .i64 p] 264)).grown hg5 (by have:=HbT.out.size;simp[World.setCell]at this ⊢;omega) (fun g hg=>((HoT.out.alloc (.cells #[.int .i64 1,.string (s.extract p E),.int .i64 p] 264)).lt g hg).1);have HR:=lz (And.intro hb5 hown5);clear hown5 hg5 hb5;go_wp2_with fail;go_roundw
         case rel=>exact⟨E,f,_,by omega,by simp;omega,rfl,HL2,HR.out.1,by simpa [Tok.cells]using HR.out.2⟩
         case measure=>simp[intOf];omega
       ·have hEq:=hex (.inl hql)
        clear hex hWE;obtain rfl:=hEq;have hbT:Below wr.heap.size wr (wr.alloc (.cells #[.int .i64 1,.string (s.extract p E),.int .i64 p] 264)):=(Below.refl _ wr).alloc (Nat.le_refl _) _;have HoT:=lz (own_keep HS.out.own (below_grown (row:=none) hbT) (fun r e=>by cases e));have HbT:=lz (HS.out.below.trans (hbT.mono HS.out.below.size));have hpq:(p:Int)≤(E:Int):=by omega
        have hqs:(E:Int)≤(s.size:Int):=by omega
        clear hbT;go_wp2_with (first | (go_at_call 244;refine(Hle.out _).mono ?_;rintro e w' ⟨rfl,rfl⟩) | (go_at_call 247;refine(Hnm.out _).mono ?_;rintro e w' ⟨rfl,rfl⟩) | (at_builtin;refine wpList_append_own _ rfl (.tmp 110) (.tmp 112) 201 rfl w.heap.size 264 i0 (.agg #[.int .i64 0,.string ⟨#[]⟩,.int .i64 0]) 3 32 Tryz.underlying201 hi0 hz0 hz1 hz2 rfl (by decide) _ _ _ rfl (HoT.out.alloc _) ⟨wr.heap.size+1,0,none⟩ 1 1 [.int .i64 1,.string (s.extract p E),.int .i64 p] rfl rfl ?c1 ?c2 ?c3 ?c4 ?c5 ?_))
        case c1=>
         intro j u' hj;rw[addr_add_none,Nat.zero_add];have hbk:=Blk.new (wr.alloc (.cells #[.int .i64 1,.string (s.extract p E),.int .i64 p] 264)) 264 #[.int .i64 1,.string (s.extract p E),.int .i64 p];rw[show(World.heap _).size=wr.heap.size+1 by simp[World.setCell]]at hbk;exact(hbk.cell j).trans (by simpa using hj)
        case c2=>intro u' hu';simp at hu';rcases hu' with rfl | rfl | rfl<;>rfl
        case c3=>unfold maxLen;omega
        case c4=>omega
        case c5=>have:=HS.out.below.size;simp[World.setCell];omega
        intro v5 w5 hown5 hg5 _;have hb5:=(HbT.out.alloc HbT.out.size (.cells #[.int .i64 1,.string (s.extract p E),.int .i64 p] 264)).grown hg5 (by have:=HbT.out.size;simp[World.setCell]at this ⊢;omega) (fun g hg=>((HoT.out.alloc (.cells #[.int .i64 1,.string (s.extract p E),.int .i64 p] 264)).lt g hg).1);have HR:=lz (And.intro hb5 hown5);clear hown5 hg5 hb5;go_wp2_with fail;go_roundw
        case rel=>exact⟨E,f,_,by omega,by simp;omega,rfl,HL2,HR.out.1,by simpa [Tok.cells]using HR.out.2⟩
        case measure=>simp[intOf];omega
     | false=>
      have hw:=lex_num hL.out hlt q0 q5 q6;rw[←hE]at hw;obtain⟨hdg,⟨nv,hnv⟩,hw2⟩:=hw;have hnm:=fun W=>num_ok (s:=s.extract p E) W hnv
      have Hnm:=lz hnm;have HL2:=lz hw2;rw[←hb]at hdg;have hdg:=fun W=>digit_is hdg W
      have Hdi:=lz hdg;rw[←hb]at q0 q1 q2 q3 q4 q6;have hle:=fun W=>letter_is q6 W
      have Hle:=lz hle;clear hblank hL hb hsg q5 hle hinn hE hdg hnv hw2 q6 hnm;go_wp2_with (first | (go_at_call 243;refine Hsg.out.mono ?_;rintro e w' ⟨rfl,rfl⟩) | (go_at_call 244;refine(Hle.out _).mono ?_;rintro e w' ⟨rfl,rfl⟩) | (go_at_call 245;refine(Hdi.out _).mono ?_;rintro e w' ⟨rfl,rfl⟩));go_loopw [8] (fun t wr'=>∃q f2:Nat,p+1≤q∧q≤s.size∧t= .int .i64 q∧Hid (wordEnd s f2 q=E∧s.size≤q+f2)∧wr'=wr) (fun t _=>s.size-(intOf t).toNat)
      case atStart=>exact⟨p+1,s.size,Nat.le_refl _,by omega,by go_num,⟨HE.out.symm,by omega⟩,rfl⟩
      case round=>
       obtain⟨q,f2,hq1,hq2,rfl,hWE,rfl⟩:=hrel;have hex:(¬q<s.size∨innerN (bAt s q)=false)→E=q:=fun h=>by
        rw[←hWE.out.1];rcases h with h | h
        ·exact wordEnd_end h
        ·exact wordEnd_stop h
       by_cases hql:q<s.size
       ·have hin:=fun W=>inner_c ((s[q]'hql).toNat:Int) W
        cases hqi:innerN (bAt s q)with
        | true=>
         obtain⟨f3,rfl⟩:∃f3,f2=f3+1:=⟨f2-1,by have:=hWE.out.2;omega⟩;have hnx:=lz (And.intro ((wordEnd_more hql hqi).symm.trans hWE.out.1) (show s.size≤q+1+f3 by have:=hWE.out.2;omega));rw[bAt_eq hql,hqi,←bAt_eq hql]at hin;have Hin:=lz hin;clear hin hqi hex hWE;go_wp2_with (go_at_call 246;refine(Hin.out _).mono ?_;rintro e w' ⟨rfl,rfl⟩);go_roundw
         case rel=>exact⟨q+1,f3,by omega,by omega,by go_num,hnx,trivial⟩
         case measure=>simp[intOf];omega
        | false=>
         have hEq:=hex (.inr hqi);rw[bAt_eq hql,hqi,←bAt_eq hql]at hin;have Hin:=lz hin;clear hin hqi hex hWE;obtain rfl:=hEq;have hbT:Below wr.heap.size wr (wr.alloc (.cells #[.int .i64 2,.string (s.extract p E),.int .i64 p] 264)):=(Below.refl _ wr).alloc (Nat.le_refl _) _;have HoT:=lz (own_keep HS.out.own (below_grown (row:=none) hbT) (fun r e=>by cases e));have HbT:=lz (HS.out.below.trans (hbT.mono HS.out.below.size));have hpq:(p:Int)≤(E:Int):=by omega
         have hqs:(E:Int)≤(s.size:Int):=by omega
         clear hbT;go_wp2_with (first | (go_at_call 246;refine(Hin.out _).mono ?_;rintro e w' ⟨rfl,rfl⟩) | (go_at_call 244;refine(Hle.out _).mono ?_;rintro e w' ⟨rfl,rfl⟩) | (go_at_call 248;refine(Hnm.out _).mono ?_;rintro e w' ⟨rfl,rfl⟩) | (at_builtin;refine wpList_append_own _ rfl (.tmp 110) (.tmp 112) 201 rfl w.heap.size 264 i0 (.agg #[.int .i64 0,.string ⟨#[]⟩,.int .i64 0]) 3 32 Tryz.underlying201 hi0 hz0 hz1 hz2 rfl (by decide) _ _ _ rfl (HoT.out.alloc _) ⟨wr.heap.size+1,0,none⟩ 1 1 [.int .i64 2,.string (s.extract p E),.int .i64 p] rfl rfl ?c1 ?c2 ?c3 ?c4 ?c5 ?_))
         case c1=>
          intro j u' hj;rw[addr_add_none,Nat.zero_add];have hbk:=Blk.new (wr.alloc (.cells #[.int .i64 2,.string (s.extract p E),.int .i64 p] 264)) 264 #[.int .i64 2,.string (s.extract p E),.int .i64 p];rw[show(World.heap _).size=wr.heap.size+1 by simp[World.setCell]]at hbk;exact(hbk.cell j).trans (by simpa using hj)
         case c2=>intro u' hu';simp at hu';rcases hu' with rfl | rfl | rfl<;>rfl
         case c3=>unfold maxLen;omega
         case c4=>omega
         case c5=>have:=HS.out.below.size;simp[World.setCell];omega
         intro v5 w5 hown5 hg5 _;have hb5:=(HbT.out.alloc HbT.out.size (.cells #[.int .i64 2,.string (s.extract p E),.int .i64 p] 264)).grown hg5 (by have:=HbT.out.size;simp[World.setCell]at this ⊢;omega) (fun g hg=>((HoT.out.alloc (.cells #[.int .i64 2,.string (s.extract p E),.int .i64 p] 264)).lt g hg).1);have HR:=lz (And.intro hb5 hown5);clear hown5 hg5 hb5;go_wp2_with fail;go_roundw
         case rel=>exact⟨E,f,_,by omega,by simp;omega,rfl,HL2,HR.out.1,by simpa [Tok.cells]using HR.out.2⟩
         case measure=>simp[intOf];omega
       ·have hEq:=hex (.inl hql)
        clear hex hWE;obtain rfl:=hEq;have hbT:Below wr.heap.size wr (wr.alloc (.cells #[.int .i64 2,.string (s.extract p E),.int .i64 p] 264)):=(Below.refl _ wr).alloc (Nat.le_refl _) _;have HoT:=lz (own_keep HS.out.own (below_grown (row:=none) hbT) (fun r e=>by cases e));have HbT:=lz (HS.out.below.trans (hbT.mono HS.out.below.size));have hpq:(p:Int)≤(E:Int):=by omega
        have hqs:(E:Int)≤(s.size:Int):=by omega
        clear hbT;go_wp2_with (first | (go_at_call 244;refine(Hle.out _).mono ?_;rintro e w' ⟨rfl,rfl⟩) | (go_at_call 248;refine(Hnm.out _).mono ?_;rintro e w' ⟨rfl,rfl⟩) | (at_builtin;refine wpList_append_own _ rfl (.tmp 110) (.tmp 112) 201 rfl w.heap.size 264 i0 (.agg #[.int .i64 0,.string ⟨#[]⟩,.int .i64 0]) 3 32 Tryz.underlying201 hi0 hz0 hz1 hz2 rfl (by decide) _ _ _ rfl (HoT.out.alloc _) ⟨wr.heap.size+1,0,none⟩ 1 1 [.int .i64 2,.string (s.extract p E),.int .i64 p] rfl rfl ?c1 ?c2 ?c3 ?c4 ?c5 ?_))
        case c1=>
         intro j u' hj;rw[addr_add_none,Nat.zero_add];have hbk:=Blk.new (wr.alloc (.cells #[.int .i64 2,.string (s.extract p E),.int .i64 p] 264)) 264 #[.int .i64 2,.string (s.extract p E),.int .i64 p];rw[show(World.heap _).size=wr.heap.size+1 by simp[World.setCell]]at hbk;exact(hbk.cell j).trans (by simpa using hj)
        case c2=>intro u' hu';simp at hu';rcases hu' with rfl | rfl | rfl<;>rfl
        case c3=>unfold maxLen;omega
        case c4=>omega
        case c5=>have:=HS.out.below.size;simp[World.setCell];omega
        intro v5 w5 hown5 hg5 _;have hb5:=(HbT.out.alloc HbT.out.size (.cells #[.int .i64 2,.string (s.extract p E),.int .i64 p] 264)).grown hg5 (by have:=HbT.out.size;simp[World.setCell]at this ⊢;omega) (fun g hg=>((HoT.out.alloc (.cells #[.int .i64 2,.string (s.extract p E),.int .i64 p] 264)).lt g hg).1);have HR:=lz (And.intro hb5 hown5);clear hown5 hg5 hb5;go_wp2_with fail;go_roundw
        case rel=>exact⟨E,f,_,by omega,by simp;omega,rfl,HL2,HR.out.1,by simpa [Tok.cells]using HR.out.2⟩
        case measure=>simp[intOf];omega
  ·have he:=lex_end hL.out hlt
   subst he;have HR:=lz (And.intro (rdTok_of_own HS.out.own) HS.out.below);go_wp2_with fail;refine bodyPost_ret (results_tmp3 rfl _ _ _) rfl ?_;exact⟨Av,cv,rfl,HR.out⟩
theorem of68_c(s:ByteArray)(ts:List Tok)(F:Nat)(w:World)(hs:s.size≤1000)(h:lexO s F 0 []=some ts):
 Calls Tryz.prog 117 #[.string s] w fun e w'=>∃g A c,e= .returned (.pointer (some ⟨g,0,none⟩))∧InB w' g A c ts 0 s.size∧w.heap.size≤g∧Below w.heap.size w w':=by
 have Hl:=lz (lex_c s ts F w hs h);clear h;go_enter Tryz.func117,Tryz.ntmps117;go_wp2_with fail;refine Hl.out.mono ?_;rintro e w1 ⟨A,c,rfl,ht,hb⟩;have HR:=lz (And.intro ht hb);clear ht hb Hl;go_wp2_with fail;go_ret;refine⟨w1.heap.size,A,c,rfl,⟨Blk.new w1 _ _,HR.out.1.to_ (Nat.le_refl _) fun b o hlt=>World.cell?_alloc_lt w1 _ ⟨b,o,none⟩ hlt⟩,HR.out.2.size,HR.out.2.alloc HR.out.2.size _⟩
def posOf:Nat→Nat | 0=>0 | 1=>13 | 2=>20 | _=>29
theorem tok0:atB srcS 0 (wordB sCause)=true:=by kernel_rfl
theorem tok1:atB srcS 13 (wordB sCause)=true:=by kernel_rfl
theorem tok2:atB srcS 20 (wordB sCause)=true:=by kernel_rfl
theorem tok_cause(k:Nat)(hk:k<3):∃h:posOf k<srcS.length,srcS[posOf k].kind=1∧srcS[posOf k].text=sCause:=by
 have key:atB srcS (posOf k) (wordB sCause)=true:=by
  match k,hk with
  | 0,_=>exact tok0
  | 1,_=>exact tok1
  | 2,_=>exact tok2
 obtain⟨hi,h⟩:=atB_get key;simp only[wordB,Bool.and_eq_true,beq_iff_eq,decide_eq_true_eq]at h;exact⟨hi,h⟩
def exAt:Nat→Cs | 0=>⟨sU,[rX,rY],[sZ]⟩ | 1=>⟨sZ,[rX],[]⟩ | _=>⟨sW,[rY],[sU]⟩
theorem cause_at(k:Nat)(hk:k<3):CauseAt srcS (posOf k+1) (exAt k):=by
 match k,hk with
 | 0,_=>exact causeAt_of cause0
 | 1,_=>exact causeAt_of cause1
 | 2,_=>exact causeAt_of cause2
theorem pos_next(k:Nat)(hk:k<3):posOf k+1+2+4*(exAt k).needs.length+2*(exAt k).excl.length=posOf (k+1):=by
 match k,hk with
 | 0,_=>rfl
 | 1,_=>rfl
 | 2,_=>rfl
theorem ex_next(k:Nat)(hk:k<3):exL.take k++ [exAt k]=exL.take (k+1):=by
 match k,hk with
 | 0,_=>rfl
 | 1,_=>rfl
 | 2,_=>rfl
structure ParSt(w:World)(g cb:Nat)(A:Option Addr)(c:Nat)(L:List CsV)(A':Option Addr)(c':Nat)(p:Nat)(W:World):Prop where
 st:NewSt w w.heap.size L (.slice A' L.length c') W
 inb:InB W g A c srcS p 79
 box:Blk W cb 31 #[.slice none 0 0,.slice none 0 0,.slice none 0 0,.slice none 0 0,.slice none 0 0,.slice none 0 0,.slice A' L.length c',.slice none 0 0]
 res:Blk W w.heap.size 31 #[.slice none 0 0,.slice none 0 0,.slice none 0 0,.slice none 0 0,.slice none 0 0,.slice none 0 0,.slice none 0 0,.slice none 0 0]
 own:W.ownsRow (g+1) 48 3 (.slice A' L.length c') L.length (L.flatMap CsV.cells)
theorem ParSt.below{w W W':World}{g cb:Nat}{A:Option Addr}{c:Nat}{L:List CsV}{A':Option Addr}{c' p:Nat}(h:ParSt w g cb A c L A' c' p W)(hb:Below W.heap.size W W'):ParSt w g cb A c L A' c' p W':=
 ⟨h.st.next hb,h.inb.below hb,h.box.below hb h.box.lt,h.res.below hb h.res.lt,own_keep h.own (below_grown (row:=none) hb) (fun r e=>by cases e)⟩
set_option maxHeartbeats 4000000 in
theorem parse_c(w:World):Calls Tryz.prog 45 #[.string srcT] w fun e w'=>∃A' c' L,e= .returned (.tuple #[.agg #[.slice none 0 0,.slice none 0 0,.slice none 0 0,.slice none 0 0,.slice none 0 0,.slice none 0 0,.slice A' 3 c',.slice none 0 0],.int .i64 0,.int .i64 0])∧csOf L=exL∧L.length=3∧NewSt w w.heap.size L (.slice A' L.length c') w':=by
 obtain⟨w0,hw0⟩:∃w0,w0=w.alloc (.cells #[.slice none 0 0,.slice none 0 0,.slice none 0 0,.slice none 0 0,.slice none 0 0,.slice none 0 0,.slice none 0 0,.slice none 0 0] 31):=⟨_,rfl⟩;have hB0:Below w.heap.size w w0:=by rw[hw0];exact(Below.refl _ _).alloc (Nat.le_refl _) _
 have hr0:Blk w0 w.heap.size 31 #[.slice none 0 0,.slice none 0 0,.slice none 0 0,.slice none 0 0,.slice none 0 0,.slice none 0 0,.slice none 0 0,.slice none 0 0]:=by rw[hw0];exact Blk.new w _ _
 have hof:=of68_c srcT srcS 100 w0 (by decide) srcS_lex;have Hof:=lz hof;have Hw0:=lz hw0;have HB0:=lz hB0;have Hr0:=lz hr0;have hz0:w0.heap.size=w.heap.size+1:=by rw[hw0];simp
 clear hof hw0 hB0 hr0;go_enter Tryz.func45,Tryz.ntmps45;go_wp2_with fail;rw[←Hw0.out];refine Hof.out.mono ?_;rintro e w1 ⟨g,A,c,rfl,hI1,hg1,hb1⟩;obtain⟨w2,hw2⟩:∃w2,w2=w1.alloc (.cells #[.slice none 0 0,.slice none 0 0,.slice none 0 0,.slice none 0 0,.slice none 0 0,.slice none 0 0,.slice none 0 0,.slice none 0 0] 31):=⟨_,rfl⟩;have hB2:Below w1.heap.size w1 w2:=by rw[hw2];exact(Below.refl _ _).alloc (Nat.le_refl _) _
 have hbw:Below w.heap.size w w2:=(HB0.out.trans (hb1.mono HB0.out.size)).trans (hB2.mono (by have:=hb1.size;omega));have hP:ParSt w g w1.heap.size A c [] none 0 0 w2:=⟨⟨hbw,hbw.size,World.ownsRow_nil _ _ _ _,fun x h=>absurd h (by simp)⟩,hI1.below hB2,by rw[hw2];exact Blk.new w1 _ _,(Hr0.out.below hb1 Hr0.out.lt).below hB2 (by have:=hb1.size;omega),World.ownsRow_nil _ _ _ _⟩;have hglt:=hI1.lt;have hgw:w.heap.size<g:=by omega
 have HP:=lz hP;have Hw2:=lz hw2;clear hI1 hb1 hB2 hbw hP hw2 Hof;go_wp2_with fail;rw[←Hw2.out];go_loopw [] (fun wr=>∃(k:Nat) (L:List CsV) (A':Option Addr) (c':Nat),k≤3∧L.length=k∧Hid (csOf L=exL.take k)∧ParSt w g w1.heap.size A c L A' c' (posOf k) wr) (fun wr=>srcS.length-nowOf g wr)
 case atStart=>exact⟨0,[],none,0,by omega,rfl,rfl,HP.out⟩
 case round=>
  clear HP Hw2;obtain⟨k,L,A',c',hk,hLk,hcs,hS⟩:=hrel;have hnow:=hS.inb.nowOf;have q0:=hS.inb.blk.cell 0;have q1:=hS.inb.blk.cell 1;have q4:=hS.inb.blk.cell 4;have cc0:=hS.box.cell 0;have cc1:=hS.box.cell 1;have cc2:=hS.box.cell 2;have cc3:=hS.box.cell 3;have cc4:=hS.box.cell 4;have cc5:=hS.box.cell 5;have cc6:=hS.box.cell 6;have cc7:=hS.box.cell 7;have HS:=lz hS;have hlen:=srcS_len;have Hlen:=lz hlen;have HLk:=lz hLk;have hL3:L.length≤3:=by omega
  clear hS;rw[hlen]at q0;clear hlen hLk;by_cases hlt:k<3
  ·have hd:(posOf k:Int)<29:=by
    have h29:=(tok_cause k hlt).1;rw[Hlen.out]at h29;omega
   obtain⟨ht1,ht2,ht3⟩:=tok_cause k hlt;have hit:=fun(n:Nat)=>item_c w L A' c' (exAt k) g A c srcS (posOf k) 79 (wr.drewN n) ((HS.out.below (only_below (Below.refl _ _))).inb) (by rw[Hlen.out];omega) ((HS.out.below (only_below (Below.refl _ _))).st) (by omega) ht1 ht2 ht3 (cause_at k hlt) (by omega) ((HS.out.below (only_below (Below.refl _ _))).own)
   have Hit:=lz hit;clear hit ht1 ht2 ht3;generalize hP:(posOf k:Int)=P at *;go_wp2_with fail;go_quiet (fail);go_wp2_with fail;refine(Hit.out _).mono ?_;rintro e W5 ⟨A5,c5,x,rfl,hx,hS5,hI5,ho5,hG5⟩;rw[pos_next k hlt]at hI5;have hown:=(HS.out.below (w:=w) (W':=wr.drewN nq) (only_below (Below.refl _ _))).own;have hbox5:Blk W5 w1.heap.size 31 #[.slice none 0 0,.slice none 0 0,.slice none 0 0,.slice none 0 0,.slice none 0 0,.slice none 0 0,.slice A' L.length c',.slice none 0 0]:=hG5.blk (show Blk (wr.drewN nq) _ _ _ from HS.out.box) (fun e=>e.elim (fun e=>by omega) (fun e=>own_blk_ne hown (show Blk (wr.drewN nq) _ _ _ from HS.out.box) (by decide) e));have hres5:Blk W5 w.heap.size 31 #[.slice none 0 0,.slice none 0 0,.slice none 0 0,.slice none 0 0,.slice none 0 0,.slice none 0 0,.slice none 0 0,.slice none 0 0]:=hG5.blk (show Blk (wr.drewN nq) _ _ _ from HS.out.res) (fun e=>e.elim (fun e=>by omega) (fun e=>own_blk_ne hown (show Blk (wr.drewN nq) _ _ _ from HS.out.res) (by decide) e));have hG6:=set8_gr W5 w1.heap.size (.slice A5 (L.length+1) c5);have hb6:=set8_blk (v:= .slice A5 (L.length+1) c5) hbox5;have hS6:=hS5.gr hG6 (by omega) hbox5 (by decide) (by decide) (by decide);have hI6:=hI5.kept hG6 (fun j hj e=>by omega);have hr6:=hG6.blk hres5 (by omega);have ho6:=own_gr ho5 hG6 (fun j hj e=>own_blk_ne ho5 hbox5 (by decide) (e▸hj));have hP6:ParSt w g w1.heap.size A c (L++ [x]) A5 c5 (posOf (k+1)) (set8 W5 w1.heap.size (.slice A5 (L.length+1) c5)):=
    ⟨by simpa using hS6,hI6,by simpa using hb6,hr6,by simpa using ho6⟩
   have hcs6:csOf (L++ [x])=exL.take (k+1):=by
    rw[←ex_next k hlt,←hcs.out];unfold csOf;rw[List.map_append];simp[hx]
   have e0:=hbox5.cell 0;have e1:=hbox5.cell 1;have e2:=hbox5.cell 2;have e3:=hbox5.cell 3;have e4:=hbox5.cell 4;have e5:=hbox5.cell 5;have e6:=hbox5.cell 6;have e7:=hbox5.cell 7;have f0:=hbox5.frozen 0;have f1:=hbox5.frozen 1;have f2:=hbox5.frozen 2;have f3:=hbox5.frozen 3;have f4:=hbox5.frozen 4;have f5:=hbox5.frozen 5;have f6:=hbox5.frozen 6;have f7:=hbox5.frozen 7;have Hcs6:=lz hcs6;obtain⟨W6,hW6⟩:∃W6,W6=set8 W5 w1.heap.size (.slice A5 (L.length+1) c5):=⟨_,rfl⟩;rw[←hW6]at hP6;have hnow6:=hP6.inb.nowOf;have HP6:=lz hP6;have HW6:=lz hW6;clear hx hS5 hI5 ho5 hG5 hown hbox5 hres5 hG6 hb6 hS6 hI6 hr6 ho6 hP6 hcs6 hW6 Hit q0 q1 q4 cc0 cc1 cc2 cc3 cc4 cc5 cc6 cc7;go_wp2_with fail;have hfold:=HW6.out;unfold set8 at hfold;rw[←hfold];clear hfold;go_roundw
   case rel=>exact⟨k+1,L++ [x],A5,c5,by omega,by rw[List.length_append,HLk.out];rfl,Hcs6,HP6.out⟩
   case measure=>
    have h29:=(tok_cause k hlt).1;rw[hnow6,hnow];have:=pos_next k hlt;omega
  ·obtain rfl:k=3:=by omega
   have hcsL:csOf L=exL:=by rw[hcs.out];rfl
   have hS:=HS.out;rw[HLk.out]at cc6;have hst:=hS.st;have hrs:=hS.res;have r0:=hrs.cell 0;have r1:=hrs.cell 1;have r2:=hrs.cell 2;have r3:=hrs.cell 3;have r4:=hrs.cell 4;have r5:=hrs.cell 5;have r6:=hrs.cell 6;have r7:=hrs.cell 7;have f0:=hrs.frozen 0;have f1:=hrs.frozen 1;have f2:=hrs.frozen 2;have f3:=hrs.frozen 3;have f4:=hrs.frozen 4;have f5:=hrs.frozen 5;have f6:=hrs.frozen 6;have f7:=hrs.frozen 7;have hd:¬(posOf 3:Int)<29:=by decide
   have hG7:=fun n=>set8_gr (wr.drewN n) w.heap.size (.slice A' 3 c')
   have hb7:=fun n=>set8_blk (W:=wr.drewN n) (v:= .slice A' 3 c') (show Blk (wr.drewN n) _ _ _ from hrs)
   have hS7:=fun n=>(hst.next (W':=wr.drewN n) (only_below (Below.refl _ _))).gr (hG7 n) (Nat.le_refl _) (show Blk (wr.drewN n) _ _ _ from hrs) (by decide) (by decide) (by decide)
   have HS7:=lz hS7;have Hb7:=lz hb7;have HcsL:=lz hcsL;clear hS7 hG7 hb7 hcsL hS hst hrs;generalize hP:(posOf 3:Int)=P at *;go_wp2_with fail;go_quiet (fail);go_wp2_with fail;have hS7:=HS7.out nq;have hb7:=Hb7.out nq;unfold set8 at hS7 hb7;generalize (((((((((wr.drewN nq).setCell ⟨w.heap.size,0,none⟩ (.slice none 0 0)).setCell ⟨w.heap.size,1,none⟩ (.slice none 0 0)).setCell ⟨w.heap.size,2,none⟩ (.slice none 0 0)).setCell ⟨w.heap.size,3,none⟩ (.slice none 0 0)).setCell ⟨w.heap.size,4,none⟩ (.slice none 0 0)).setCell ⟨w.heap.size,5,none⟩ (.slice none 0 0)).setCell ⟨w.heap.size,6,none⟩ (.slice A' 3 c')).setCell ⟨w.heap.size,7,none⟩ (.slice none 0 0))=W7 at *;have z0:=hb7.cell 0;have z1:=hb7.cell 1;have z2:=hb7.cell 2;have z3:=hb7.cell 3;have z4:=hb7.cell 4;have z5:=hb7.cell 5;have z6:=hb7.cell 6;have z7:=hb7.cell 7;refine bodyPost_ret (v:= .tuple #[.agg #[.slice none 0 0,.slice none 0 0,.slice none 0 0,.slice none 0 0,.slice none 0 0,.slice none 0 0,.slice A' 3 c',.slice none 0 0],.int .i64 0,.int .i64 0]) (by simp[results,Tryz.results45,go_sem,z0,z1,z2,z3,z4,z5,z6,z7]) rfl ?_;exact⟨A',c',L,rfl,HcsL.out,HLk.out,hS7⟩
theorem NewSt.moved{w W W':World}{B k:Nat}{L:List CsV}{v:Value}(h:NewSt w B L v W)(hG:Gr (· =k) W W')(hk:k<B):NewSt W' B L v W':=
 ⟨Below.refl _ _,Nat.le_trans h.size hG.size,own_gr h.own hG (fun j hj e=>by have:=(h.own.lt j hj).1;omega),fun x hx=>by
  have h:=h.subs x hx;exact⟨h.nl,h.nc,h.nm,own_gr h.n hG (fun j hj e=>by have:=(h.n.lt j hj).1;omega),h.xl,h.xc,h.xm,own_gr h.x hG (fun j hj e=>by have:=(h.x.lt j hj).1;omega)⟩⟩
theorem below_moved{w W W':World}{k:Nat}(h:Below w.heap.size w W)(hG:Gr (· =k) W W')(hk:w.heap.size≤k):Below w.heap.size w W':=
 ⟨hG.os.trans h.os,hG.tape.trans h.tape,hG.output.trans h.output,Nat.le_trans h.size hG.size,fun j hj=>(hG.block j (Nat.lt_of_lt_of_le hj h.size) (by omega)).trans (h.block j hj)⟩
set_option maxHeartbeats 1000000 in
theorem read_c(w:World):Calls Tryz.prog 17 #[.string srcT] w fun e w'=>∃A' c' L,e= .returned (.agg #[.slice none 0 0,.slice none 0 0,.slice none 0 0,.slice none 0 0,.slice none 0 0,.slice none 0 0,.slice A' 3 c',.slice none 0 0])∧csOf L=exL∧L.length=3∧RdCs w' w'.heap.size A' L∧Below w.heap.size w w'∧3≤c'∧c'≤maxLen:=by
 obtain⟨w0,hw0⟩:∃w0,w0=w.alloc (.cells #[.slice none 0 0,.slice none 0 0,.slice none 0 0,.slice none 0 0,.slice none 0 0,.slice none 0 0,.slice none 0 0,.slice none 0 0] 31):=⟨_,rfl⟩;have hB0:Below w.heap.size w w0:=by rw[hw0];exact(Below.refl _ _).alloc (Nat.le_refl _) _
 have hr0:Blk w0 w.heap.size 31 #[.slice none 0 0,.slice none 0 0,.slice none 0 0,.slice none 0 0,.slice none 0 0,.slice none 0 0,.slice none 0 0,.slice none 0 0]:=by rw[hw0];exact Blk.new w _ _
 have hp:=parse_c w0;have Hp:=lz hp;have Hw0:=lz hw0;have HB0:=lz hB0;have Hr0:=lz hr0;have hz0:w0.heap.size=w.heap.size+1:=by rw[hw0];simp
 clear hp hw0 hB0 hr0;go_enter Tryz.func17,Tryz.ntmps17;go_wp2_with fail;rw[←Hw0.out];refine Hp.out.mono ?_;rintro e w1 ⟨A',c',L,rfl,hcs,hL,hN⟩;have hcap:3≤c'∧c'≤maxLen:=by
  obtain⟨A9,c9,e9,h91,h92⟩:=own_caps hN.own;injection e9 with e1 e2 e3
  omega
 have hr1:=Hr0.out.below hN.below Hr0.out.lt;have hG:=set8_gr w1 w.heap.size (.slice A' 3 c');have hb:=set8_blk (v:= .slice A' 3 c') hr1;have hs1:=hN.size;have hN2:=hN.moved hG (by omega);have hB2:=below_moved (HB0.out.trans (hN.below.mono HB0.out.size)) hG (Nat.le_refl _);have r0:=hr1.cell 0;have r1:=hr1.cell 1;have r2:=hr1.cell 2;have r3:=hr1.cell 3;have r4:=hr1.cell 4;have r5:=hr1.cell 5;have r6:=hr1.cell 6;have r7:=hr1.cell 7;have f0:=hr1.frozen 0;have f1:=hr1.frozen 1;have f2:=hr1.frozen 2;have f3:=hr1.frozen 3;have f4:=hr1.frozen 4;have f5:=hr1.frozen 5;have f6:=hr1.frozen 6;have f7:=hr1.frozen 7;have HN2:=lz hN2;have HB2:=lz hB2;have Hb:=lz hb;have Hcs:=lz hcs;have HL:=lz hL;have hlt1:w.heap.size<w1.heap.size:=by omega
 clear hN hr1 hG hb hN2 hB2 hcs hL Hp hs1 hz0;go_wp2_with fail;have hN2:=HN2.out;have hB2:=HB2.out;have hb:=Hb.out;unfold set8 at hN2 hB2 hb;generalize ((((((((w1.setCell ⟨w.heap.size,0,none⟩ (.slice none 0 0)).setCell ⟨w.heap.size,1,none⟩ (.slice none 0 0)).setCell ⟨w.heap.size,2,none⟩ (.slice none 0 0)).setCell ⟨w.heap.size,3,none⟩ (.slice none 0 0)).setCell ⟨w.heap.size,4,none⟩ (.slice none 0 0)).setCell ⟨w.heap.size,5,none⟩ (.slice none 0 0)).setCell ⟨w.heap.size,6,none⟩ (.slice A' 3 c')).setCell ⟨w.heap.size,7,none⟩ (.slice none 0 0))=W7 at *;have z0:(W7.alloc (.cells #[.slice none 0 0,.slice none 0 0,.slice none 0 0,.slice none 0 0,.slice none 0 0,.slice none 0 0,.slice A' 3 c',.slice none 0 0] 31)).cell? ⟨w.heap.size,0,none⟩=some (.slice none 0 0):=(hb.alloc _).cell 0;have z1:(W7.alloc (.cells #[.slice none 0 0,.slice none 0 0,.slice none 0 0,.slice none 0 0,.slice none 0 0,.slice none 0 0,.slice A' 3 c',.slice none 0 0] 31)).cell? ⟨w.heap.size,1,none⟩=some (.slice none 0 0):=(hb.alloc _).cell 1;have z2:(W7.alloc (.cells #[.slice none 0 0,.slice none 0 0,.slice none 0 0,.slice none 0 0,.slice none 0 0,.slice none 0 0,.slice A' 3 c',.slice none 0 0] 31)).cell? ⟨w.heap.size,2,none⟩=some (.slice none 0 0):=(hb.alloc _).cell 2;have z3:(W7.alloc (.cells #[.slice none 0 0,.slice none 0 0,.slice none 0 0,.slice none 0 0,.slice none 0 0,.slice none 0 0,.slice A' 3 c',.slice none 0 0] 31)).cell? ⟨w.heap.size,3,none⟩=some (.slice none 0 0):=(hb.alloc _).cell 3;have z4:(W7.alloc (.cells #[.slice none 0 0,.slice none 0 0,.slice none 0 0,.slice none 0 0,.slice none 0 0,.slice none 0 0,.slice A' 3 c',.slice none 0 0] 31)).cell? ⟨w.heap.size,4,none⟩=some (.slice none 0 0):=(hb.alloc _).cell 4;have z5:(W7.alloc (.cells #[.slice none 0 0,.slice none 0 0,.slice none 0 0,.slice none 0 0,.slice none 0 0,.slice none 0 0,.slice A' 3 c',.slice none 0 0] 31)).cell? ⟨w.heap.size,5,none⟩=some (.slice none 0 0):=(hb.alloc _).cell 5;have z6:(W7.alloc (.cells #[.slice none 0 0,.slice none 0 0,.slice none 0 0,.slice none 0 0,.slice none 0 0,.slice none 0 0,.slice A' 3 c',.slice none 0 0] 31)).cell? ⟨w.heap.size,6,none⟩=some (.slice A' 3 c'):=(hb.alloc _).cell 6;have z7:(W7.alloc (.cells #[.slice none 0 0,.slice none 0 0,.slice none 0 0,.slice none 0 0,.slice none 0 0,.slice none 0 0,.slice A' 3 c',.slice none 0 0] 31)).cell? ⟨w.heap.size,7,none⟩=some (.slice none 0 0):=(hb.alloc _).cell 7;have hrd:=(hN2.rd).below ((Below.refl W7.heap.size W7).alloc (Nat.le_refl _) (.cells #[.slice none 0 0,.slice none 0 0,.slice none 0 0,.slice none 0 0,.slice none 0 0,.slice none 0 0,.slice A' 3 c',.slice none 0 0] 31));have hB3:=hB2.alloc hB2.size (.cells #[.slice none 0 0,.slice none 0 0,.slice none 0 0,.slice none 0 0,.slice none 0 0,.slice none 0 0,.slice A' 3 c',.slice none 0 0] 31);generalize W7.alloc (.cells #[.slice none 0 0,.slice none 0 0,.slice none 0 0,.slice none 0 0,.slice none 0 0,.slice none 0 0,.slice A' 3 c',.slice none 0 0] 31)=W8 at *;refine bodyPost_ret (v:= .agg #[.slice none 0 0,.slice none 0 0,.slice none 0 0,.slice none 0 0,.slice none 0 0,.slice none 0 0,.slice A' 3 c',.slice none 0 0]) (by simp[results,Tryz.results17,go_sem,z0,z1,z2,z3,z4,z5,z6,z7]) rfl ?_;exact⟨A',c',L,rfl,Hcs.out,HL.out,hrd,hB3,hcap⟩
def rQ:Rep:=⟨⟨#[113]⟩,7⟩
theorem exOk:okV exL=true:=by kernel_rfl
theorem exOrder:orderV exL= [sZ,sU,sW]:=by kernel_rfl
theorem exAcc2:accV exL [rX,rY]= [sZ,sW]:=by kernel_rfl
theorem exAccY:accV exL [rY]= [sW]:=by kernel_rfl
theorem exAccX:accV exL [rX]= [sZ]:=by kernel_rfl
theorem rOk:rX.ok∧rY.ok∧rQ.ok:=⟨⟨by decide,by kernel_rfl⟩,⟨by decide,by kernel_rfl⟩,⟨by decide,by kernel_rfl⟩⟩
theorem exOkC:∀c∈exL,OkC c:=by
 intro c hc;simp only[exL,List.mem_cons,List.not_mem_nil,or_false]at hc;rcases hc with rfl | rfl | rfl
 ·exact⟨by decide,by intro r hr;simp at hr;rcases hr with rfl | rfl;exact rOk.1;exact rOk.2.1,by intro r hr;simp at hr;subst hr;decide⟩
 ·exact⟨by decide,by intro r hr;simp at hr;subst hr;exact rOk.1,by intro r hr;simp at hr⟩
 ·exact⟨by decide,by intro r hr;simp at hr;subst hr;exact rOk.2.1,by intro r hr;simp at hr;subst hr;decide⟩
section
variable {L:List CsV}
theorem okOf(h:csOf L=exL):∀x∈L,OkC x.c:=fun x hx=>exOkC _ (h▸List.mem_map_of_mem hx)
theorem lenOf(h:csOf L=exL):L.length=3:=by have:=congrArg List.length h;simpa [csOf,exL]using this
theorem smallOf(h:csOf L=exL):∀x∈L,x.c.needs.length≤8∧x.c.excl.length≤8:=fun x hx=>exL_len _ (h▸List.mem_map_of_mem hx)
theorem orderEx(h:csOf L=exL)(A:Option Addr)(c:Nat)(w:World)(hr:RdCs w w.heap.size A L):
 Calls Tryz.prog 13 #[.slice A 3 c] w fun e w'=>Below w.heap.size w w'∧∃A' c',e= .returned (.tuple #[.slice A' 3 c',.int .i64 0])∧RdStr w' w'.heap.size A' [sZ,sU,sW]:=by
 have:=Order_c L A c w hr (okOf h) (by rw[lenOf h];omega);rw[lenOf h]at this;exact this.mono fun e w' ⟨hb,hif⟩=>by rw[h,if_pos exOk,exOrder]at hif;exact⟨hb,hif⟩
theorem accEx(h:csOf L=exL)(A:Option Addr)(c:Nat)(reps:List Rep)(acc:List ByteArray)(ha:accV exL reps=acc)(A2:Option Addr)(c2:Nat)(w:World)(hr:RdCs w w.heap.size A L)(hr2:RdRep w w.heap.size A2 reps)(ok:∀r∈reps,r.ok)(hl:reps.length≤100):
 Calls Tryz.prog 14 #[.slice A 3 c,.slice A2 reps.length c2] w fun e w'=>Below w.heap.size w w'∧∃A' c',e= .returned (.tuple #[.slice A' acc.length c',.int .i64 0])∧RdStr w' w'.heap.size A' acc:=by
 have:=Accused_c L reps A c A2 c2 w hr (okOf h) (by rw[lenOf h];omega) hr2 ok (by unfold maxLen;omega);rw[lenOf h]at this;exact this.mono fun e w' ⟨hb,hif⟩=>by rw[h,if_pos exOk,ha]at hif;exact⟨hb,hif⟩
theorem parts3(h:csOf L=exL):∃n0 s0 n1 s1 n2 s2,L= [⟨⟨sU,[rX,rY],[sZ]⟩,n0,s0⟩,⟨⟨sZ,[rX],[]⟩,n1,s1⟩,⟨⟨sW,[rY],[sU]⟩,n2,s2⟩]:=by
 match L,h with
 | [⟨c0,n0,s0⟩,⟨c1,n1,s1⟩,⟨c2,n2,s2⟩],h=>
  simp only[csOf,List.map_cons,List.map_nil,exL,List.cons.injEq,and_true]at h;obtain⟨rfl,rfl,rfl⟩:=h;exact⟨n0,s0,n1,s1,n2,s2,rfl⟩
theorem verEx(h:csOf L=exL):verV L [rX,rY]= [⟨sZ,1,[rX]⟩,⟨sW,2,[rY]⟩]:=by
 obtain⟨n0,s0,n1,s1,n2,s2,rfl⟩:=parts3 h
 kernel_rfl
theorem explZ(h:csOf L=exL):explV L [rX,rY] [sZ,sW] sZ= [rX]:=by
 obtain⟨n0,s0,n1,s1,n2,s2,rfl⟩:=parts3 h
 kernel_rfl
theorem explW(h:csOf L=exL):explV L [rX,rY,rQ] [sZ,sW] sW= [rY]∧explV L [rX,rY,rQ] [sZ,sW] sZ= [rX]:=by
 obtain⟨n0,s0,n1,s1,n2,s2,rfl⟩:=parts3 h;exact⟨by kernel_rfl,by kernel_rfl⟩
theorem exAcc3:accV exL [rX,rY,rQ]= [sZ,sW]:=by kernel_rfl
theorem openEx(h:csOf L=exL)(l:List Rep)(hn:l.Nodup)(hm:∀x,x∈l↔okV (csOf L)=true∧openB L [rX,rY,rQ] (accV (csOf L) [rX,rY,rQ]) (accV (csOf L) [rX,rY,rQ]) x):l= [rQ]:=by
 rw[h,exAcc3]at hm;obtain⟨hw,hz⟩:=explW h;have key:∀x,x∈l↔x=rQ:=fun x=>by
  rw[hm x];unfold openB;constructor
  ·rintro⟨_,h1,h2⟩
   simp only[List.mem_cons,List.not_mem_nil,or_false]at h1;rcases h1 with rfl | rfl | rfl
   ·exact absurd ⟨sZ,by simp,by rw[hz];simp⟩ h2
   ·exact absurd ⟨sW,by simp,by rw[hw];simp⟩ h2
   ·rfl
  ·rintro rfl
   refine⟨exOk,by simp,?_⟩;rintro⟨u,hu,hx⟩;simp only[List.mem_cons,List.not_mem_nil,or_false]at hu;rcases hu with rfl | rfl
   ·rw[hz]at hx;exact absurd (List.mem_singleton.1 hx) (by decide)
   ·rw[hw]at hx;exact absurd (List.mem_singleton.1 hx) (by decide)
 match l,hn,key with
 | [],_,key=>exact absurd ((key rQ).2 rfl) (by simp)
 | [a],_,key=>rw[(key a).1 (by simp)]
 | a :: b :: r,hn,key=>
  have h1:=(key a).1 (by simp);have h2:=(key b).1 (by simp);rw[h1,h2]at hn;simp at hn
theorem rdRep_new(W:World)(l:List Rep):RdRep (W.alloc (.cells (l.flatMap Rep.cells).toArray 41)) (W.alloc (.cells (l.flatMap Rep.cells).toArray 41)).heap.size (some ⟨W.heap.size,0,none⟩) l:=fun _=>
 ⟨W.heap.size,0,rfl,by simp,fun i hi=>by
  obtain⟨q0,q1⟩:=cells2_get l i hi;have h0:=(Blk.new W 41 (l.flatMap Rep.cells).toArray).cell (i*2);have h1:=(Blk.new W 41 (l.flatMap Rep.cells).toArray).cell (i*2+1);rw[Nat.zero_add,h0,h1];simpa using And.intro q0 q1⟩
theorem rdStr_new(W:World)(l:List ByteArray):RdStr (W.alloc (.cells (l.map Value.string).toArray 9)) (W.alloc (.cells (l.map Value.string).toArray 9)).heap.size (some ⟨W.heap.size,0,none⟩) l:=fun _=>
 ⟨W.heap.size,0,rfl,by simp,fun i hi=>by
  have h0:=(Blk.new W 9 (l.map Value.string).toArray).cell i;rw[Nat.zero_add,h0];simp[hi]⟩
end
end Go.Proofs.YtchfcgilpjkmhaaGreatDoor
