import Derived.Test.YtchfcgilpjkmhaaGreatDoorY20
import Derived.Test.YtchfcgilpjkmhaaGreatDoorY17
import Derived.Test.YtchfcgilpjkmhaaGreatDoorY0
set_option maxRecDepth 100000
set_option linter.unusedSimpArgs false
set_option linter.unusedVariables false
set_option linter.unusedSectionVars false
namespace Go.Proofs.YtchfcgilpjkmhaaGreatDoor
open Go.ChangeShapes Go.WideShapes Go.ChangeAt Go.RowKit
attribute [local go_sem] Oper.semAt_some
theorem rdStr_row{w:World}{B o:Nat}{l:List ByteArray}(hB:B<w.heap.size)(h:∀i (hi:i<l.length),w.cell? ⟨B,o+i,none⟩=some (.string l[i])):RdStr w w.heap.size (some ⟨B,o,none⟩) l:=
 fun _=>⟨B,o,rfl,hB,h⟩
def neS(s:ByteArray):Bool:=decide (s≠⟨#[]⟩)
theorem neS_ne{s:ByteArray}(h:s≠⟨#[]⟩):s.toList.isEmpty=false:=by
 have:=str_ne h
 cases hs:s.toList with
 | nil=>rw[hs]at this;simp at this
 | cons a l=>rfl
def netP(n:Int):Bool:=decide (n=0∨n=1)
theorem netP_no{n:Int}(h:netP n=false):(n/2==0)=false:=by
 unfold netP at h;have:=of_decide_eq_false h;simpa using(by omega:¬n/2=0)
theorem netP_yes{n:Int}(h:netP n=true):(n/2==0)=true:=by
 unfold netP at h;have:=of_decide_eq_true h;simpa using(by omega:n/2=0)
theorem nums_row1(m0:Int)(W:World):Calls Tryz.prog 204 #[.slice (some ⟨W.heap.size,0,none⟩) 1 1] (W.alloc (.cells #[.int .i64 m0] 3)) fun e w'=>e= .returned (.bool ([m0].all numP))∧Below W.heap.size W w':=by
 refine(nums_g [m0] _ 1 (W.alloc (.cells #[.int .i64 m0] 3)) (rdInt_row (by simp) (fun i hi=>by
  have hi2:i=0:=by simp at hi;omega
  rw[Nat.zero_add];rcases hi2 with rfl<;>exact(Blk.new W _ _).cell _)) (by simp)).mono ?_
 rintro e w' ⟨rfl,hb⟩;exact⟨rfl,((Below.refl _ W).alloc (Nat.le_refl _) _).trans (hb.mono (by simp))⟩
theorem nums_row2(m0 m1:Int)(W:World):Calls Tryz.prog 204 #[.slice (some ⟨W.heap.size,0,none⟩) 2 2] (W.alloc (.cells #[.int .i64 m0,.int .i64 m1] 3)) fun e w'=>e= .returned (.bool ([m0,m1].all numP))∧Below W.heap.size W w':=by
 refine(nums_g [m0,m1] _ 2 (W.alloc (.cells #[.int .i64 m0,.int .i64 m1] 3)) (rdInt_row (by simp) (fun i hi=>by
  have hi2:i=0∨i=1:=by simp at hi;omega
  rw[Nat.zero_add];rcases hi2 with rfl | rfl<;>exact(Blk.new W _ _).cell _)) (by simp)).mono ?_
 rintro e w' ⟨rfl,hb⟩;exact⟨rfl,((Below.refl _ W).alloc (Nat.le_refl _) _).trans (hb.mono (by simp))⟩
theorem nums_row3(m0 m1 m2:Int)(W:World):Calls Tryz.prog 204 #[.slice (some ⟨W.heap.size,0,none⟩) 3 3] (W.alloc (.cells #[.int .i64 m0,.int .i64 m1,.int .i64 m2] 3)) fun e w'=>e= .returned (.bool ([m0,m1,m2].all numP))∧Below W.heap.size W w':=by
 refine(nums_g [m0,m1,m2] _ 3 (W.alloc (.cells #[.int .i64 m0,.int .i64 m1,.int .i64 m2] 3)) (rdInt_row (by simp) (fun i hi=>by
  have hi2:i=0∨i=1∨i=2:=by simp at hi;omega
  rw[Nat.zero_add];rcases hi2 with rfl | rfl | rfl<;>exact(Blk.new W _ _).cell _)) (by simp)).mono ?_
 rintro e w' ⟨rfl,hb⟩;exact⟨rfl,((Below.refl _ W).alloc (Nat.le_refl _) _).trans (hb.mono (by simp))⟩
theorem words_row2(m0 m1:ByteArray)(W:World)(hL:LaidN W):Calls Tryz.prog 212 #[.slice (some ⟨W.heap.size,0,none⟩) 2 2] (W.alloc (.cells #[.string m0,.string m1] 9)) fun e w'=>e= .returned (.bool ([m0,m1].all wordP))∧Below W.heap.size W w':=by
 refine(words_g [m0,m1] _ 2 (W.alloc (.cells #[.string m0,.string m1] 9)) (hL.below ((Below.refl _ W).alloc (Nat.le_refl _) _)) (rdStr_row (by simp) (fun i hi=>by
  have hi2:i=0∨i=1:=by simp at hi;omega
  rw[Nat.zero_add];rcases hi2 with rfl | rfl<;>exact(Blk.new W _ _).cell _)) (by simp)).mono ?_
 rintro e w' ⟨rfl,hb⟩;exact⟨rfl,((Below.refl _ W).alloc (Nat.le_refl _) _).trans (hb.mono (by simp))⟩
theorem words_row3(m0 m1 m2:ByteArray)(W:World)(hL:LaidN W):Calls Tryz.prog 212 #[.slice (some ⟨W.heap.size,0,none⟩) 3 3] (W.alloc (.cells #[.string m0,.string m1,.string m2] 9)) fun e w'=>e= .returned (.bool ([m0,m1,m2].all wordP))∧Below W.heap.size W w':=by
 refine(words_g [m0,m1,m2] _ 3 (W.alloc (.cells #[.string m0,.string m1,.string m2] 9)) (hL.below ((Below.refl _ W).alloc (Nat.le_refl _) _)) (rdStr_row (by simp) (fun i hi=>by
  have hi2:i=0∨i=1∨i=2:=by simp at hi;omega
  rw[Nat.zero_add];rcases hi2 with rfl | rfl | rfl<;>exact(Blk.new W _ _).cell _)) (by simp)).mono ?_
 rintro e w' ⟨rfl,hb⟩;exact⟨rfl,((Below.refl _ W).alloc (Nat.le_refl _) _).trans (hb.mono (by simp))⟩
def refP(x:RefV):Bool:=([x.m,x.p,x.o].all wordP)
theorem ref_g(x:RefV)(w:World)(hL:LaidN w):CU 261 #[x.val] w (.bool (refP x)):=by
 obtain⟨y0,Hy0,HB0,Hf,HY0,HZ0,kk⟩:=box_hd w 82 #[.string x.m,.string x.p,.string x.o];obtain⟨k0,k1,k2⟩:=RefV.kl kk;have HL:=lz hL;have HF:=lz (show refP x=(([x.m,x.p,x.o].all wordP))from rfl);clear kk hL;go_enter Tryz.func261,Tryz.ntmps261;go_wp2_with fail;rw[←Hy0.out];have hc:=lz (words_row3 x.m x.p x.o y0 (HL.out.below (bt HB0 HY0)));generalize ([x.m,x.p,x.o].all wordP)=q0 at hc HF;rw[←HZ0.out];refine callB hc HY0 fun y1 HY1=> ?_
 clear hc k0 k1 k2;obtain⟨k0,k1,k2⟩:=RefV.kl (Hf.out _ HY1.out);exact e1
def portP(x:PortV):Bool:=((x.kd==1&&x.dp==0)||(x.kd==2&&x.rf==0))&&(wordP x.nm)&&([x.sz,x.dp,x.rf].all numP)
theorem port_g(x:PortV)(w:World)(hL:LaidN w)(hr:x.rd w w.heap.size):CU 257 #[x.val] w (.bool (portP x)):=by
 obtain⟨y0,Hy0,HB0,Hf,HY0,HZ0,kk⟩:=box_hd w 77 #[.string x.nm,.int .u8 x.kd,.bool x.out,.int .i64 x.sz,.int .i64 x.dp,.int .i64 x.rf];obtain⟨k0,k1,k2,k3,k4,k5⟩:=PortV.kl kk;have HL:=lz hL;have HF:=lz (show portP x=(((x.kd==1&&x.dp==0)||(x.kd==2&&x.rf==0))&&(wordP x.nm)&&([x.sz,x.dp,x.rf].all numP))from rfl);have HR:=lz hr;clear kk hL hr;go_enter Tryz.func257,Tryz.ntmps257
 cases h0A:(x.kd==1)with
 | false=>
  rw[h0A]at HF
  cases h0C:(x.kd==2)with
  | false=>
   rw[h0C]at HF;exact e0
  | true=>
   rw[h0C]at HF
   cases h0D:(x.rf==0)with
   | false=>
    rw[h0D]at HF;exact e0
   | true=>
    rw[h0D]at HF;go_wp2_with fail;rw[←Hy0.out];have hc:=lz (word_g x.nm y0 (HL.out.below (bt HB0 HY0)));generalize (wordP x.nm)=q1 at hc HF;refine callB hc HY0 fun y1 HY1=> ?_
    clear hc k0 k1 k2 k3 k4 k5;obtain⟨k0,k1,k2,k3,k4,k5⟩:=PortV.kl (Hf.out _ HY1.out)
    cases q1 with
    | false=>exact e1
    | true=>
     go_wp2_with fail;have hc:=lz (nums_row3 x.sz x.dp x.rf y1);generalize ([x.sz,x.dp,x.rf].all numP)=q2 at hc HF;refine callB hc HY1 fun y2 HY2=> ?_
     clear hc k0 k1 k2 k3 k4 k5;obtain⟨k0,k1,k2,k3,k4,k5⟩:=PortV.kl (Hf.out _ HY2.out);exact e2
 | true=>
  rw[h0A]at HF
  cases h0B:(x.dp==0)with
  | false=>
   rw[h0B]at HF
   cases h0C:(x.kd==2)with
   | false=>
    rw[h0C]at HF;exact e0
   | true=>
    rw[h0C]at HF
    cases h0D:(x.rf==0)with
    | false=>
     rw[h0D]at HF;exact e0
    | true=>
     rw[h0D]at HF;go_wp2_with fail;rw[←Hy0.out];have hc:=lz (word_g x.nm y0 (HL.out.below (bt HB0 HY0)));generalize (wordP x.nm)=q1 at hc HF;refine callB hc HY0 fun y1 HY1=> ?_
     clear hc k0 k1 k2 k3 k4 k5;obtain⟨k0,k1,k2,k3,k4,k5⟩:=PortV.kl (Hf.out _ HY1.out)
     cases q1 with
     | false=>exact e1
     | true=>
      go_wp2_with fail;have hc:=lz (nums_row3 x.sz x.dp x.rf y1);generalize ([x.sz,x.dp,x.rf].all numP)=q2 at hc HF;refine callB hc HY1 fun y2 HY2=> ?_
      clear hc k0 k1 k2 k3 k4 k5;obtain⟨k0,k1,k2,k3,k4,k5⟩:=PortV.kl (Hf.out _ HY2.out);exact e2
  | true=>
   rw[h0B]at HF;go_wp2_with fail;rw[←Hy0.out];have hc:=lz (word_g x.nm y0 (HL.out.below (bt HB0 HY0)));generalize (wordP x.nm)=q1 at hc HF;refine callB hc HY0 fun y1 HY1=> ?_
   clear hc k0 k1 k2 k3 k4 k5;obtain⟨k0,k1,k2,k3,k4,k5⟩:=PortV.kl (Hf.out _ HY1.out)
   cases q1 with
   | false=>exact e1
   | true=>
    go_wp2_with fail;have hc:=lz (nums_row3 x.sz x.dp x.rf y1);generalize ([x.sz,x.dp,x.rf].all numP)=q2 at hc HF;refine callB hc HY1 fun y2 HY2=> ?_
    clear hc k0 k1 k2 k3 k4 k5;obtain⟨k0,k1,k2,k3,k4,k5⟩:=PortV.kl (Hf.out _ HY2.out);exact e2
def repP(x:Rep):Bool:=(wordP x.unit)&&([x.code].all numP)
theorem frep_g(x:Rep)(w:World)(hL:LaidN w):CU 221 #[x.val] w (.bool (repP x)):=by
 obtain⟨y0,Hy0,HB0,Hf,HY0,HZ0,kk⟩:=box_hd w 41 #[.string x.unit,.int .i64 x.code];obtain⟨k0,k1⟩:=Rep.kl kk;have HL:=lz hL;have HF:=lz (show repP x=((wordP x.unit)&&([x.code].all numP))from rfl);clear kk hL;go_enter Tryz.func221,Tryz.ntmps221;go_wp2_with fail;rw[←Hy0.out];have hc:=lz (word_g x.unit y0 (HL.out.below (bt HB0 HY0)));generalize (wordP x.unit)=q0 at hc HF;refine callB hc HY0 fun y1 HY1=> ?_
 clear hc k0 k1;obtain⟨k0,k1⟩:=Rep.kl (Hf.out _ HY1.out)
 cases q0 with
 | false=>exact e1
 | true=>
  go_wp2_with fail;have hc:=lz (nums_row1 x.code y1);generalize ([x.code].all numP)=q1 at hc HF;refine callB hc HY1 fun y2 HY2=> ?_
  clear hc k0 k1;obtain⟨k0,k1⟩:=Rep.kl (Hf.out _ HY2.out);exact e2
def endsP(r:RefV)(l:List RefV):Bool:=refP r&&(decide (0<l.length)&&l.all refP)
theorem ends_g(r:RefV)(l:List RefV)(A:Option Addr)(c:Nat)(w:World)(hL:LaidN w)(h:RdRef w w.heap.size A l)(hl:l.length≤9223372036854775807):
 CU 209 #[r.val,.slice A l.length c] w (.bool (endsP r l)):=by
 obtain⟨y0,hy0⟩:∃y0,y0=w.alloc (.cells #[.string r.m,.string r.p,.string r.o] 82):=⟨_,rfl⟩;have hB0:Below w.heap.size w y0:=by rw[hy0];exact(Below.refl _ _).alloc (Nat.le_refl _) _
 have hr:=ref_g r y0 (hL.below hB0);have hal:=fun W (hW:Below w.heap.size w W)=>fall_Ref 261 #[] refP (enters_of Tryz.func261 kz rfl) l A c W (fun W' x hx hW'=>by simpa using ref_g x W' ((hL.below hW).below hW')) (h.below hW) hl
 have HF:=lz (show endsP r l=(refP r&&(decide (0<l.length)&&l.all refP))from rfl);obtain⟨q,hq⟩:∃q,q=refP r:=⟨_,rfl⟩;obtain⟨q2,hq2⟩:∃q,q=l.all refP:=⟨_,rfl⟩;rw[←hq]at hr HF;rw[←hq2]at HF;have hal:∀W,Below w.heap.size w W→CU 262 #[.slice A l.length c,.func (.func 261) #[] #[]] W (.bool q2):=by rw[hq2];exact hal
 have Hr:=lz hr;have Hal:=lz hal;have HB0:=lz hB0;have Hy0:=lz hy0;clear hr hal hB0 hy0 hL h hq hq2;dsimp only[RefV.val];go_enter Tryz.func209,Tryz.ntmps209;go_wp2_with fail;rw[←Hy0.out];refine Hr.out.mono ?_;rintro e y1 ⟨rfl,hb⟩;have HB1:=lz (HB0.out.trans (hb.mono HB0.out.size));clear hb
 cases q with
 | false=>
  go_wp2_with fail;go_ret;exact⟨by rw[HF.out];rfl,HB1.out⟩
 | true=>
  by_cases hn:0<l.length
  ·have hd:decide ((l.length:Int)>0)=true:=decide_eq_true (by omega)
   rw[decide_eq_true hn]at HF;go_wp2_with fail;refine(Hal.out y1 HB1.out).mono ?_;rintro e y2 ⟨rfl,hb⟩;have HB2:=lz (HB1.out.trans (hb.mono HB1.out.size));clear hb;go_wp2_with fail;go_ret;exact⟨by rw[HF.out];rfl,HB2.out⟩
  ·have hd:decide ((l.length:Int)>0)=false:=decide_eq_false (by omega)
   rw[decide_eq_false hn]at HF;have hd3:l.length=0:=by omega
   go_wp2_with fail;go_ret;exact⟨by rw[HF.out];rfl,HB1.out⟩
def emptyP(s:ByteArray):Bool:=decide (s=⟨#[]⟩)||wordP s
theorem empty_g(s:ByteArray)(w:World)(hL:LaidN w):CU 215 #[.string s] w (.bool (emptyP s)):=by
 have HF:=lz (show emptyP s=(decide (s=⟨#[]⟩)||wordP s)from rfl);have Hw:=lz (word_g s w hL);clear hL;by_cases hs:s=⟨#[]⟩
 ·subst hs
  rw[decide_eq_true rfl]at HF;go_enter Tryz.func215,Tryz.ntmps215;go_wp2_with fail;go_ret;exact⟨by rw[HF.out];rfl,Below.refl _ _⟩
 ·have he:=neS_ne hs
  rw[decide_eq_false hs]at HF;clear hs;go_enter Tryz.func215,Tryz.ntmps215;go_wp2_with fail;refine Hw.out.mono ?_;rintro e y1 ⟨rfl,hb⟩;go_wp2_with fail;go_ret;exact⟨by rw[HF.out];rfl,hb⟩
def causeP(x:CsV):Bool:=((x.c.unit :: x.c.excl).all wordP)&&(decide (0<x.c.needs.length)&&x.c.needs.all repP)
set_option maxHeartbeats 1000000 in
theorem cause_g(x:CsV)(w:World)(hL:LaidN w)(hx:x.rd w w.heap.size)(hxm:x.x.n≤8796093021952):
 CU 132 #[x.val] w (.bool (causeP x)):=by
 obtain⟨w1,hw1⟩:∃w1,w1=w.alloc (.cells #[.string x.c.unit,.slice x.n.a x.n.n x.n.c,.slice x.x.a x.x.n x.x.c] 48):=⟨_,rfl⟩;have hB1:Below w.heap.size w w1:=by rw[hw1];exact(Below.refl _ _).alloc (Nat.le_refl _) _
 have hbx:Blk w1 w.heap.size 48 #[.string x.c.unit,.slice x.n.a x.n.n x.n.c,.slice x.x.a x.x.n x.x.c]:=by rw[hw1];exact Blk.new w _ _
 have hx1:=hx.below hB1;obtain⟨i0,hi0,hz0,hz1,hz2⟩:=info_parts info9;have hz1':w1.heap.size=w.heap.size+1:=by rw[hw1];simp
 have hrd:Reads (w1.alloc (.cells #[.string x.c.unit] 9)) w1.heap.size 1 x.x.a x.x.n (x.c.excl.map Value.string):=by
  refine⟨by rw[List.length_map,←hx1.xl];omega,fun hn=> ?_⟩;obtain⟨b,o,e,hb,hc⟩:=hx1.x (by rw[←hx1.xl];exact hn);exact⟨_,e,hb,fun j u hu=>(World.cell?_alloc_lt w1 _ _ (by rw[block_of_add];exact hb)).trans (str_flat hc j u hu)⟩
 have hown:(w1.alloc (.cells #[.string x.c.unit] 9)).ownsRow (w.heap.size+1) 9 1 (.slice (some ⟨w.heap.size+1,0,none⟩) 1 1) 1 [.string x.c.unit]:=by
  rw[←hz1'];exact World.ownsRow_lit w1 #[.string x.c.unit] 1 (Nat.le_refl _) (by simp[maxLen]) rfl
 have hxl2:=hx.xl;have hall:=fun W (hW:Below w.heap.size w W)=>all_251 221 #[] repP (enters_of Tryz.func221 kz rfl) x.c.needs x.n.a x.n.c W (fun W' r hr hW'=>by simpa using frep_g r W' ((hL.below hW).below hW')) ((hx.below hW).n) (by have h1:=hx.nl;have h2:=hx.nc;have h3:=hx.nm;unfold maxLen at h3;omega)
 have hwd:=fun l A c W (hW:Below w.heap.size w W)=>words_g l A c W (hL.below hW)
 have hnl:=hx.nl;have HF:=lz (show causeP x=(((x.c.unit :: x.c.excl).all wordP)&&(decide (0<x.c.needs.length)&&x.c.needs.all repP))from rfl);obtain⟨q,hq⟩:∃q,q=(x.c.unit :: x.c.excl).all wordP:=⟨_,rfl⟩;obtain⟨q2,hq2⟩:∃q,q=x.c.needs.all repP:=⟨_,rfl⟩;rw[←hq,←hq2,←hnl]at HF;have hall:∀W,Below w.heap.size w W→CU 220 #[.slice x.n.a x.n.n x.n.c,.func (.func 221) #[] #[]] W (.bool q2):=by rw[hq2,hnl];exact hall
 have Hw1:=lz hw1;have HB1:=lz hB1;have Hbx:=lz hbx;have Hx1:=lz hx1;have Hrd:=lz hrd;have Hown:=lz hown;have Hall:=lz hall;have Hwd:=lz hwd;have Hq:=lz hq;have Hz:=lz hz1';have Hxl:=lz hxl2;have k2:(w1.alloc (.cells #[.string x.c.unit] 9)).cell? ⟨w.heap.size,2,none⟩=some (.slice x.x.a x.x.n x.x.c):=(hbx.alloc _).cell 2;clear hw1 hB1 hbx hx1 hrd hown hx hall hnl hz1' hxl2 hwd hq hq2 hL;dsimp only[CsV.val];go_enter Tryz.func132,Tryz.ntmps132;go_wp2_with (at_builtin;rw[←Hw1.out];refine wpList_append_any _ rfl (.tmp 5) (.tmp 7) 46 rfl (w.heap.size+1) 9 i0 (.string ⟨#[]⟩) 1 16 Tryz.underlying46 hi0 hz0 hz1 hz2 rfl (by decide) _ _ _ rfl Hown.out w1.heap.size x.x.a x.x.n x.x.c _ rfl Hrd.out ?c1 ?c2 ?c3 ?c4 ?_)
 case c1=>intro u hu;simp at hu;obtain⟨s,_,rfl⟩:=hu;rfl
 case c2=>unfold maxLen;omega
 case c3=>omega
 case c4=>have:=Hz.out;simp;omega
 intro v5 w5 hown5 hg5 _;have hb5:Below w1.heap.size w1 w5:=((Below.refl _ w1).alloc (Nat.le_refl _) (.cells #[.string x.c.unit] 9)).grown hg5 (by simp) (fun g hg=>by have:=(Hown.out.lt g hg).1;have:=Hz.out;omega);obtain⟨A5,c5,rfl,_⟩:=own_caps hown5;have e5:1+x.x.n=(x.c.unit :: x.c.excl).length:=by rw[Hxl.out];simp;omega
 have hrd5:RdStr w5 w5.heap.size A5 (x.c.unit :: x.c.excl):=by
  rw[e5]at hown5;exact rdStr_of_own (l:=x.c.unit :: x.c.excl) hown5
 have hB5:=HB1.out.trans (hb5.mono HB1.out.size);have hws:=Hwd.out (x.c.unit :: x.c.excl) A5 c5 w5 hB5 hrd5 (by rw[←e5];omega);rw[←e5,←Hq.out]at hws;have Hws:=lz hws;have Hb5:=lz hb5;have HB5:=lz hB5;clear hws hrd5 hown5 hg5 hb5 e5 hB5;go_wp2_with fail;refine Hws.out.mono ?_;rintro e w6 ⟨rfl,hb6⟩;have hB6:=Hb5.out.trans (hb6.mono Hb5.out.size);have hbx6:=Hbx.out.below hB6 Hbx.out.lt;have k1:=hbx6.cell 1;have HB6:=lz (HB1.out.trans (hB6.mono HB1.out.size));clear hb6 hB6 hbx6
 cases q with
 | false=>
  go_wp2_with fail;go_ret;exact⟨by rw[HF.out];rfl,HB6.out⟩
 | true=>
  by_cases hn:0<x.n.n
  ·have hd:decide ((x.n.n:Int)>0)=true:=decide_eq_true (by omega)
   rw[decide_eq_true hn]at HF;have Hal:=lz (Hall.out w6 HB6.out);go_wp2_with fail;refine Hal.out.mono ?_;rintro e w7 ⟨rfl,hb7⟩;have HB7:=lz (HB6.out.trans (hb7.mono HB6.out.size));clear hb7;go_wp2_with fail;go_ret;exact⟨by rw[HF.out];rfl,HB7.out⟩
  ·have hd:decide ((x.n.n:Int)>0)=false:=decide_eq_false (by omega)
   rw[decide_eq_false hn]at HF;have hd3:x.n.n=0:=by omega
   go_wp2_with fail;go_ret;exact⟨by rw[HF.out];rfl,HB6.out⟩
def chanP(x:ChanV):Bool:=(endsP x.src x.dst.l)
theorem chan_g(x:ChanV)(w:World)(hL:LaidN w)(hr:x.rd w w.heap.size):CU 122 #[x.val] w (.bool (chanP x)):=by
 obtain⟨y0,Hy0,HB0,Hf,HY0,HZ0,kk⟩:=box_hd w 85 #[.string x.src.m,.string x.src.p,.string x.src.o,.slice x.dst.a x.dst.l.length x.dst.c];obtain⟨k0,k1,k2,k3⟩:=ChanV.kl kk;have HL:=lz hL;have HF:=lz (show chanP x=((endsP x.src x.dst.l))from rfl);have HR:=lz hr;clear kk hL hr;go_enter Tryz.func122,Tryz.ntmps122;go_wp2_with fail;rw[←Hy0.out];have hc:=lz (ends_g x.src x.dst.l x.dst.a x.dst.c y0 (HL.out.below (bt HB0 HY0)) ((HR.out.below (bt HB0 HY0)).dst) (Nat.le_trans HR.out.dst1 (Nat.le_trans HR.out.dst2 (by decide))));generalize (endsP x.src x.dst.l)=q0 at hc HF;refine callB hc HY0 fun y1 HY1=> ?_
 clear hc k0 k1 k2 k3;obtain⟨k0,k1,k2,k3⟩:=ChanV.kl (Hf.out _ HY1.out);exact e1
def nodeP(x:SwV):Bool:=(wordP x.nm)&&(netP x.net)&&([x.dl,x.st].all numP)
theorem node_g(x:SwV)(w:World)(hL:LaidN w):CU 124 #[x.val] w (.bool (nodeP x)):=by
 obtain⟨y0,Hy0,HB0,Hf,HY0,HZ0,kk⟩:=box_hd w 90 #[.string x.nm,.int .i64 x.net,.int .i64 x.dl,.int .i64 x.st];obtain⟨k0,k1,k2,k3⟩:=SwV.kl kk;have HL:=lz hL;have HF:=lz (show nodeP x=((wordP x.nm)&&(netP x.net)&&([x.dl,x.st].all numP))from rfl);clear kk hL;go_enter Tryz.func124,Tryz.ntmps124;go_wp2_with fail;rw[←Hy0.out];have hc:=lz (word_g x.nm y0 (HL.out.below (bt HB0 HY0)));generalize (wordP x.nm)=q0 at hc HF;refine callB hc HY0 fun y1 HY1=> ?_
 clear hc k0 k1 k2 k3;obtain⟨k0,k1,k2,k3⟩:=SwV.kl (Hf.out _ HY1.out)
 cases q0 with
 | false=>exact e1
 | true=>
  cases h1A:netP x.net with
  | false=>
   rw[h1A]at HF;have HN:=netP_no h1A;clear h1A;exact e1
  | true=>
   rw[h1A]at HF;have HN:=netP_yes h1A;clear h1A;go_wp2_with fail;have hc:=lz (nums_row2 x.dl x.st y1);generalize ([x.dl,x.st].all numP)=q2 at hc HF;refine callB hc HY1 fun y2 HY2=> ?_
   clear hc k0 k1 k2 k3;obtain⟨k0,k1,k2,k3⟩:=SwV.kl (Hf.out _ HY2.out);exact e2
def linkP(x:LinkV):Bool:=([x.a,x.b].all wordP)&&(netP x.net)&&([x.slow].all numP)
theorem link_g(x:LinkV)(w:World)(hL:LaidN w):CU 126 #[x.val] w (.bool (linkP x)):=by
 obtain⟨y0,Hy0,HB0,Hf,HY0,HZ0,kk⟩:=box_hd w 92 #[.string x.a,.string x.b,.int .i64 x.net,.int .i64 x.slow];obtain⟨k0,k1,k2,k3⟩:=LinkV.kl kk;have HL:=lz hL;have HF:=lz (show linkP x=(([x.a,x.b].all wordP)&&(netP x.net)&&([x.slow].all numP))from rfl);clear kk hL;go_enter Tryz.func126,Tryz.ntmps126;go_wp2_with fail;rw[←Hy0.out];have hc:=lz (words_row2 x.a x.b y0 (HL.out.below (bt HB0 HY0)));generalize ([x.a,x.b].all wordP)=q0 at hc HF;rw[←HZ0.out];refine callB hc HY0 fun y1 HY1=> ?_
 clear hc k0 k1 k2 k3;obtain⟨k0,k1,k2,k3⟩:=LinkV.kl (Hf.out _ HY1.out)
 cases q0 with
 | false=>exact e1
 | true=>
  cases h1A:netP x.net with
  | false=>
   rw[h1A]at HF;have HN:=netP_no h1A;clear h1A;exact e1
  | true=>
   rw[h1A]at HF;have HN:=netP_yes h1A;clear h1A;go_wp2_with fail;have hc:=lz (nums_row1 x.slow y1);generalize ([x.slow].all numP)=q2 at hc HF;refine callB hc HY1 fun y2 HY2=> ?_
   clear hc k0 k1 k2 k3;obtain⟨k0,k1,k2,k3⟩:=LinkV.kl (Hf.out _ HY2.out);exact e2
def vlP(x:VlV):Bool:=(wordP x.nm)&&(endsP x.src x.dst.l)&&([x.bag,x.mx].all numP)
theorem vl_g(x:VlV)(w:World)(hL:LaidN w)(hr:x.rd w w.heap.size):CU 128 #[x.val] w (.bool (vlP x)):=by
 obtain⟨y0,Hy0,HB0,Hf,HY0,HZ0,kk⟩:=box_hd w 88 #[.string x.nm,.string x.src.m,.string x.src.p,.string x.src.o,.int .i64 x.bag,.int .i64 x.mx,.slice x.dst.a x.dst.l.length x.dst.c];obtain⟨k0,k1,k2,k3,k4,k5,k6⟩:=VlV.kl kk;have HL:=lz hL;have HF:=lz (show vlP x=((wordP x.nm)&&(endsP x.src x.dst.l)&&([x.bag,x.mx].all numP))from rfl);have HR:=lz hr;clear kk hL hr;go_enter Tryz.func128,Tryz.ntmps128;go_wp2_with fail;rw[←Hy0.out];have hc:=lz (word_g x.nm y0 (HL.out.below (bt HB0 HY0)));generalize (wordP x.nm)=q0 at hc HF;refine callB hc HY0 fun y1 HY1=> ?_
 clear hc k0 k1 k2 k3 k4 k5 k6;obtain⟨k0,k1,k2,k3,k4,k5,k6⟩:=VlV.kl (Hf.out _ HY1.out)
 cases q0 with
 | false=>exact e1
 | true=>
  go_wp2_with fail;have hc:=lz (ends_g x.src x.dst.l x.dst.a x.dst.c y1 (HL.out.below (bt HB0 HY1)) ((HR.out.below (bt HB0 HY1)).dst) (Nat.le_trans HR.out.dst1 (Nat.le_trans HR.out.dst2 (by decide))));generalize (endsP x.src x.dst.l)=q1 at hc HF;refine callB hc HY1 fun y2 HY2=> ?_
  clear hc k0 k1 k2 k3 k4 k5 k6;obtain⟨k0,k1,k2,k3,k4,k5,k6⟩:=VlV.kl (Hf.out _ HY2.out)
  cases q1 with
  | false=>exact e2
  | true=>
   go_wp2_with fail;have hc:=lz (nums_row2 x.bag x.mx y2);generalize ([x.bag,x.mx].all numP)=q2 at hc HF;refine callB hc HY2 fun y3 HY3=> ?_
   clear hc k0 k1 k2 k3 k4 k5 k6;obtain⟨k0,k1,k2,k3,k4,k5,k6⟩:=VlV.kl (Hf.out _ HY3.out);exact e3
def healthP(x:HeaV):Bool:=(emptyP x.m)&&(emptyP x.p)&&(neS (vocV faultsV x.flt))&&(neS (vocV levelsV x.lv))&&(neS (vocV actionsV x.dd))
theorem health_g(x:HeaV)(w:World)(hL:LaidN w)(hr:x.rd w w.heap.size):CU 130 #[x.val] w (.bool (healthP x)):=by
 obtain⟨y0,Hy0,HB0,Hf,HY0,HZ0,kk⟩:=box_hd w 94 #[.string x.m,.string x.p,.int .u8 x.flt,.int .u8 x.lv,.int .u8 x.dd];obtain⟨k0,k1,k2,k3,k4⟩:=HeaV.kl kk;have HL:=lz hL;have HF:=lz (show healthP x=((emptyP x.m)&&(emptyP x.p)&&(neS (vocV faultsV x.flt))&&(neS (vocV levelsV x.lv))&&(neS (vocV actionsV x.dd)))from rfl);have HR:=lz hr;clear kk hL hr;go_enter Tryz.func130,Tryz.ntmps130;go_wp2_with fail;rw[←Hy0.out];have hc:=lz (empty_g x.m y0 (HL.out.below (bt HB0 HY0)));generalize (emptyP x.m)=q0 at hc HF;refine callB hc HY0 fun y1 HY1=> ?_
 clear hc k0 k1 k2 k3 k4;obtain⟨k0,k1,k2,k3,k4⟩:=HeaV.kl (Hf.out _ HY1.out)
 cases q0 with
 | false=>exact e1
 | true=>
  go_wp2_with fail;have hc:=lz (empty_g x.p y1 (HL.out.below (bt HB0 HY1)));generalize (emptyP x.p)=q1 at hc HF;refine callB hc HY1 fun y2 HY2=> ?_
  clear hc k0 k1 k2 k3 k4;obtain⟨k0,k1,k2,k3,k4⟩:=HeaV.kl (Hf.out _ HY2.out)
  cases q1 with
  | false=>exact e2
  | true=>
   go_wp2_with fail;have hc:=lz (fault_c x.flt y2 (HL.out.below (bt HB0 HY2)) HR.out.flt0.1 HR.out.flt0.2);generalize (vocV faultsV x.flt)=q2 at hc HF;refine callB hc HY2 fun y3 HY3=> ?_
   clear hc k0 k1 k2 k3 k4;obtain⟨k0,k1,k2,k3,k4⟩:=HeaV.kl (Hf.out _ HY3.out);by_cases hne2:q2=⟨#[]⟩
   ·subst hne2
    rw[show neS ⟨#[]⟩=false from by rfl]at HF;exact e3
   ·have hnb2:=neS_ne hne2
    rw[show neS q2=true from decide_eq_true hne2]at HF;clear hne2;go_wp2_with fail;have hc:=lz (level_c x.lv y3 (HL.out.below (bt HB0 HY3)) HR.out.lv0.1 HR.out.lv0.2);generalize (vocV levelsV x.lv)=q3 at hc HF;refine callB hc HY3 fun y4 HY4=> ?_
    clear hc k0 k1 k2 k3 k4;obtain⟨k0,k1,k2,k3,k4⟩:=HeaV.kl (Hf.out _ HY4.out);by_cases hne3:q3=⟨#[]⟩
    ·subst hne3
     rw[show neS ⟨#[]⟩=false from by rfl]at HF;exact e4
    ·have hnb3:=neS_ne hne3
     rw[show neS q3=true from decide_eq_true hne3]at HF;clear hne3;go_wp2_with fail;have hc:=lz (action_c x.dd y4 (HL.out.below (bt HB0 HY4)) HR.out.dd0.1 HR.out.dd0.2);generalize (vocV actionsV x.dd)=q4 at hc HF;refine callB hc HY4 fun y5 HY5=> ?_
     clear hc k0 k1 k2 k3 k4;obtain⟨k0,k1,k2,k3,k4⟩:=HeaV.kl (Hf.out _ HY5.out);by_cases hne4:q4=⟨#[]⟩
     ·subst hne4
      rw[show neS ⟨#[]⟩=false from by rfl]at HF;exact e5
     ·have hnb4:=neS_ne hne4
      rw[show neS q4=true from decide_eq_true hne4]at HF;clear hne4;exact e5
def vsnP(x:VsnV):Bool:=([x.a,x.b].all wordP)&&([x.va,x.vb].all numP)
theorem vsn_g(x:VsnV)(w:World)(hL:LaidN w):CU 134 #[x.val] w (.bool (vsnP x)):=by
 obtain⟨y0,Hy0,HB0,Hf,HY0,HZ0,kk⟩:=box_hd w 96 #[.string x.a,.int .i64 x.va,.string x.b,.int .i64 x.vb];obtain⟨k0,k1,k2,k3⟩:=VsnV.kl kk;have HL:=lz hL;have HF:=lz (show vsnP x=(([x.a,x.b].all wordP)&&([x.va,x.vb].all numP))from rfl);clear kk hL;go_enter Tryz.func134,Tryz.ntmps134;go_wp2_with fail;rw[←Hy0.out];have hc:=lz (words_row2 x.a x.b y0 (HL.out.below (bt HB0 HY0)));generalize ([x.a,x.b].all wordP)=q0 at hc HF;rw[←HZ0.out];refine callB hc HY0 fun y1 HY1=> ?_
 clear hc k0 k1 k2 k3;obtain⟨k0,k1,k2,k3⟩:=VsnV.kl (Hf.out _ HY1.out)
 cases q0 with
 | false=>exact e1
 | true=>
  go_wp2_with fail;have hc:=lz (nums_row2 x.va x.vb y1);generalize ([x.va,x.vb].all numP)=q1 at hc HF;refine callB hc HY1 fun y2 HY2=> ?_
  clear hc k0 k1 k2 k3;obtain⟨k0,k1,k2,k3⟩:=VsnV.kl (Hf.out _ HY2.out);exact e2
end Go.Proofs.YtchfcgilpjkmhaaGreatDoor
