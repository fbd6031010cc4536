import Derived.Test.YtmdgooofdmpcjaaGreatDoorY8
import Derived.Test.YtmdgooofdmpcjaaGreatDoorY0
set_option maxRecDepth 100000
set_option maxHeartbeats 8000000
set_option linter.unusedSimpArgs false
set_option linter.unusedVariables false
set_option linter.unusedSectionVars false
open Go.Proofs.Tryz renaming prog → pG
namespace Go.Proofs.YtmdgooofdmpcjaaGreatDoor
section
open Go.ChangeShapes Go.WideShapes Go.ChangeAt Go.RowKit
attribute [local go_sem] Oper.semAt_some
open Go.Act renaming put → zP
open List renaming setIfInBounds_toArray → zA, set_cons_zero → zB, set_cons_succ → zC
def qK.at(x:qK):aC:=⟨x.nm,x.pe,x.le,x.mem,gN,0,0,gN,⟨none,0,x.aq⟩,gN⟩
def uf(x:qK):Nat:=9+8*x.aq.length
def fL:List qK→Nat
 | []=>0
 | x :: r=>1+uf x+fL r
def ug(ts:List Tok):Nat→List qK→Bool
 | p,[]=>gZ ts p (fun t=>dB t ⟨#[112,97,114,116]⟩==false)
 | p,x :: r=>gZ ts p (fun t=>dB t ⟨#[112,97,114,116]⟩==true)&&Ry ts (p+1) x.at&&decide (x.aq.length≤1000)&&ug ts (p+1+uf x) r
theorem yS{ts:List Tok}:∀(L:List qK) (p k:Nat),ug ts p L=true→k≤L.length→ug ts (p+fL (L.take k)) (L.drop k)=true
 | L,p,0,h,_=>by simpa [fL]using h
 | [],p,k+1,h,hk=>by simp at hk
 | x :: r,p,k+1,h,hk=>by
  unfold ug at h;simp only[Bool.and_eq_true]at h;have:=yS r _ k h.2 (by simpa using hk);rw[List.take_succ_cons,List.drop_succ_cons];unfold fL;rw[show p+(1+uf x+fL (r.take k))=p+1+uf x+fL (r.take k)from by omega];exact this
theorem vk:∀(L:List qK) (x:qK),fL (L++ [x])=fL L+1+uf x
 | [],x=>by simp[fL]
 | y :: L,x=>by
  rw[List.cons_append];unfold fL;rw[vk L x];omega
def RO(ts:List Tok)(p:Nat)(x:DA):Bool:=gZ ts p (wj x.nm)&&gZ ts (p+1) (fun t=>dB t ⟨#[109,101,109]⟩)&&gZ ts (p+2) (Te x.mem)&&gZ ts (p+3) (fun t=>dB t ⟨#[102,114,97,109,101]⟩)&&gZ ts (p+4) (Te x.fr)&&gZ ts (p+5) (fun t=>dB t ⟨#[123]⟩)&&ug ts (p+6) x.parts&&gZ ts (p+6+fL x.parts) (fun t=>dB t ⟨#[125]⟩)&&decide (x.parts.length≤1000)
def zi(x:DA):Nat:=7+fL x.parts
section
variable {g:Nat} {A:Option Addr} {c:Nat} {ts:List Tok} {now:Nat} {sz:Int}
structure lP(w:World)(g Bc:Nat)(A:Option Addr)(c:Nat)(ts:List Tok)(sz:Int)(rs cs:Array Value)(v:Value)(P:List aC)(p:Nat)(W:World):Prop where
 ro:iA w g Bc A c ts sz 67 rs cs 71 10 v P.length (P.flatMap aC.cells) p W
 q:dA W w.heap.size (P.map aC.row)
theorem aHP(P:List aC){t:TypeId}(h:73≠t):∀r∈P.map aC.row,r.t≠t:=fun r hr=>by
 obtain⟨p,_,rfl⟩:=List.mem_map.1 hr;exact h
theorem lP.next{w W W':World}{Bc p p':Nat}{rs cs:Array Value}{v:Value}{P:List aC}(h:lP w g Bc A c ts sz rs cs v P p W)(hI:gM W' g A c ts p' sz)(hG:Gr (· =g) W W'):lP w g Bc A c ts sz rs cs v P p' W':=
 ⟨h.ro.next hI hG,h.q.gr hG h.ro.po.hg⟩
theorem Ti{f:FuncId}{args:Array Value}{w W:World}{Bc p p':Nat}{rs cs:Array Value}{u v:Value}{P:List aC}{R:Ending→World→Prop}(h:Hid (lP w g Bc A c ts sz rs cs v P p W))(hc:PC f args W g A c ts sz p' u)
 (k:∀W',Hid (lP w g Bc A c ts sz rs cs v P p' W')→R (.returned u) W'):Calls pG f args W R:=
 hc.mono fun e W' hh=>by obtain⟨rfl,h1,h2⟩:=hh;exact k W' (lz (h.out.next h1 h2))
theorem aDF{f:FuncId}{args:Array Value}{w W:World}{Bc p p':Nat}{rs cs:Array Value}{v:Value}{P:List aC}{R:Ending→World→Prop}(h:Hid (lP w g Bc A c ts sz rs cs v P p W))(hc:Calls pG f args W fun e w'=>(∃v,e= .returned v)∧gM w' g A c ts p' sz∧Gr (· =g) W w')
 (k:∀u W',Hid (lP w g Bc A c ts sz rs cs v P p' W')→R (.returned u) W'):Calls pG f args W R:=
 hc.mono fun e W' hh=>by obtain⟨⟨u,rfl⟩,h1,h2⟩:=hh;exact k u W' (lz (h.out.next h1 h2))
theorem lP.kb{w W:World}{Bc p:Nat}{rs cs:Array Value}{v:Value}{P:List aC}(h:Hid (lP w g Bc A c ts sz rs cs v P p W)):(∀i,W.cell? ⟨Bc,i,none⟩=cs[i]?)∧(∀i,W.frozen? ⟨Bc,i,none⟩=false):=⟨h.out.ro.po.blk.cell,h.out.ro.po.blk.frozen⟩
theorem lP.put{w W:World}{Bc p:Nat}{rs cs:Array Value}{v:Value}{P:List aC}(h:lP w g Bc A c ts sz rs cs v P p W)(i:Nat)(u:Value):lP w g Bc A c ts sz rs (cs.setIfInBounds i u) v P p (W.setCell ⟨Bc,i,none⟩ u):=
 ⟨h.ro.put i u dz,h.q.set h.ro.po.blk (aHP P dz) u⟩
theorem lP.sJ{w W:World}{Bc p:Nat}{rs cs:Array Value}{v:Value}{P:List aC}(h:lP w g Bc A c ts sz rs cs v P p W)(i:Nat)(u:Value):lP w g Bc A c ts sz (rs.setIfInBounds i u) cs v P p (W.setCell ⟨w.heap.size,i,none⟩ u):=
 ⟨h.ro.sJ dz i u,h.q.set h.ro.po.res (aHP P dz) u⟩
theorem lP.part{w W W':World}{Bc p p' b:Nat}{rs cs:Array Value}{v:Value}{P:List aC}{y:aC}(h:lP w g Bc A c ts sz rs cs v P p W)(hI:gM W' g A c ts p' sz)(hG:Gr (· =g) W W')(ho:W'.ownsRow b 73 6 y.aq.val y.aq.l.length (y.aq.l.flatMap aM.cells))(hb:w.heap.size≤b):
 iA w g Bc A c ts sz 67 rs cs 71 10 v P.length (P.flatMap aC.cells) p' W'∧dA W' w.heap.size ((P++ [y]).map aC.row):=
 ⟨(h.next hI hG).ro,by rw[List.map_append];exact(h.next hI hG).q.app (dA.one (nV ho hb))⟩
theorem aDG{w W W':World}{Bc p:Nat}{rs cs:Array Value}{v v':Value}{P:List aC}{y:aC}{o:Obj}(h:iA w g Bc A c ts sz 67 rs cs 71 10 v P.length (P.flatMap aC.cells) p W)(hq:dA W w.heap.size ((P++ [y]).map aC.row))
 (hown:W'.ownsRow w.heap.size 71 10 v' (P.length+1) (P.flatMap aC.cells++y.cells)) (hG:(W.alloc o).grownBy W' v.ownBlock):lP w g Bc A c ts sz rs cs v' (P++ [y]) p W':=by
 refine⟨?_,(hq.below (bN)).grown hG (h.own.alloc o) (aHP _ dz)⟩;have:=h.grow hown hG dz;simpa using this
theorem ZW(x:DA)(w:World)(h:gM w g A c ts now sz)(hl:ts.length≤100000)(ha:RO ts now x=true):
 Calls pG 196 #[.pointer (some ⟨g,0,none⟩)] w fun e w'=>∃y:bT,e= .returned y.val∧y.is x∧dA w' w.heap.size y.rows∧gM w' g A c ts (now+zi x) sz∧Gr (· =g) w w':=by
 unfold RO at ha;simp only[Bool.and_eq_true,decide_eq_true_eq]at ha;obtain⟨⟨⟨⟨⟨⟨⟨⟨a1,a2⟩,a3⟩,a4⟩,a5⟩,a6⟩,a7⟩,a8⟩,a9⟩:=ha;obtain⟨nm,mem,fr,L⟩:=x;dsimp only at a1 a2 a3 a4 a5 a6 a7 a8 a9;have hat:=fun k hk=>yS L (now+6) k a7 hk
 obtain⟨w0,hw⟩:=ez (w.alloc (.cells #[.string ⟨#[]⟩,.int .i64 0,.int .i64 0,.slice none 0 0] 67));have hw0:Below w.heap.size w w0:=by rw[hw];exact bN
 have jy:ah w0 w.heap.size 67 #[.string ⟨#[]⟩,.int .i64 0,.int .i64 0,.slice none 0 0]:=by rw[hw];exact ah.new w _ _
 have h1:=lz (kV nm w0 (h.below hw0) hl a1);have rT:=lz jy;have aV:=lz hw0;have Mc:=lz hw;have hlt:=h.lt;have HA:=lz (ai a2 (ai a3 (ai a4 (ai a5 (ai a6 a8)))));have Vw:=lz hat;obtain⟨i0,lX,hz0,hz1,hz2⟩:=info_parts aHK;clear h a1 a2 a3 a4 a5 a6 a7 a8 hw hw0 jy hat;go_enter Tryz.func196,Tryz.ntmps196;go_wp2_with fail;rw[←Mc.out];refine h1.out.mono ?_;rintro e w1 ⟨rfl,PK,sK⟩;obtain⟨y,hy⟩:=ez (w1.alloc (.cells #[.string nm,.int .i64 0,.int .i64 0,.slice none 0 0] 67));have hS:eW w g w1.heap.size A c ts sz 67 #[.string ⟨#[]⟩,.int .i64 0,.int .i64 0,.slice none 0 0] #[.string nm,.int .i64 0,.int .i64 0,.slice none 0 0] (now+1) y:=by
  have hB:Below w1.heap.size w1 y:=by rw[hy];exact bN
  have hs:w.heap.size<w1.heap.size:=Nat.lt_of_lt_of_le rT.out.lt sK.size;exact⟨PK.below hB,((Gr.ak aV.out).trans sK).trans (Gr.ak hB),hlt,(sK.blk rT.out oz).below hB hs,by rw[hy];exact ah.new w1 _ _,hs⟩
 have HS:=lz hS;have Hy:=lz hy;clear hS PK sK h1 hy rT aV Mc;go_wp2_with fail;rw[←Hy.out];refine jD HS (gY _ mem _ HS.out.eX hl HA.out.1 HA.out.2.1) fun W2 sC=> ?_
 have k2:W2.cell? ⟨w1.heap.size,1,none⟩=some (.int .i64 0):=(eW.kb sC).1 1;have f2:W2.frozen? ⟨w1.heap.size,1,none⟩=false:=(eW.kb sC).2 1;clear HS Hy;go_wp2_with fail;have wg:=lz (sC.out.put 1 (.int .i64 mem));refine jD wg (gY _ fr _ wg.out.eX hl HA.out.2.2.1 HA.out.2.2.2.1) fun W3 pP=> ?_
 clear k2 f2 sC wg;have k3:W3.cell? ⟨w1.heap.size,2,none⟩=some (.int .i64 0):=(eW.kb pP).1 2;have f3:W3.frozen? ⟨w1.heap.size,2,none⟩=false:=(eW.kb pP).2 2;go_wp2_with fail;have wh:=lz (pP.out.put 2 (.int .i64 fr));refine qQ wh (iX _ _ wh.out.eX hl HA.out.2.2.2.2.1) fun v5 W5 qu=> ?_
 have QW:Hid (lP w g w1.heap.size A c ts sz #[.string ⟨#[]⟩,.int .i64 0,.int .i64 0,.slice none 0 0] #[.string nm,.int .i64 mem,.int .i64 fr,.slice none 0 0] (.slice none 0 0) [] (now+6) W5):=
  lz ⟨⟨qu.out,World.ownsRow_nil _ _ _ _⟩,dA.nil⟩
 clear k3 f3 pP wh qu;go_wp2;go_loopw [] (fun wr=>∃(k:Nat) (v:Value) (P:List aC),k≤L.length∧iC aC.is P (L.take k)∧lP w g w1.heap.size A c ts sz #[.string ⟨#[]⟩,.int .i64 0,.int .i64 0,.slice none 0 0] #[.string nm,.int .i64 mem,.int .i64 fr,v] v P (now+6+fL (L.take k)) wr) (fun wr=>2*(ts.length+1)-jZ g wr)
 case atStart=>exact⟨0,_,[],nZ,trivial,QW.out⟩
 case round=>
  clear QW;obtain⟨k,v,P,hk,hP,hR⟩:=hrel;have hPl:P.length=k:=by have:=hP.len;simp at this;omega
  obtain⟨Av,cv,rfl,_⟩:=bp hR.ro.own;have HR:=lz hR;have HP:=lz hP;have wW:=hR.ro.po.eX.jZ;have hP1:P.length≤1000:=by omega
  have HPl:=lz hPl;obtain⟨pos,DE⟩:=ez (now+6+fL (L.take k));have DF:=Vw.out k hk;rw[←DE]at DF wW HR;have aAw:=lz DE;clear hR hP hPl DE;by_cases iJ:k=L.length
  ·have hs:=lz fun W (hW:gM W g A c ts pos sz)=>ZR ⟨#[112,97,114,116]⟩ false W hW hl (by rw[iJ,List.drop_length]at DF;exact DF)
   have hpe:pos=now+6+fL L:=by rw[aAw.out,iJ,List.take_length]
   have Hpe:=lz hpe;have vQ:=lz iJ;clear iJ DF hpe;go_wp2_with fail;refine Ti HR (hs.out _ HR.out.ro.po.eX) fun W6 Om=> ?_
   clear HR hs;go_wp2_with fail;refine aDF Om (iX _ _ Om.out.ro.po.eX hl (by rw[show(if false=true then pos+1 else pos)=pos from rfl,Hpe.out];exact HA.out.2.2.2.2.2)) fun v7 W7 nI=> ?_
   clear Om;have c0:W7.cell? ⟨w1.heap.size,0,none⟩=some (.string nm):=(lP.kb nI).1 0;have c1:W7.cell? ⟨w1.heap.size,1,none⟩=some (.int .i64 mem):=(lP.kb nI).1 1;have c2:W7.cell? ⟨w1.heap.size,2,none⟩=some (.int .i64 fr):=(lP.kb nI).1 2;have c3:W7.cell? ⟨w1.heap.size,3,none⟩=some (.slice Av P.length cv):=(lP.kb nI).1 3;have r0:=nI.out.ro.po.res.cell 0;have r1:=nI.out.ro.po.res.cell 1;have r2:=nI.out.ro.po.res.cell 2;have r3:=nI.out.ro.po.res.cell 3;have f0:=nI.out.ro.po.res.frozen 0;have f1:=nI.out.ro.po.res.frozen 1;have f2:=nI.out.ro.po.res.frozen 2;have f3:=nI.out.ro.po.res.frozen 3;go_wp2_with fail;have HF:=lz ((((nI.out.sJ 0 (.string nm)).sJ 1 (.int .i64 mem)).sJ 2 (.int .i64 fr)).sJ 3 (.slice Av P.length cv));obtain⟨W8,hW8⟩:=ez (((((W7.setCell ⟨w.heap.size,0,none⟩ (.string nm)).setCell ⟨w.heap.size,1,none⟩ (.int .i64 mem)).setCell ⟨w.heap.size,2,none⟩ (.int .i64 fr)).setCell ⟨w.heap.size,3,none⟩ (.slice Av P.length cv)));rw[←hW8]at HF ⊢;have z0:=HF.out.ro.po.res.cell 0;have z1:=HF.out.ro.po.res.cell 1;have z2:=HF.out.ro.po.res.cell 2;have z3:=HF.out.ro.po.res.cell 3;refine bodyPost_ret (v:= .agg #[.string nm,.int .i64 mem,.int .i64 fr,.slice Av P.length cv]) (by simp[results,Tryz.results196,go_sem,z0,z1,z2,z3]) rfl ?_;refine⟨⟨nm,mem,fr,⟨Av,cv,P⟩⟩,rfl,⟨Av,cv,P,rfl,?_⟩,?_,?_,HF.out.ro.po.gr⟩
   ·have:=HP.out
    rw[vQ.out,List.take_length]at this;exact this
   ·intro r hr
    rcases List.mem_cons.1 hr with rfl | hr
    ·exact HF.out.ro.own
    ·exact HF.out.q r hr
   ·have:=HF.out.ro.po.eX
    rw[show(if false=true then pos+1 else pos)+1=now+zi ⟨nm,mem,fr,L⟩from by
     show pos+1=now+(7+fL L);rw[Hpe.out];omega]at this
    exact this
  ·have hkl:k<L.length:=by omega
   rw[List.drop_eq_getElem_cons hkl]at DF;unfold ug at DF;simp only[Bool.and_eq_true,decide_eq_true_eq]at DF;obtain⟨⟨⟨d1,d2⟩,d3⟩,_⟩:=DF;have hs:=lz fun W (hW:gM W g A c ts pos sz)=>ZR ⟨#[112,97,114,116]⟩ true W hW hl d1
   have VB:=lz fun W (hW:gM W g A c ts (pos+1) sz)=>aHE L[k].at W hW hl d2 d3
   obtain⟨hpl,_⟩:=gG d1;clear d1 d2;go_wp2_with fail;refine Ti HR (hs.out _ HR.out.ro.po.eX) fun W6 Om=> ?_
   clear HR hs;have HD:=lz (Om.out.next (W':=W6.drew) (Om.out.ro.po.eX.below (Below.refl _ _).drew) (Gr.ak (Below.refl _ _).drew));have O5:W6.drew.cell? ⟨w1.heap.size,3,none⟩=some (.slice Av P.length cv):=(lP.kb HD).1 3;clear Om;go_wp2_with fail;refine aT (fun W'=>W'.cell? ⟨w1.heap.size,3,none⟩=some (.slice Av P.length cv)) 7 kz O5 (fun hHeld=> ?_);refine TS 0 rfl hHeld ?_;simp only[zP,zA,zB,zC];refine TS 1 rfl hHeld ?_;simp only[zP,zA,zB,zC];refine TS 2 rfl hHeld ?_;simp only[zP,zA,zB,zC];refine RQ 3 rfl fun K hK=> ?_
   go_simp;refine(VB.out _ HD.out.ro.po.eX).mono ?_;rintro e Vl ⟨Ap,cp,rfl,ZX,O6,O7⟩;obtain⟨y',hy'⟩:∃y':aC,y'=⟨L[k].nm,L[k].pe,L[k].le,L[k].mem,gN,0,0,gN,⟨Ap,cp,L[k].aq⟩,gN⟩:=⟨_,rfl⟩;have aMN:=HD.out.part (y:=⟨L[k].nm,L[k].pe,L[k].le,L[k].mem,gN,0,0,gN,⟨Ap,cp,L[k].aq⟩,gN⟩) O6 O7 ZX (nT HD.out.ro.po.gr.size nL);have qt:=lz aMN;have pZ:=qt.out.1.po.blk.cell 3;refine hK.out _ _ (fun _=>pZ) ?_;clear hK hHeld O6 O7 HD O5 aMN ZX;refine RQ 4 rfl fun K hK=> ?_
   go_simp;have qb:(Vl.alloc (.cells #[.string L[k].nm,.int .i64 L[k].pe,.int .i64 L[k].le,.int .i64 L[k].mem,.slice none 0 0,.int .i64 0,.int .i64 0,.slice none 0 0,.slice Ap L[k].aq.length cp,.slice none 0 0] 71)).cell? ⟨w1.heap.size,3,none⟩=some (.slice Av P.length cv):=(qt.out.1.po.blk.alloc _).cell 3;refine hK.out _ _ (fun _=>qb) ?_;clear hK pZ;refine RQ 5 rfl fun K hK=> ?_
   refine mC (by rfl) (.tmp 18) (.tmp 21) 65 (by rfl) w.heap.size 71 i0 (.agg #[.string ⟨#[]⟩,.int .i64 0,.int .i64 0,.int .i64 0,.slice none 0 0,.int .i64 0,.int .i64 0,.slice none 0 0,.slice none 0 0,.slice none 0 0]) 10 152 Tryz.underlying65 lX hz0 hz1 hz2 rfl dz (.slice Av P.length cv) P.length _ (by rfl) (qt.out.1.own.alloc _) ⟨Vl.heap.size,0,none⟩ 1 1 [.string L[k].nm,.int .i64 L[k].pe,.int .i64 L[k].le,.int .i64 L[k].mem,.slice none 0 0,.int .i64 0,.int .i64 0,.slice none 0 0,.slice Ap L[k].aq.length cp,.slice none 0 0] (by rfl) (by rfl) ?c1 ?c2 ?c3 ?c4 ?c5 ?_
   case c1=>
    intro j u' hj;rw[bO,Nat.zero_add,(ah.new Vl 71 #[.string L[k].at.nm,.int .i64 L[k].at.pe,.int .i64 L[k].at.le,.int .i64 L[k].at.mem,.slice none 0 0,.int .i64 0,.int .i64 0,.slice none 0 0,.slice Ap L[k].at.aq.l.length cp,.slice none 0 0]).cell j];simpa [qK.at]using hj
   case c2=>intro u' kQ;simp at kQ;rcases kQ with rfl | rfl | rfl | rfl | rfl | rfl | rfl | rfl | rfl | rfl<;>rfl
   case c3=>unfold maxLen;omega
   case c4=>omega
   case c5=>have:=qt.out.1.po.gr.size;simp;omega
   intro v19 VJ oZ O8;obtain⟨Av9,cv9,rfl,_⟩:=bp oZ;have Mb:=lz (aDG (y:=⟨L[k].nm,L[k].pe,L[k].le,L[k].mem,gN,0,0,gN,⟨Ap,cp,L[k].aq⟩,gN⟩) qt.out.1 qt.out.2 oZ O8);have nJ:VJ.cell? ⟨w1.heap.size,3,none⟩=some (.slice Av P.length cv):=(lP.kb Mb).1 3;have aHJ:VJ.frozen? ⟨w1.heap.size,3,none⟩=false:=(lP.kb Mb).2 3;refine hK.out _ _ (fun _=>nJ) ?_;clear hK qb oZ O8 qt;refine TS 6 rfl nJ ?_;simp only[zP,zA,zB,zC];refine RQ 7 rfl fun K hK=> ?_
   go_simp;refine hK.out _ _ (fun h=>absurd h dz) ?_;clear hK;refine aL kz ?_ _;have Rz:=lz (Mb.out.put 3 (.slice Av9 (P.length+1) cv9));clear Mb;go_wp2;go_roundw
   case rel=>
    refine⟨k+1,.slice Av9 (P.length+1) cv9,P++ [⟨L[k].nm,L[k].pe,L[k].le,L[k].mem,gN,0,0,gN,⟨Ap,cp,L[k].aq⟩,gN⟩],oz,?_,?_⟩
    ·rw[List.take_succ_eq_append_getElem hkl]
     exact iC.add ⟨Ap,cp,rfl⟩ HP.out
    ·have:=Rz.out
     rw[show pos+1+9+8*L[k].at.aq.l.length=now+6+fL (L.take (k+1))from by
      rw[List.take_succ_eq_append_getElem hkl,vk];show pos+1+9+8*L[k].aq.length=_;rw[aAw.out];unfold uf;omega]at this
     exact this
   case measure=>
    have h1:=Rz.out.ro.po.eX.jZ;rw[wW,h1];have:=Rz.out.ro.po.eX;have hle:=Rz.out.ro.po.eX;omega
end
structure MJ where
 b:Nat
 t:TypeId
 cs:Array Value
structure ig(w0:World)(g:Nat)(A:Option Addr)(c:Nat)(ts:List Tok)(sz:Int)(K:List MJ)(Q:List jK)(p:Nat)(W:World):Prop where
 eX:gM W g A c ts p sz
 lE:Below w0.heap.size w0 W
 hB:w0.heap.size≤g
 bx:∀r∈K,w0.heap.size≤r.b∧r.b≠g∧ah W r.b r.t r.cs
 q:dA W (g+1) Q
def ZY(Q:List jK)(b:Nat):Prop:=∀r∈Q,∀k,r.v.ownBlock=some k→k≠b
section
variable {w0:World} {g:Nat} {A:Option Addr} {c:Nat} {ts:List Tok} {now:Nat} {sz:Int} {K K':List MJ} {Q Q':List jK} {p p':Nat} {W W':World}
theorem zk{k:Nat}(h:Below w0.heap.size w0 W)(hG:Gr (· =k) W W')(hk:w0.heap.size≤k):Below w0.heap.size w0 W':=
 ⟨hG.os.trans h.os,hG.tape.trans h.tape,hG.output.trans h.output,nT h.size hG.size,fun j hj=>(hG.block j (Nat.lt_of_lt_of_le hj h.size) oz).trans (h.block j hj)⟩
theorem ig.sub(h:ig w0 g A c ts sz K Q p W)(hK:∀r∈K',r∈K)(hQ:∀r∈Q',r∈Q):ig w0 g A c ts sz K' Q' p W:=
 ⟨h.eX,h.lE,h.hB,fun r hr=>h.bx r (hK r hr),fun r hr=>h.q r (hQ r hr)⟩
theorem ig.next(h:ig w0 g A c ts sz K Q p W)(hI:gM W' g A c ts p' sz)(hG:Gr (· =g) W W'):ig w0 g A c ts sz K Q p' W':=
 ⟨hI,zk h.lE hG h.hB,h.hB,fun r hr=>⟨(h.bx r hr).1,(h.bx r hr).2.1,hG.blk (h.bx r hr).2.2 (h.bx r hr).2.1⟩,h.q.gr hG (Nat.lt_succ_self g)⟩
theorem ig.below(h:ig w0 g A c ts sz K Q p W)(hb:Below W.heap.size W W'):ig w0 g A c ts sz K Q p W':=h.next (h.eX.below hb) (Gr.ak hb)
theorem iG{f:FuncId}{args:Array Value}{u:Value}{R:Ending→World→Prop}(h:Hid (ig w0 g A c ts sz K Q p W))(hc:PC f args W g A c ts sz p' u)
 (k:∀W',Hid (ig w0 g A c ts sz K Q p' W')→R (.returned u) W'):Calls pG f args W R:=
 hc.mono fun e W' hh=>by obtain⟨rfl,h1,h2⟩:=hh;exact k W' (lz (h.out.next h1 h2))
theorem yT{f:FuncId}{args:Array Value}{R:Ending→World→Prop}(h:Hid (ig w0 g A c ts sz K Q p W))(hc:Calls pG f args W fun e w'=>(∃v,e= .returned v)∧gM w' g A c ts p' sz∧Gr (· =g) W w')
 (k:∀u W',Hid (ig w0 g A c ts sz K Q p' W')→R (.returned u) W'):Calls pG f args W R:=
 hc.mono fun e W' hh=>by obtain⟨⟨u,rfl⟩,h1,h2⟩:=hh;exact k u W' (lz (h.out.next h1 h2))
theorem nK{f:FuncId}{args:Array Value}{u:Value}{R:Ending→World→Prop}(h:Hid (ig w0 g A c ts sz K Q p W))(hc:CV f args W u)
 (k:∀W',Hid (ig w0 g A c ts sz K Q p W')→R (.returned u) W'):Calls pG f args W R:=
 hc.mono fun e W' hh=>by obtain⟨rfl,h1⟩:=hh;exact k W' (lz (h.out.below h1))
theorem ig.kb{r:MJ}(h:Hid (ig w0 g A c ts sz (r :: K) Q p W)):(∀i,W.cell? ⟨r.b,i,none⟩=r.cs[i]?)∧(∀i,W.frozen? ⟨r.b,i,none⟩=false):=
 have hb:=(h.out.bx r (List.mem_cons_self ..)).2.2
 ⟨hb.cell,hb.frozen⟩
theorem ig.at_(h:ig w0 g A c ts sz K Q p W){r:MJ}(hr:r∈K):ah W r.b r.t r.cs:=(h.bx r hr).2.2
theorem ig.put{b:Nat}{t:TypeId}{cs:Array Value}(h:ig w0 g A c ts sz (⟨b,t,cs⟩ :: K) Q p W)(Ec:g<b)(hK:∀r∈K,r.b≠b)(hQ:ZY Q b)(i:Nat)(u:Value):ig w0 g A c ts sz (⟨b,t,cs.setIfInBounds i u⟩ :: K) Q p (W.setCell ⟨b,i,none⟩ u):=by
 obtain⟨h1,h2,h3⟩:=h.bx _ (List.mem_cons_self ..);refine⟨h.eX.far Ec _,zk h.lE (Gr.setCell (X:=(· =b)) _ _ _ rfl) h1,h.hB,fun r hr=> ?_,fun r hr=>cO (h.q r hr) (Gr.setCell (X:=(· =b)) _ _ _ rfl) (hQ r hr)⟩
 ·rcases List.mem_cons.1 hr with rfl | hr
  ·exact⟨h1,h2,h3.bX i u⟩
  ·obtain⟨k1,k2,k3⟩:=h.bx r (List.mem_cons_of_mem _ hr)
   exact⟨k1,k2,k3.far (hK r hr) _⟩
theorem ig.new(h:ig w0 g A c ts sz K Q p W)(t:TypeId)(cs:Array Value):ig w0 g A c ts sz (⟨W.heap.size,t,cs⟩ :: K) Q p (W.alloc (.cells cs t)):=by
 have h1:=h.below (W':=W.alloc (.cells cs t)) (bN);refine⟨h1.eX,h1.lE,h1.hB,fun r hr=> ?_,h1.q⟩;rcases List.mem_cons.1 hr with rfl | hr
 ·exact⟨h.lE.size,fun(e:W.heap.size=g)=>by have:=h.eX.lt;omega,ah.new W t cs⟩
 ·exact h1.bx r hr
theorem ig.far(h:ig w0 g A c ts sz K Q p W):ZY Q W.heap.size∧∀r∈K,r.b≠W.heap.size:=
 ⟨fun r hr k hk e=>by have:=((h.q r hr).lt k hk).2;omega,fun r hr e=>by have:=(h.bx r hr).2.2.lt;omega⟩
theorem ig.J4{r:MJ}(h:ig w0 g A c ts sz K Q p W)(hr:r∈K)(hq:∀q∈Q,q.t≠r.t):ZY Q r.b:=fun q hq' k hk e=>
 aW (h.q q hq') (h.at_ hr) (hq q hq') (e▸hk)
theorem ig.Wf{b:Nat}{t:TypeId}{x0 x1 x2 x3 x4 x5 x6 x7:Value}(h:ig w0 g A c ts sz (⟨b,t,#[x0,x1,x2,x3,x4,x5,x6,x7]⟩ :: K) Q p W)(Ec:g<b)(hK:∀r∈K,r.b≠b)(hQ:ZY Q b)(a0 a1 a2 a3 a4 a5 a6 a7:Value):
 ig w0 g A c ts sz (⟨b,t,#[a0,a1,a2,a3,a4,a5,a6,a7]⟩ :: K) Q p ((((((((W.setCell ⟨b,0,none⟩ a0).setCell ⟨b,1,none⟩ a1).setCell ⟨b,2,none⟩ a2).setCell ⟨b,3,none⟩ a3).setCell ⟨b,4,none⟩ a4).setCell ⟨b,5,none⟩ a5).setCell ⟨b,6,none⟩ a6).setCell ⟨b,7,none⟩ a7):=by
 have:=(((((((h.put Ec hK hQ 0 a0).put Ec hK hQ 1 a1).put Ec hK hQ 2 a2).put Ec hK hQ 3 a3).put Ec hK hQ 4 a4).put Ec hK hQ 5 a5).put Ec hK hQ 6 a6).put Ec hK hQ 7 a7;simpa using this
theorem ig.grow{t:TypeId}{n m m':Nat}{v v':Value}{xs ys:List Value}{o:Obj}(h:ig w0 g A c ts sz K (⟨t,n,v,m,xs⟩ :: Q) p W)(hK:∀r∈K,r.t≠t)(hQ:∀r∈Q,r.t≠t)
 (hown:W'.ownsRow (g+1) t n v' m' ys) (hG:(W.alloc o).grownBy W' v.ownBlock):ig w0 g A c ts sz K (⟨t,n,v',m',ys⟩ :: Q) p W':=by
 have h1:=h.below (W':=W.alloc o) (bN);have ho:=h1.q _ (List.mem_cons_self ..);have hgr:Gr (fun k=>v.ownBlock=some k) (W.alloc o) W':=Gr.eO hG (fun k e=>e);have JQ:∀k,v.ownBlock=some k→g+1≤k:=fun k hk=>(ho.lt k hk).1
 refine⟨h1.eX.kept hgr (fun k hk e=>by have:=JQ k e;omega),?_,h.hB,fun r hr=> ?_,fun r hr=> ?_⟩
 ·have hh:=h.hB
  exact⟨hgr.os.trans h1.lE.os,hgr.tape.trans h1.lE.tape,hgr.output.trans h1.lE.output,nT h1.lE.size hgr.size,fun j hj=>(hgr.block j (Nat.lt_of_lt_of_le hj h1.lE.size) (fun e=>by have:=JQ j e;omega)).trans (h1.lE.block j hj)⟩
 ·obtain⟨k1,k2,k3⟩:=h1.bx r hr
  exact⟨k1,k2,hgr.blk k3 (aW ho k3 (Ne.symm (hK r hr)))⟩
 ·rcases List.mem_cons.1 hr with rfl | hr
  ·exact hown
  ·exact cO (h1.q r (List.mem_cons_of_mem _ hr)) hgr (fun k hk=>Db (h1.q r (List.mem_cons_of_mem _ hr)) ho (hQ r hr) k hk)
theorem ig.rows{b:Nat}{R:List jK}(h:ig w0 g A c ts sz K Q p W)(hR:dA W b R)(hb:g+1≤b):ig w0 g A c ts sz K (R++Q) p W:=
 ⟨h.eX,h.lE,h.hB,h.bx,(hR.aMM hb).app h.q⟩
end
abbrev zj(v:Value)(M:List bT):jK:=⟨67,4,v,M.length,M.flatMap bT.cells⟩
abbrev wS(v:Value)(S:List iI):jK:=⟨87,4,v,S.length,S.flatMap iI.cells⟩
abbrev wT(v:Value)(L:List aO):jK:=⟨46,4,v,L.length,L.flatMap aO.cells⟩
abbrev vB(v:Value)(V:List fU):jK:=⟨44,7,v,V.length,V.flatMap fU.cells⟩
abbrev gy(v0 v2 v3 v4:Value):Array Value:= #[v0,.slice none 0 0,v2,v3,v4,.slice none 0 0,.slice none 0 0,.slice none 0 0]
abbrev jg:Array Value:=gy (.slice none 0 0) (.slice none 0 0) (.slice none 0 0) (.slice none 0 0)
theorem O9{ts:List Tok}{p:Nat}{u s:ByteArray}{q:Bool}(h:gZ ts p (wj u)=true)(hq:(u.toList==s.toList)=q):gZ ts p (fun t=>dB t s==q)=true:=by
 unfold gZ at h ⊢;split
 ·rename_i t ht
  rw[ht]at h;unfold wj at h;simp only[Bool.and_eq_true,beq_iff_eq,decide_eq_true_eq]at h;simp only[dB,h.1,h.2,hq];simp
 ·rename_i ht
  rw[ht]at h;cases h
theorem Dd{ts:List Tok}{p:Nat}{u s:ByteArray}(h:gZ ts p (wj u)=true)(hq:(u.toList==s.toList)=true):gZ ts p (fun t=>dB t s)=true:=by
 have:=O9 h hq;simpa using this
theorem rR{ts:List Tok}{p:Nat}{u s:ByteArray}(h:gZ ts p (wj u)=true)(hq:(u.toList==s.toList)=false):gZ ts p (fun t=> !dB t s)=true:=by
 have:=O9 h hq;simpa using this
def Tj(ts:List Tok)(p:Nat)(n:Int):Bool:=gZ ts p (fun t=>dB t ⟨#[110,101,116]⟩)&&((gZ ts (p+1) (wj ⟨#[97]⟩)&&decide (n=0))||(gZ ts (p+1) (wj ⟨#[98]⟩)&&decide (n=1)))
section
variable {g:Nat} {A:Option Addr} {c:Nat} {ts:List Tok} {now:Nat} {sz:Int}
theorem Fp(n:Int)(w:World)(h:gM w g A c ts now sz)(hl:ts.length≤100000)(ha:Tj ts now n=true):
 PC 201 #[.pointer (some ⟨g,0,none⟩)] w g A c ts sz (now+2) (.int .i64 n):=by
 unfold Tj at ha;simp only[Bool.and_eq_true,Bool.or_eq_true,decide_eq_true_eq]at ha;obtain⟨a,⟨b,rfl⟩ | ⟨b,rfl⟩⟩:=ha
 ·exact JL _ 0 w h hl a b kz oz
 ·exact JL _ 1 w h hl a b kz oz
end
def aEW(ts:List Tok)(p:Nat)(x:iI):Bool:=gZ ts p (wj x.nm)&&Tj ts (p+1) x.net&&gZ ts (p+3) (fun t=>dB t ⟨#[100,101,108,97,121]⟩)&&gZ ts (p+4) (Te x.dl)&&gZ ts (p+5) (fun t=>dB t ⟨#[115,116,111,114,101]⟩)&&gZ ts (p+6) (Te x.st)&&gZ ts (p+7) (fun t=>dB t ⟨#[59]⟩)
def aEX(ts:List Tok)(p:Nat)(x:aO):Bool:=gZ ts p (wj x.a)&&gZ ts (p+1) (wj x.b)&&Tj ts (p+2) x.net&&gZ ts (p+4) (fun t=>dB t ⟨#[115,108,111,119]⟩)&&gZ ts (p+5) (Te x.slow)&&gZ ts (p+6) (fun t=>dB t ⟨#[59]⟩)
def aEY(ts:List Tok)(p:Nat)(x:VlT):Bool:=gZ ts p (wj x.nm)&&gZ ts (p+1) (fun t=>dB t ⟨#[102,114,111,109]⟩)&&Vk ts (p+2) x.src&&gZ ts (p+7) (fun t=>dB t ⟨#[98,97,103]⟩)&&gZ ts (p+8) (Te x.lQ)&&gZ ts (p+9) (fun t=>dB t ⟨#[109,97,120]⟩)&&gZ ts (p+10) (Te x.mx)&&gZ ts (p+11) (fun t=>dB t ⟨#[116,111]⟩)&&Tf ts (p+12) x.dst&&gZ ts (p+12+6*x.dst.length-1) (fun t=>dB t ⟨#[59]⟩)&&decide (0<x.dst.length)&&decide (x.dst.length≤1000)
section
variable {w0:World} {g:Nat} {A:Option Addr} {c:Nat} {ts:List Tok} {now:Nat} {sz:Int} {K:List MJ} {Q:List jK}
theorem aAq(x:iI)(q0 q3 q4:Option Addr)(n0 m0 n3 m3 n4 m4:Nat)(v2:Value)(L:List iI)(w:World)(h:ig w0 g A c ts sz K (wS v2 L :: Q) now w)(hq:∀r∈Q,r.t≠87∧r.t≠31)(hk:∀r∈K,r.t=31)(hl:ts.length≤100000)(ha:gZ ts now (wj ⟨#[115,119,105,116,99,104]⟩)=true)(hb:aEW ts (now+1) x=true)(hL:L.length≤1000):
 Calls pG 116 #[.pointer (some ⟨g,0,none⟩),.agg (gy (.slice q0 n0 m0) v2 (.slice q3 n3 m3) (.slice q4 n4 m4))] w fun e w'=>∃u,e= .returned (.agg (gy (.slice q0 n0 m0) u (.slice q3 n3 m3) (.slice q4 n4 m4)))∧ig w0 g A c ts sz K (wS u (L++ [x]) :: Q) (now+1+8) w':=by
 unfold aEW at hb;simp only[Bool.and_eq_true]at hb;obtain⟨⟨⟨⟨⟨⟨a1,a2⟩,a3⟩,a4⟩,a5⟩,a6⟩,a7⟩:=hb;obtain⟨nm,net,dl,st⟩:=x;dsimp only at a1 a2 a3 a4 a5 a6 a7;have ho:w.ownsRow (g+1) 87 4 v2 L.length (L.flatMap iI.cells):=h.q _ (List.mem_cons_self ..);obtain⟨Av,cv,rfl,_⟩:=bp ho;clear ho;obtain⟨w1,cN⟩:=ez ((w.alloc (.cells (gy (.slice q0 n0 m0) (.slice Av L.length cv) (.slice q3 n3 m3) (.slice q4 n4 m4)) 31)).alloc (.cells jg 31));have zh:ig w0 g A c ts sz (⟨w.heap.size+1,31,jg⟩ :: ⟨w.heap.size,31,gy (.slice q0 n0 m0) (.slice Av L.length cv) (.slice q3 n3 m3) (.slice q4 n4 m4)⟩ :: K) (wS (.slice Av L.length cv) L :: Q) now w1:=by
  rw[cN];have:=(h.new 31 (gy (.slice q0 n0 m0) (.slice Av L.length cv) (.slice q3 n3 m3) (.slice q4 n4 m4))).new 31 jg
  rwa[World.size_alloc]at this
 have HK:Hid (∀r∈K,r.t=31∧r.b<w.heap.size):=lz fun r hr=>⟨hk r hr,(h.at_ hr).lt⟩
 have MN:=h.eX.lt;have I7:=lz zh;have lH:=lz cN;have HQ:=lz hq;have Ha:=lz ha;clear h hk zh cN hq ha;have HA:=lz (ai a1 (ai a2 (ai a3 (ai a4 (ai a5 (ai a6 a7))))));clear a1 a2 a3 a4 a5 a6 a7;obtain⟨i0,lX,hz0,hz1,hz2⟩:=info_parts aHM;go_enter Tryz.func116,Tryz.ntmps116;go_wp2_with fail;rw[←lH.out];refine nK I7 (vg ⟨#[109,111,100,117,108,101]⟩ _ I7.out.eX hl (rR Ha.out kz)) fun Y1 sE=> ?_
 clear I7;go_wp2_with fail;refine nK sE (vg ⟨#[99,104,97,110,110,101,108]⟩ _ sE.out.eX hl (rR Ha.out kz)) fun Y2 sC=> ?_
 clear sE;go_wp2_with fail;refine iG sC (Fm ⟨#[115,119,105,116,99,104]⟩ _ sC.out.eX hl (Dd Ha.out kz)) fun Y3 pP=> ?_
 clear sC;go_wp2_with fail;refine iG pP (kV nm _ pP.out.eX hl HA.out.1) fun Z0 HZ=> ?_
 clear pP;have Fl:=HZ.out.far;have kW:=lz Fl;have HB:=lz (HZ.out.new 87 #[.string nm,.int .i64 0,.int .i64 0,.int .i64 0]);have Mp:=HZ.out.eX.lt;have hwz:w.heap.size+1<Z0.heap.size:=(HZ.out.at_ (List.mem_cons_self ..)).lt;obtain⟨B,Z2⟩:=ez Z0.heap.size;rw[←Z2]at HB kW Mp hwz;obtain⟨Z1,Z4⟩:=ez (Z0.alloc (.cells #[.string nm,.int .i64 0,.int .i64 0,.int .i64 0] 87));rw[←Z4]at HB;have HZ1:=lz Z4;have HBe:=lz Z2;clear Fl HZ Z4 Z2;go_wp2_with fail;rw[←HZ1.out,←HBe.out];clear HZ1;refine iG HB (Fp net _ HB.out.eX hl HA.out.2.1) fun X0 NH=> ?_
 have k0:X0.cell? ⟨B,1,none⟩=some (.int .i64 0):=(ig.kb NH).1 1;have f0:X0.frozen? ⟨B,1,none⟩=false:=(ig.kb NH).2 1;clear HB;go_wp2_with fail;have RA:=lz (NH.out.put Mp kW.out.2 kW.out.1 1 (.int .i64 net));clear k0 f0 NH;refine iG RA (gY _ dl _ RA.out.eX hl HA.out.2.2.1 HA.out.2.2.2.1) fun X1 CZ=> ?_
 have k1:X1.cell? ⟨B,2,none⟩=some (.int .i64 0):=(ig.kb CZ).1 2;have f1:X1.frozen? ⟨B,2,none⟩=false:=(ig.kb CZ).2 2;clear RA;go_wp2_with fail;have Fq:=lz (CZ.out.put Mp kW.out.2 kW.out.1 2 (.int .i64 dl));clear k1 f1 CZ;refine iG Fq (gY _ st _ Fq.out.eX hl HA.out.2.2.2.2.1 HA.out.2.2.2.2.2.1) fun X2 qB=> ?_
 have k2:X2.cell? ⟨B,3,none⟩=some (.int .i64 0):=(ig.kb qB).1 3;have f2:X2.frozen? ⟨B,3,none⟩=false:=(ig.kb qB).2 3;clear Fq;go_wp2_with fail;have Ft:=lz (qB.out.put Mp kW.out.2 kW.out.1 3 (.int .i64 st));clear k2 f2 qB;refine yT Ft (iX _ _ Ft.out.eX hl HA.out.2.2.2.2.2.2) fun u3 X3 Ja=> ?_
 clear Ft;have gP:ah X3 w.heap.size 31 (gy (.slice q0 n0 m0) (.slice Av L.length cv) (.slice q3 n3 m3) (.slice q4 n4 m4)):=Ja.out.at_ (r:=⟨w.heap.size,31,gy (.slice q0 n0 m0) (.slice Av L.length cv) (.slice q3 n3 m3) (.slice q4 n4 m4)⟩) qz;have JM:ah X3 B 87 #[.string nm,.int .i64 net,.int .i64 dl,.int .i64 st]:=Ja.out.at_ (List.mem_cons_self ..);have b2:=gP.cell 2;have x0:=JM.cell 0;have x1:=JM.cell 1;have x2:=JM.cell 2;have x3:=JM.cell 3;have HX:=lz (Ja.out.sub (K':=⟨w.heap.size,31,gy (.slice q0 n0 m0) (.slice Av L.length cv) (.slice q3 n3 m3) (.slice q4 n4 m4)⟩ :: ⟨w.heap.size+1,31,jg⟩ :: K) (Q':=wS (.slice Av L.length cv) L :: Q) (fun r hr=>by
  simp only[List.mem_cons]at hr ⊢;rcases hr with hr | hr | hr
  ·exact .inr (.inr (.inl hr))
  ·exact .inr (.inl hr)
  ·exact .inr (.inr (.inr hr))) (fun r hr=>hr))
 clear Ja gP JM;go_wp2_with (at_builtin;refine wpList_append_own _ rfl (.tmp 59) (.tmp 61) 24 rfl (g+1) 87 i0 (.agg #[.string ⟨#[]⟩,.int .i64 0,.int .i64 0,.int .i64 0]) 4 40 Tryz.underlying24 lX hz0 hz1 hz2 rfl dz _ _ _ rfl ((HX.out.q _ (List.mem_cons_self ..)).alloc _) ⟨X3.heap.size,0,none⟩ 1 1 [.string nm,.int .i64 net,.int .i64 dl,.int .i64 st] rfl rfl ?c1 ?c2 ?c3 ?c4 ?c5 ?_)
 case c1=>
  intro j u' hj;rw[bO,Nat.zero_add,(ah.new X3 87 #[.string nm,.int .i64 net,.int .i64 dl,.int .i64 st]).cell j];simpa using hj
 case c2=>intro u' kQ;simp at kQ;rcases kQ with rfl | rfl | rfl | rfl<;>rfl
 case c3=>unfold maxLen;omega
 case c4=>omega
 case c5=>have:=HX.out.eX.lt;simp;omega
 intro v9 W9 mT VD _;obtain⟨Au,cu,rfl,_⟩:=bp mT;have hG:=HX.out.grow (fun r hr=> ?hK) (fun r hr=>(HQ.out r hr).1) (show W9.ownsRow (g+1) 87 4 (.slice Au (L.length+1) cu) (L.length+1) (L.flatMap iI.cells++ [.string nm,.int .i64 net,.int .i64 dl,.int .i64 st])from mT) VD
 case hK=>
  simp only[List.mem_cons]at hr;rcases hr with rfl | rfl | hr
  ·show 31≠87;decide
  ·show 31≠87;decide
  ·rw[(HK.out r hr).1];decide
 rw[show(⟨87,4,.slice Au (L.length+1) cu,L.length+1,L.flatMap iI.cells++ [.string nm,.int .i64 net,.int .i64 dl,.int .i64 st]⟩:jK)=wS (.slice Au (L.length+1) cu) (L++ [⟨nm,net,dl,st⟩])from by simp[iI.cells]]at hG;have HG:=lz hG;have b9:W9.cell? ⟨w.heap.size,2,none⟩=some (.slice Av L.length cv):=(ig.kb HG).1 2;have bf9:W9.frozen? ⟨w.heap.size,2,none⟩=false:=(ig.kb HG).2 2;clear hG mT VD b2 x0 x1 x2 x3 HX;have HP:=lz (HG.out.put MN (fun r hr=> ?hK2) (HG.out.J4 (List.mem_cons_self ..) (fun q hq=> ?Sk)) 2 (.slice Au (L.length+1) cu))
 case hK2=>
  rcases List.mem_cons.1 hr with rfl | hr
  ·show w.heap.size+1≠w.heap.size;omega
  ·have:=(HK.out r hr).2;omega
 case Sk=>
  rcases List.mem_cons.1 hq with rfl | hq
  ·show 87≠31;decide
  ·exact(HQ.out q hq).2
 have hcb:ah W9 w.heap.size 31 (gy (.slice q0 n0 m0) (.slice Av L.length cv) (.slice q3 n3 m3) (.slice q4 n4 m4)):=HG.out.at_ (List.mem_cons_self ..);have iy:ah W9 (w.heap.size+1) 31 jg:=HG.out.at_ (r:=⟨w.heap.size+1,31,jg⟩) qz;have d0:=hcb.cell 0;have d1:=hcb.cell 1;have d2:=hcb.cell 2;have d3:=hcb.cell 3;have d4:=hcb.cell 4;have d5:=hcb.cell 5;have d6:=hcb.cell 6;have d7:=hcb.cell 7;have r0:=iy.cell 0;have r1:=iy.cell 1;have r2:=iy.cell 2;have r3:=iy.cell 3;have r4:=iy.cell 4;have r5:=iy.cell 5;have r6:=iy.cell 6;have r7:=iy.cell 7;have e0:=iy.frozen 0;have e1:=iy.frozen 1;have e2:=iy.frozen 2;have e3:=iy.frozen 3;have e4:=iy.frozen 4;have e5:=iy.frozen 5;have e6:=iy.frozen 6;have e7:=iy.frozen 7;clear hcb iy HG;go_wp2_with fail;have RB:=lz (HP.out.sub (K':=⟨w.heap.size+1,31,jg⟩ :: K) (Q':=wS (.slice Au (L.length+1) cu) (L++ [⟨nm,net,dl,st⟩]) :: Q) (fun r hr=>by
  simp only[List.mem_cons]at hr ⊢;rcases hr with hr | hr
  ·exact .inr (.inl hr)
  ·exact .inr (.inr hr)) (fun r hr=>by simpa using hr))
 have RE:=lz (RB.out.Wf (show g<w.heap.size+1 by omega) (fun r hr=>by have:=(HK.out r hr).2;omega) (RB.out.J4 (List.mem_cons_self ..) (fun q hq=>by
  rcases List.mem_cons.1 hq with rfl | hq
  ·show 87≠31;decide
  ·exact(HQ.out q hq).2)) (.slice q0 n0 m0) (.slice none 0 0) (.slice Au (L.length+1) cu) (.slice q3 n3 m3) (.slice q4 n4 m4) (.slice none 0 0) (.slice none 0 0) (.slice none 0 0))
 clear HP RB b9 bf9 d0 d1 d2 d3 d4 d5 d6 d7 r0 r1 r2 r3 r4 r5 r6 r7 e0 e1 e2 e3 e4 e5 e6 e7;obtain⟨WZ,hWZ⟩:=ez ((((((((((W9.setCell ⟨w.heap.size,2,none⟩ (.slice Au (L.length+1) cu)).setCell ⟨w.heap.size+1,0,none⟩ ((.slice q0 n0 m0))).setCell ⟨w.heap.size+1,1,none⟩ (.slice none 0 0)).setCell ⟨w.heap.size+1,2,none⟩ (.slice Au (L.length+1) cu)).setCell ⟨w.heap.size+1,3,none⟩ ((.slice q3 n3 m3))).setCell ⟨w.heap.size+1,4,none⟩ ((.slice q4 n4 m4))).setCell ⟨w.heap.size+1,5,none⟩ (.slice none 0 0)).setCell ⟨w.heap.size+1,6,none⟩ (.slice none 0 0)).setCell ⟨w.heap.size+1,7,none⟩ (.slice none 0 0)));rw[←hWZ]at RE ⊢;have tO:ah WZ (w.heap.size+1) 31 (gy (.slice q0 n0 m0) (.slice Au (L.length+1) cu) (.slice q3 n3 m3) (.slice q4 n4 m4)):=RE.out.at_ (List.mem_cons_self ..);have z0:=tO.cell 0;have z1:=tO.cell 1;have z2:=tO.cell 2;have z3:=tO.cell 3;have z4:=tO.cell 4;have z5:=tO.cell 5;have z6:=tO.cell 6;have z7:=tO.cell 7;refine bodyPost_ret (v:= .agg (gy (.slice q0 n0 m0) (.slice Au (L.length+1) cu) (.slice q3 n3 m3) (.slice q4 n4 m4))) (by simp[results,Tryz.results116,go_sem,z0,z1,z2,z3,z4,z5,z6,z7]) rfl ?_;refine⟨_,rfl,?_⟩;have:=RE.out.sub (K':=K) (Q':=wS (.slice Au (L.length+1) cu) (L++ [⟨nm,net,dl,st⟩]) :: Q) (fun r hr=>List.mem_cons_of_mem _ hr) (fun r hr=>hr);rw[show now+1+8=now+1+1+2+2+2+1 from by omega];exact this
theorem aAr(x:aO)(q0 q2 q4:Option Addr)(n0 m0 n2 m2 n4 m4:Nat)(v3:Value)(L:List aO)(w:World)(h:ig w0 g A c ts sz K (wT v3 L :: Q) now w)(hq:∀r∈Q,r.t≠46∧r.t≠31)(hk:∀r∈K,r.t=31)(hl:ts.length≤100000)(ha:gZ ts now (wj ⟨#[108,105,110,107]⟩)=true)(hb:aEX ts (now+1) x=true)(hL:L.length≤1000):
 Calls pG 116 #[.pointer (some ⟨g,0,none⟩),.agg (gy (.slice q0 n0 m0) (.slice q2 n2 m2) v3 (.slice q4 n4 m4))] w fun e w'=>∃u,e= .returned (.agg (gy (.slice q0 n0 m0) (.slice q2 n2 m2) u (.slice q4 n4 m4)))∧ig w0 g A c ts sz K (wT u (L++ [x]) :: Q) (now+1+7) w':=by
 unfold aEX at hb;simp only[Bool.and_eq_true]at hb;obtain⟨⟨⟨⟨⟨a1,a2⟩,a3⟩,a4⟩,a5⟩,a6⟩:=hb;obtain⟨na,nb,net,slo⟩:=x;dsimp only at a1 a2 a3 a4 a5 a6;have ho:w.ownsRow (g+1) 46 4 v3 L.length (L.flatMap aO.cells):=h.q _ (List.mem_cons_self ..);obtain⟨Av,cv,rfl,_⟩:=bp ho;clear ho;obtain⟨w1,cN⟩:=ez ((w.alloc (.cells (gy (.slice q0 n0 m0) (.slice q2 n2 m2) (.slice Av L.length cv) (.slice q4 n4 m4)) 31)).alloc (.cells jg 31));have zh:ig w0 g A c ts sz (⟨w.heap.size+1,31,jg⟩ :: ⟨w.heap.size,31,gy (.slice q0 n0 m0) (.slice q2 n2 m2) (.slice Av L.length cv) (.slice q4 n4 m4)⟩ :: K) (wT (.slice Av L.length cv) L :: Q) now w1:=by
  rw[cN];have:=(h.new 31 (gy (.slice q0 n0 m0) (.slice q2 n2 m2) (.slice Av L.length cv) (.slice q4 n4 m4))).new 31 jg
  rwa[World.size_alloc]at this
 have HK:Hid (∀r∈K,r.t=31∧r.b<w.heap.size):=lz fun r hr=>⟨hk r hr,(h.at_ hr).lt⟩
 have MN:=h.eX.lt;have I7:=lz zh;have lH:=lz cN;have HQ:=lz hq;have Ha:=lz ha;clear h hk zh cN hq ha;have HA:=lz (ai a1 (ai a2 (ai a3 (ai a4 (ai a5 a6)))));clear a1 a2 a3 a4 a5 a6;obtain⟨i0,lX,hz0,hz1,hz2⟩:=info_parts aHN;go_enter Tryz.func116,Tryz.ntmps116;go_wp2_with fail;rw[←lH.out];refine nK I7 (vg ⟨#[109,111,100,117,108,101]⟩ _ I7.out.eX hl (rR Ha.out kz)) fun Y1 sE=> ?_
 clear I7;go_wp2_with fail;refine nK sE (vg ⟨#[99,104,97,110,110,101,108]⟩ _ sE.out.eX hl (rR Ha.out kz)) fun Y2 sC=> ?_
 clear sE;go_wp2_with fail;refine nK sC (vg ⟨#[115,119,105,116,99,104]⟩ _ sC.out.eX hl (rR Ha.out kz)) fun Y3 pP=> ?_
 clear sC;go_wp2_with fail;refine iG pP (Fm ⟨#[108,105,110,107]⟩ _ pP.out.eX hl (Dd Ha.out kz)) fun Y4 sD=> ?_
 clear pP;go_wp2_with fail;refine iG sD (kV na _ sD.out.eX hl HA.out.1) fun Z0 HZ=> ?_
 clear sD;have Fl:=HZ.out.far;have kW:=lz Fl;have HB:=lz (HZ.out.new 46 #[.string na,.string ⟨#[]⟩,.int .i64 0,.int .i64 0]);have Mp:=HZ.out.eX.lt;have hwz:w.heap.size+1<Z0.heap.size:=(HZ.out.at_ (List.mem_cons_self ..)).lt;obtain⟨B,Z2⟩:=ez Z0.heap.size;rw[←Z2]at HB kW Mp hwz;obtain⟨Z1,Z4⟩:=ez (Z0.alloc (.cells #[.string na,.string ⟨#[]⟩,.int .i64 0,.int .i64 0] 46));rw[←Z4]at HB;have HZ1:=lz Z4;have HBe:=lz Z2;clear Fl HZ Z4 Z2;go_wp2_with fail;rw[←HZ1.out,←HBe.out];clear HZ1;refine iG HB (kV nb _ HB.out.eX hl HA.out.2.1) fun X0 NH=> ?_
 have k0:X0.cell? ⟨B,1,none⟩=some (.string ⟨#[]⟩):=(ig.kb NH).1 1;have f0:X0.frozen? ⟨B,1,none⟩=false:=(ig.kb NH).2 1;clear HB;go_wp2_with fail;have RA:=lz (NH.out.put Mp kW.out.2 kW.out.1 1 (.string nb));clear k0 f0 NH;refine iG RA (Fp net _ RA.out.eX hl HA.out.2.2.1) fun X1 CZ=> ?_
 have k1:X1.cell? ⟨B,2,none⟩=some (.int .i64 0):=(ig.kb CZ).1 2;have f1:X1.frozen? ⟨B,2,none⟩=false:=(ig.kb CZ).2 2;clear RA;go_wp2_with fail;have Fq:=lz (CZ.out.put Mp kW.out.2 kW.out.1 2 (.int .i64 net));clear k1 f1 CZ;refine iG Fq (gY _ slo _ Fq.out.eX hl HA.out.2.2.2.1 HA.out.2.2.2.2.1) fun X2 qB=> ?_
 have k2:X2.cell? ⟨B,3,none⟩=some (.int .i64 0):=(ig.kb qB).1 3;have f2:X2.frozen? ⟨B,3,none⟩=false:=(ig.kb qB).2 3;clear Fq;go_wp2_with fail;have Ft:=lz (qB.out.put Mp kW.out.2 kW.out.1 3 (.int .i64 slo));clear k2 f2 qB;refine yT Ft (iX _ _ Ft.out.eX hl HA.out.2.2.2.2.2) fun u3 X3 Ja=> ?_
 clear Ft;have gP:ah X3 w.heap.size 31 (gy (.slice q0 n0 m0) (.slice q2 n2 m2) (.slice Av L.length cv) (.slice q4 n4 m4)):=Ja.out.at_ (r:=⟨w.heap.size,31,gy (.slice q0 n0 m0) (.slice q2 n2 m2) (.slice Av L.length cv) (.slice q4 n4 m4)⟩) qz;have JM:ah X3 B 46 #[.string na,.string nb,.int .i64 net,.int .i64 slo]:=Ja.out.at_ (List.mem_cons_self ..);have b3:=gP.cell 3;have x0:=JM.cell 0;have x1:=JM.cell 1;have x2:=JM.cell 2;have x3:=JM.cell 3;have HX:=lz (Ja.out.sub (K':=⟨w.heap.size,31,gy (.slice q0 n0 m0) (.slice q2 n2 m2) (.slice Av L.length cv) (.slice q4 n4 m4)⟩ :: ⟨w.heap.size+1,31,jg⟩ :: K) (Q':=wT (.slice Av L.length cv) L :: Q) (fun r hr=>by
  simp only[List.mem_cons]at hr ⊢;rcases hr with hr | hr | hr
  ·exact .inr (.inr (.inl hr))
  ·exact .inr (.inl hr)
  ·exact .inr (.inr (.inr hr))) (fun r hr=>hr))
 clear Ja gP JM;go_wp2_with (at_builtin;refine wpList_append_own _ rfl (.tmp 82) (.tmp 84) 25 rfl (g+1) 46 i0 (.agg #[.string ⟨#[]⟩,.string ⟨#[]⟩,.int .i64 0,.int .i64 0]) 4 48 Tryz.underlying25 lX hz0 hz1 hz2 rfl dz _ _ _ rfl ((HX.out.q _ (List.mem_cons_self ..)).alloc _) ⟨X3.heap.size,0,none⟩ 1 1 [.string na,.string nb,.int .i64 net,.int .i64 slo] rfl rfl ?c1 ?c2 ?c3 ?c4 ?c5 ?_)
 case c1=>
  intro j u' hj;rw[bO,Nat.zero_add,(ah.new X3 46 #[.string na,.string nb,.int .i64 net,.int .i64 slo]).cell j];simpa using hj
 case c2=>intro u' kQ;simp at kQ;rcases kQ with rfl | rfl | rfl | rfl<;>rfl
 case c3=>unfold maxLen;omega
 case c4=>omega
 case c5=>have:=HX.out.eX.lt;simp;omega
 intro v9 W9 mT VD _;obtain⟨Au,cu,rfl,_⟩:=bp mT;have hG:=HX.out.grow (fun r hr=> ?hK) (fun r hr=>(HQ.out r hr).1) (show W9.ownsRow (g+1) 46 4 (.slice Au (L.length+1) cu) (L.length+1) (L.flatMap aO.cells++ [.string na,.string nb,.int .i64 net,.int .i64 slo])from mT) VD
 case hK=>
  simp only[List.mem_cons]at hr;rcases hr with rfl | rfl | hr
  ·show 31≠46;decide
  ·show 31≠46;decide
  ·rw[(HK.out r hr).1];decide
 rw[show(⟨46,4,.slice Au (L.length+1) cu,L.length+1,L.flatMap aO.cells++ [.string na,.string nb,.int .i64 net,.int .i64 slo]⟩:jK)=wT (.slice Au (L.length+1) cu) (L++ [⟨na,nb,net,slo⟩])from by simp[aO.cells]]at hG;have HG:=lz hG;have b9:W9.cell? ⟨w.heap.size,3,none⟩=some (.slice Av L.length cv):=(ig.kb HG).1 3;have bf9:W9.frozen? ⟨w.heap.size,3,none⟩=false:=(ig.kb HG).2 3;clear hG mT VD b3 x0 x1 x2 x3 HX;have HP:=lz (HG.out.put MN (fun r hr=> ?hK2) (HG.out.J4 (List.mem_cons_self ..) (fun q hq=> ?Sk)) 3 (.slice Au (L.length+1) cu))
 case hK2=>
  rcases List.mem_cons.1 hr with rfl | hr
  ·show w.heap.size+1≠w.heap.size;omega
  ·have:=(HK.out r hr).2;omega
 case Sk=>
  rcases List.mem_cons.1 hq with rfl | hq
  ·show 46≠31;decide
  ·exact(HQ.out q hq).2
 have hcb:ah W9 w.heap.size 31 (gy (.slice q0 n0 m0) (.slice q2 n2 m2) (.slice Av L.length cv) (.slice q4 n4 m4)):=HG.out.at_ (List.mem_cons_self ..);have iy:ah W9 (w.heap.size+1) 31 jg:=HG.out.at_ (r:=⟨w.heap.size+1,31,jg⟩) qz;have d0:=hcb.cell 0;have d1:=hcb.cell 1;have d2:=hcb.cell 2;have d3:=hcb.cell 3;have d4:=hcb.cell 4;have d5:=hcb.cell 5;have d6:=hcb.cell 6;have d7:=hcb.cell 7;have r0:=iy.cell 0;have r1:=iy.cell 1;have r2:=iy.cell 2;have r3:=iy.cell 3;have r4:=iy.cell 4;have r5:=iy.cell 5;have r6:=iy.cell 6;have r7:=iy.cell 7;have e0:=iy.frozen 0;have e1:=iy.frozen 1;have e2:=iy.frozen 2;have e3:=iy.frozen 3;have e4:=iy.frozen 4;have e5:=iy.frozen 5;have e6:=iy.frozen 6;have e7:=iy.frozen 7;clear hcb iy HG;go_wp2_with fail;have RB:=lz (HP.out.sub (K':=⟨w.heap.size+1,31,jg⟩ :: K) (Q':=wT (.slice Au (L.length+1) cu) (L++ [⟨na,nb,net,slo⟩]) :: Q) (fun r hr=>by
  simp only[List.mem_cons]at hr ⊢;rcases hr with hr | hr
  ·exact .inr (.inl hr)
  ·exact .inr (.inr hr)) (fun r hr=>by simpa using hr))
 have RE:=lz (RB.out.Wf (show g<w.heap.size+1 by omega) (fun r hr=>by have:=(HK.out r hr).2;omega) (RB.out.J4 (List.mem_cons_self ..) (fun q hq=>by
  rcases List.mem_cons.1 hq with rfl | hq
  ·show 46≠31;decide
  ·exact(HQ.out q hq).2)) (.slice q0 n0 m0) (.slice none 0 0) (.slice q2 n2 m2) (.slice Au (L.length+1) cu) (.slice q4 n4 m4) (.slice none 0 0) (.slice none 0 0) (.slice none 0 0))
 clear HP RB b9 bf9 d0 d1 d2 d3 d4 d5 d6 d7 r0 r1 r2 r3 r4 r5 r6 r7 e0 e1 e2 e3 e4 e5 e6 e7;obtain⟨WZ,hWZ⟩:=ez ((((((((((W9.setCell ⟨w.heap.size,3,none⟩ (.slice Au (L.length+1) cu)).setCell ⟨w.heap.size+1,0,none⟩ ((.slice q0 n0 m0))).setCell ⟨w.heap.size+1,1,none⟩ (.slice none 0 0)).setCell ⟨w.heap.size+1,2,none⟩ ((.slice q2 n2 m2))).setCell ⟨w.heap.size+1,3,none⟩ (.slice Au (L.length+1) cu)).setCell ⟨w.heap.size+1,4,none⟩ ((.slice q4 n4 m4))).setCell ⟨w.heap.size+1,5,none⟩ (.slice none 0 0)).setCell ⟨w.heap.size+1,6,none⟩ (.slice none 0 0)).setCell ⟨w.heap.size+1,7,none⟩ (.slice none 0 0)));rw[←hWZ]at RE ⊢;have tO:ah WZ (w.heap.size+1) 31 (gy (.slice q0 n0 m0) (.slice q2 n2 m2) (.slice Au (L.length+1) cu) (.slice q4 n4 m4)):=RE.out.at_ (List.mem_cons_self ..);have z0:=tO.cell 0;have z1:=tO.cell 1;have z2:=tO.cell 2;have z3:=tO.cell 3;have z4:=tO.cell 4;have z5:=tO.cell 5;have z6:=tO.cell 6;have z7:=tO.cell 7;refine bodyPost_ret (v:= .agg (gy (.slice q0 n0 m0) (.slice q2 n2 m2) (.slice Au (L.length+1) cu) (.slice q4 n4 m4))) (by simp[results,Tryz.results116,go_sem,z0,z1,z2,z3,z4,z5,z6,z7]) rfl ?_;refine⟨_,rfl,?_⟩;have:=RE.out.sub (K':=K) (Q':=wT (.slice Au (L.length+1) cu) (L++ [⟨na,nb,net,slo⟩]) :: Q) (fun r hr=>List.mem_cons_of_mem _ hr) (fun r hr=>hr);rw[show now+1+7=now+1+1+1+2+2+1 from by omega];exact this
theorem aAs(x:VlT)(q0 q2 q3:Option Addr)(n0 m0 n2 m2 n3 m3:Nat)(v4:Value)(L:List fU)(w:World)(h:ig w0 g A c ts sz K (vB v4 L :: Q) now w)(hq:∀r∈Q,r.t≠44∧r.t≠31)(hk:∀r∈K,r.t=31)(hl:ts.length≤100000)(ha:gZ ts now (wj ⟨#[118,108]⟩)=true)(hb:aEY ts (now+1) x=true)(hL:L.length≤1000):
 Calls pG 116 #[.pointer (some ⟨g,0,none⟩),.agg (gy (.slice q0 n0 m0) (.slice q2 n2 m2) (.slice q3 n3 m3) v4)] w fun e w'=>∃u y,e= .returned (.agg (gy (.slice q0 n0 m0) (.slice q2 n2 m2) (.slice q3 n3 m3) u))∧fU.is y x∧ig w0 g A c ts sz K (vB u (L++ [y]) :: y.row :: Q) (now+1+(12+6*x.dst.length)) w':=by
 unfold aEY at hb;simp only[Bool.and_eq_true,decide_eq_true_eq]at hb;obtain⟨⟨⟨⟨⟨⟨⟨⟨⟨⟨⟨a1,a2⟩,a3⟩,a4⟩,a5⟩,a6⟩,a7⟩,a8⟩,a9⟩,Qf⟩,a11⟩,a12⟩:=hb;obtain⟨nm,src,lQ,mx,dst⟩:=x;dsimp only at a1 a2 a3 a4 a5 a6 a7 a8 a9 Qf a11 a12;have ho:w.ownsRow (g+1) 44 7 v4 L.length (L.flatMap fU.cells):=h.q _ (List.mem_cons_self ..);obtain⟨Av,cv,rfl,_⟩:=bp ho;clear ho;obtain⟨w1,cN⟩:=ez ((w.alloc (.cells (gy (.slice q0 n0 m0) (.slice q2 n2 m2) (.slice q3 n3 m3) (.slice Av L.length cv)) 31)).alloc (.cells jg 31));have zh:ig w0 g A c ts sz (⟨w.heap.size+1,31,jg⟩ :: ⟨w.heap.size,31,gy (.slice q0 n0 m0) (.slice q2 n2 m2) (.slice q3 n3 m3) (.slice Av L.length cv)⟩ :: K) (vB (.slice Av L.length cv) L :: Q) now w1:=by
  rw[cN];have:=(h.new 31 (gy (.slice q0 n0 m0) (.slice q2 n2 m2) (.slice q3 n3 m3) (.slice Av L.length cv))).new 31 jg
  rwa[World.size_alloc]at this
 have HK:Hid (∀r∈K,r.t=31∧r.b<w.heap.size):=lz fun r hr=>⟨hk r hr,(h.at_ hr).lt⟩
 have MN:=h.eX.lt;have I7:=lz zh;have lH:=lz cN;have HQ:=lz hq;have Ha:=lz ha;clear h hk zh cN hq ha;have HA:=lz (ai a1 (ai a2 (ai a3 (ai a4 (ai a5 (ai a6 (ai a7 (ai a8 (ai a9 (ai Qf (ai a11 a12)))))))))));clear a1 a2 a3 a4 a5 a6 a7 a8 a9 Qf a11 a12;obtain⟨i0,lX,hz0,hz1,hz2⟩:=info_parts aHO;go_enter Tryz.func116,Tryz.ntmps116;go_wp2_with fail;rw[←lH.out];refine nK I7 (vg ⟨#[109,111,100,117,108,101]⟩ _ I7.out.eX hl (rR Ha.out kz)) fun Y1 sE=> ?_
 clear I7;go_wp2_with fail;refine nK sE (vg ⟨#[99,104,97,110,110,101,108]⟩ _ sE.out.eX hl (rR Ha.out kz)) fun Y2 sC=> ?_
 clear sE;go_wp2_with fail;refine nK sC (vg ⟨#[115,119,105,116,99,104]⟩ _ sC.out.eX hl (rR Ha.out kz)) fun Y3 pP=> ?_
 clear sC;go_wp2_with fail;refine nK pP (vg ⟨#[108,105,110,107]⟩ _ pP.out.eX hl (rR Ha.out kz)) fun Y4 sD=> ?_
 clear pP;go_wp2_with fail;refine iG sD (Fm ⟨#[118,108]⟩ _ sD.out.eX hl (Dd Ha.out kz)) fun Y5 qu=> ?_
 clear sD;go_wp2_with fail;refine iG qu (kV nm _ qu.out.eX hl HA.out.1) fun Z0 HZ=> ?_
 clear qu;have Fl:=HZ.out.far;have kW:=lz Fl;have HB:=lz (HZ.out.new 44 #[.string nm,.string ⟨#[]⟩,.string ⟨#[]⟩,.string ⟨#[]⟩,.int .i64 0,.int .i64 0,.slice none 0 0]);have Mp:=HZ.out.eX.lt;have hwz:w.heap.size+1<Z0.heap.size:=(HZ.out.at_ (List.mem_cons_self ..)).lt;obtain⟨B,Z2⟩:=ez Z0.heap.size;rw[←Z2]at HB kW Mp hwz;obtain⟨Z1,Z4⟩:=ez (Z0.alloc (.cells #[.string nm,.string ⟨#[]⟩,.string ⟨#[]⟩,.string ⟨#[]⟩,.int .i64 0,.int .i64 0,.slice none 0 0] 44));rw[←Z4]at HB;have HZ1:=lz Z4;have HBe:=lz Z2;clear Fl HZ Z4 Z2;go_wp2_with fail;rw[←HZ1.out,←HBe.out];clear HZ1;refine yT HB (iX _ _ HB.out.eX hl HA.out.2.1) fun u0 X0 NH=> ?_
 clear HB;go_wp2_with fail;refine iG NH (ZP src _ NH.out.eX hl HA.out.2.2.1) fun X1 CZ=> ?_
 have k10:X1.cell? ⟨B,1,none⟩=some (.string ⟨#[]⟩):=(ig.kb CZ).1 1;have f10:X1.frozen? ⟨B,1,none⟩=false:=(ig.kb CZ).2 1;have k11:X1.cell? ⟨B,2,none⟩=some (.string ⟨#[]⟩):=(ig.kb CZ).1 2;have f11:X1.frozen? ⟨B,2,none⟩=false:=(ig.kb CZ).2 2;have k12:X1.cell? ⟨B,3,none⟩=some (.string ⟨#[]⟩):=(ig.kb CZ).1 3;have f12:X1.frozen? ⟨B,3,none⟩=false:=(ig.kb CZ).2 3;clear NH;go_wp2_with fail;have Fq:=lz (((CZ.out.put Mp kW.out.2 kW.out.1 1 (.string src.m)).put Mp kW.out.2 kW.out.1 2 (.string src.p)).put Mp kW.out.2 kW.out.1 3 (.string src.o));clear k10 f10 k11 f11 k12 f12 CZ;refine iG Fq (gY _ lQ _ Fq.out.eX hl HA.out.2.2.2.1 HA.out.2.2.2.2.1) fun X2 qB=> ?_
 have k2:X2.cell? ⟨B,4,none⟩=some (.int .i64 0):=(ig.kb qB).1 4;have f2:X2.frozen? ⟨B,4,none⟩=false:=(ig.kb qB).2 4;clear Fq;go_wp2_with fail;have Ft:=lz (qB.out.put Mp kW.out.2 kW.out.1 4 (.int .i64 lQ));clear k2 f2 qB;refine iG Ft (gY _ mx _ Ft.out.eX hl HA.out.2.2.2.2.2.1 HA.out.2.2.2.2.2.2.1) fun X3 Ja=> ?_
 have k3:X3.cell? ⟨B,5,none⟩=some (.int .i64 0):=(ig.kb Ja).1 5;have f3:X3.frozen? ⟨B,5,none⟩=false:=(ig.kb Ja).2 5;clear Ft;go_wp2_with fail;have aHR:=lz (Ja.out.put Mp kW.out.2 kW.out.1 5 (.int .i64 mx));clear k3 f3 Ja;refine yT aHR (iX _ _ aHR.out.eX hl HA.out.2.2.2.2.2.2.2.1) fun u4 X4 HX4=> ?_
 clear aHR;go_wp2_with fail;refine(aHC dst _ HX4.out.eX hl HA.out.2.2.2.2.2.2.2.2.1 HA.out.2.2.2.2.2.2.2.2.2.2.1 HA.out.2.2.2.2.2.2.2.2.2.2.2).mono ?_;rintro e X5 ⟨Ar,cr,rfl,hR5⟩;have Gm:=lz ((HX4.out.next hR5.eX hR5.gr).rows (dA.one hR5.own) (show g+1≤_ from HX4.out.eX.lt));have k5:X5.cell? ⟨B,6,none⟩=some (.slice none 0 0):=(ig.kb Gm).1 6;have f5:X5.frozen? ⟨B,6,none⟩=false:=(ig.kb Gm).2 6;have aMQ:Hid (ZY (⟨41,3,.slice Ar dst.length cr,dst.length,dst.flatMap bw.cells⟩ :: vB (.slice Av L.length cv) L :: Q) B):=lz fun r hr k hk e=>by
  rcases List.mem_cons.1 hr with rfl | hr
  ·have h1:=(hR5.own.lt k hk).1
   have h2:B<_:=(HX4.out.at_ (List.mem_cons_self ..)).lt;omega
  ·exact kW.out.1 r hr k hk e
 clear HX4 hR5;go_wp2_with fail;have aHS:=lz (Gm.out.put Mp kW.out.2 aMQ.out 6 (.slice Ar dst.length cr));clear k5 f5 Gm;refine yT aHS (iX _ _ aHS.out.eX hl HA.out.2.2.2.2.2.2.2.2.2.1) fun u6 X6 HX6=> ?_
 clear aHS;have gP:ah X6 w.heap.size 31 (gy (.slice q0 n0 m0) (.slice q2 n2 m2) (.slice q3 n3 m3) (.slice Av L.length cv)):=HX6.out.at_ (r:=⟨w.heap.size,31,gy (.slice q0 n0 m0) (.slice q2 n2 m2) (.slice q3 n3 m3) (.slice Av L.length cv)⟩) qz;have JM:ah X6 B 44 #[.string nm,.string src.m,.string src.p,.string src.o,.int .i64 lQ,.int .i64 mx,.slice Ar dst.length cr]:=HX6.out.at_ (List.mem_cons_self ..);have b4:=gP.cell 4;have x0:=JM.cell 0;have x1:=JM.cell 1;have x2:=JM.cell 2;have x3:=JM.cell 3;have x4:=JM.cell 4;have x5:=JM.cell 5;have x6:=JM.cell 6;have HX:=lz (HX6.out.sub (K':=⟨w.heap.size,31,gy (.slice q0 n0 m0) (.slice q2 n2 m2) (.slice q3 n3 m3) (.slice Av L.length cv)⟩ :: ⟨w.heap.size+1,31,jg⟩ :: K) (Q':=vB (.slice Av L.length cv) L :: ⟨41,3,.slice Ar dst.length cr,dst.length,dst.flatMap bw.cells⟩ :: Q) (fun r hr=>by
  simp only[List.mem_cons]at hr ⊢;rcases hr with hr | hr | hr
  ·exact .inr (.inr (.inl hr))
  ·exact .inr (.inl hr)
  ·exact .inr (.inr (.inr hr))) (fun r hr=>by simp only[List.cons_append,List.nil_append,List.mem_cons]at hr ⊢;rcases hr with hr | hr | hr;exact .inr (.inl hr);exact .inl hr;exact .inr (.inr hr)))
 clear HX6 gP JM;have HQ2:Hid (∀r∈(⟨41,3,.slice Ar dst.length cr,dst.length,dst.flatMap bw.cells⟩ :: Q:List jK),r.t≠44∧r.t≠31):=lz fun r hr=>by
  rcases List.mem_cons.1 hr with rfl | hr
  ·exact⟨by show 41≠44;decide,by show 41≠31;decide⟩
  ·exact HQ.out r hr
 go_wp2_with (at_builtin;refine wpList_append_own _ rfl (.tmp 112) (.tmp 114) 26 rfl (g+1) 44 i0 (.agg #[.string ⟨#[]⟩,.string ⟨#[]⟩,.string ⟨#[]⟩,.string ⟨#[]⟩,.int .i64 0,.int .i64 0,.slice none 0 0]) 7 104 Tryz.underlying26 lX hz0 hz1 hz2 rfl dz _ _ _ rfl ((HX.out.q _ (List.mem_cons_self ..)).alloc _) ⟨X6.heap.size,0,none⟩ 1 1 [.string nm,.string src.m,.string src.p,.string src.o,.int .i64 lQ,.int .i64 mx,.slice Ar dst.length cr] rfl rfl ?c1 ?c2 ?c3 ?c4 ?c5 ?_)
 case c1=>
  intro j u' hj;rw[bO,Nat.zero_add,(ah.new X6 44 #[.string nm,.string src.m,.string src.p,.string src.o,.int .i64 lQ,.int .i64 mx,.slice Ar dst.length cr]).cell j];simpa using hj
 case c2=>intro u' kQ;simp at kQ;rcases kQ with rfl | rfl | rfl | rfl | rfl | rfl | rfl<;>rfl
 case c3=>unfold maxLen;omega
 case c4=>omega
 case c5=>have:=HX.out.eX.lt;simp;omega
 intro v9 W9 mT VD _;obtain⟨Au,cu,rfl,_⟩:=bp mT;have hG:=HX.out.grow (fun r hr=> ?hK) (fun r hr=>(HQ2.out r hr).1) (show W9.ownsRow (g+1) 44 7 (.slice Au (L.length+1) cu) (L.length+1) (L.flatMap fU.cells++ [.string nm,.string src.m,.string src.p,.string src.o,.int .i64 lQ,.int .i64 mx,.slice Ar dst.length cr])from mT) VD
 case hK=>
  simp only[List.mem_cons]at hr;rcases hr with rfl | rfl | hr
  ·show 31≠44;decide
  ·show 31≠44;decide
  ·rw[(HK.out r hr).1];decide
 rw[show(⟨44,7,.slice Au (L.length+1) cu,L.length+1,L.flatMap fU.cells++ [.string nm,.string src.m,.string src.p,.string src.o,.int .i64 lQ,.int .i64 mx,.slice Ar dst.length cr]⟩:jK)=vB (.slice Au (L.length+1) cu) (L++ [⟨nm,src,lQ,mx,⟨Ar,cr,dst⟩⟩])from by simp[fU.cells]]at hG;have HG:=lz hG;have b9:W9.cell? ⟨w.heap.size,4,none⟩=some (.slice Av L.length cv):=(ig.kb HG).1 4;have bf9:W9.frozen? ⟨w.heap.size,4,none⟩=false:=(ig.kb HG).2 4;clear hG mT VD b4 x0 x1 x2 x3 x4 x5 x6 HX;have HP:=lz (HG.out.put MN (fun r hr=> ?hK2) (HG.out.J4 (List.mem_cons_self ..) (fun q hq=> ?Sk)) 4 (.slice Au (L.length+1) cu))
 case hK2=>
  rcases List.mem_cons.1 hr with rfl | hr
  ·show w.heap.size+1≠w.heap.size;omega
  ·have:=(HK.out r hr).2;omega
 case Sk=>
  rcases List.mem_cons.1 hq with rfl | hq
  ·show 44≠31;decide
  ·exact(HQ2.out q hq).2
 have hcb:ah W9 w.heap.size 31 (gy (.slice q0 n0 m0) (.slice q2 n2 m2) (.slice q3 n3 m3) (.slice Av L.length cv)):=HG.out.at_ (List.mem_cons_self ..);have iy:ah W9 (w.heap.size+1) 31 jg:=HG.out.at_ (r:=⟨w.heap.size+1,31,jg⟩) qz;have d0:=hcb.cell 0;have d1:=hcb.cell 1;have d2:=hcb.cell 2;have d3:=hcb.cell 3;have d4:=hcb.cell 4;have d5:=hcb.cell 5;have d6:=hcb.cell 6;have d7:=hcb.cell 7;have r0:=iy.cell 0;have r1:=iy.cell 1;have r2:=iy.cell 2;have r3:=iy.cell 3;have r4:=iy.cell 4;have r5:=iy.cell 5;have r6:=iy.cell 6;have r7:=iy.cell 7;have e0:=iy.frozen 0;have e1:=iy.frozen 1;have e2:=iy.frozen 2;have e3:=iy.frozen 3;have e4:=iy.frozen 4;have e5:=iy.frozen 5;have e6:=iy.frozen 6;have e7:=iy.frozen 7;clear hcb iy HG;go_wp2_with fail;have RB:=lz (HP.out.sub (K':=⟨w.heap.size+1,31,jg⟩ :: K) (Q':=vB (.slice Au (L.length+1) cu) (L++ [⟨nm,src,lQ,mx,⟨Ar,cr,dst⟩⟩]) :: ⟨41,3,.slice Ar dst.length cr,dst.length,dst.flatMap bw.cells⟩ :: Q) (fun r hr=>by
  simp only[List.mem_cons]at hr ⊢;rcases hr with hr | hr
  ·exact .inr (.inl hr)
  ·exact .inr (.inr hr)) (fun r hr=>by simpa using hr))
 have RE:=lz (RB.out.Wf (show g<w.heap.size+1 by omega) (fun r hr=>by have:=(HK.out r hr).2;omega) (RB.out.J4 (List.mem_cons_self ..) (fun q hq=>by
  rcases List.mem_cons.1 hq with rfl | hq
  ·show 44≠31;decide
  ·exact(HQ2.out q hq).2)) (.slice q0 n0 m0) (.slice none 0 0) (.slice q2 n2 m2) (.slice q3 n3 m3) (.slice Au (L.length+1) cu) (.slice none 0 0) (.slice none 0 0) (.slice none 0 0))
 clear HP RB b9 bf9 d0 d1 d2 d3 d4 d5 d6 d7 r0 r1 r2 r3 r4 r5 r6 r7 e0 e1 e2 e3 e4 e5 e6 e7;obtain⟨WZ,hWZ⟩:=ez ((((((((((W9.setCell ⟨w.heap.size,4,none⟩ (.slice Au (L.length+1) cu)).setCell ⟨w.heap.size+1,0,none⟩ ((.slice q0 n0 m0))).setCell ⟨w.heap.size+1,1,none⟩ (.slice none 0 0)).setCell ⟨w.heap.size+1,2,none⟩ ((.slice q2 n2 m2))).setCell ⟨w.heap.size+1,3,none⟩ ((.slice q3 n3 m3))).setCell ⟨w.heap.size+1,4,none⟩ (.slice Au (L.length+1) cu)).setCell ⟨w.heap.size+1,5,none⟩ (.slice none 0 0)).setCell ⟨w.heap.size+1,6,none⟩ (.slice none 0 0)).setCell ⟨w.heap.size+1,7,none⟩ (.slice none 0 0)));rw[←hWZ]at RE ⊢;have tO:ah WZ (w.heap.size+1) 31 (gy (.slice q0 n0 m0) (.slice q2 n2 m2) (.slice q3 n3 m3) (.slice Au (L.length+1) cu)):=RE.out.at_ (List.mem_cons_self ..);have z0:=tO.cell 0;have z1:=tO.cell 1;have z2:=tO.cell 2;have z3:=tO.cell 3;have z4:=tO.cell 4;have z5:=tO.cell 5;have z6:=tO.cell 6;have z7:=tO.cell 7;refine bodyPost_ret (v:= .agg (gy (.slice q0 n0 m0) (.slice q2 n2 m2) (.slice q3 n3 m3) (.slice Au (L.length+1) cu))) (by simp[results,Tryz.results116,go_sem,z0,z1,z2,z3,z4,z5,z6,z7]) rfl ?_;refine⟨_,⟨nm,src,lQ,mx,⟨Ar,cr,dst⟩⟩,rfl,⟨Ar,cr,rfl⟩,?_⟩;have:=RE.out.sub (K':=K) (Q':=vB (.slice Au (L.length+1) cu) (L++ [⟨nm,src,lQ,mx,⟨Ar,cr,dst⟩⟩]) :: ⟨41,3,.slice Ar dst.length cr,dst.length,dst.flatMap bw.cells⟩ :: Q) (fun r hr=>List.mem_cons_of_mem _ hr) (fun r hr=>hr);rw[show now+1+(12+6*dst.length)=now+1+1+1+5+2+2+1+6*dst.length-1+1 from by omega];exact this
end
theorem PJ{y:bT}{r:jK}(hr:r∈y.rows):r.t=71∨r.t=73:=by
 rcases List.mem_cons.1 hr with rfl | hr
 ·exact .inl rfl
 ·obtain⟨p,_,rfl⟩:=List.mem_map.1 hr
  exact .inr rfl
section
variable {w0:World} {g:Nat} {A:Option Addr} {c:Nat} {ts:List Tok} {now:Nat} {sz:Int} {K:List MJ} {Q:List jK}
theorem aAt(x:DA)(q2 q3 q4:Option Addr)(n2 m2 n3 m3 n4 m4:Nat)(v0:Value)(L:List bT)(w:World)(h:ig w0 g A c ts sz K (zj v0 L :: Q) now w)(hq:∀r∈Q,r.t≠67∧r.t≠31)(hk:∀r∈K,r.t=31)(hl:ts.length≤100000)(ha:gZ ts now (wj ⟨#[109,111,100,117,108,101]⟩)=true)(hb:RO ts (now+1) x=true)(hL:L.length≤1000):
 Calls pG 116 #[.pointer (some ⟨g,0,none⟩),.agg (gy v0 (.slice q2 n2 m2) (.slice q3 n3 m3) (.slice q4 n4 m4))] w fun e w'=>∃u y,e= .returned (.agg (gy u (.slice q2 n2 m2) (.slice q3 n3 m3) (.slice q4 n4 m4)))∧bT.is y x∧ig w0 g A c ts sz K (zj u (L++ [y]) :: (y.rows++Q)) (now+1+zi x) w':=by
 have ho:w.ownsRow (g+1) 67 4 v0 L.length (L.flatMap bT.cells):=h.q _ (List.mem_cons_self ..);obtain⟨Av,cv,rfl,_⟩:=bp ho;clear ho;obtain⟨w1,cN⟩:=ez ((w.alloc (.cells (gy (.slice Av L.length cv) (.slice q2 n2 m2) (.slice q3 n3 m3) (.slice q4 n4 m4)) 31)).alloc (.cells jg 31));have zh:ig w0 g A c ts sz (⟨w.heap.size+1,31,jg⟩ :: ⟨w.heap.size,31,gy (.slice Av L.length cv) (.slice q2 n2 m2) (.slice q3 n3 m3) (.slice q4 n4 m4)⟩ :: K) (zj (.slice Av L.length cv) L :: Q) now w1:=by
  rw[cN];have:=(h.new 31 (gy (.slice Av L.length cv) (.slice q2 n2 m2) (.slice q3 n3 m3) (.slice q4 n4 m4))).new 31 jg
  rwa[World.size_alloc]at this
 have HK:Hid (∀r∈K,r.t=31∧r.b<w.heap.size):=lz fun r hr=>⟨hk r hr,(h.at_ hr).lt⟩
 have MN:=h.eX.lt;have I7:=lz zh;have lH:=lz cN;have HQ:=lz hq;have Ha:=lz ha;have Hb:=lz hb;obtain⟨i0,lX,hz0,hz1,hz2⟩:=info_parts aHL;clear h hk zh cN hq ha hb;go_enter Tryz.func116,Tryz.ntmps116;go_wp2_with fail;rw[←lH.out];refine iG I7 (Fm ⟨#[109,111,100,117,108,101]⟩ _ I7.out.eX hl (Dd Ha.out kz)) fun Y1 sE=> ?_
 clear I7;have HD:=lz (sE.out.below (W':=Y1.drew) (Below.refl _ _).drew);have O5:=(HD.out.at_ (r:=⟨w.heap.size,31,gy (.slice Av L.length cv) (.slice q2 n2 m2) (.slice q3 n3 m3) (.slice q4 n4 m4)⟩) qz).cell 0;clear sE;have VB:=lz (ZW x _ HD.out.eX hl Hb.out);go_wp2_with fail;refine aT (fun W'=>W'.cell? ⟨w.heap.size,0,none⟩=some (.slice Av L.length cv)) 7 kz O5 (fun hHeld=> ?_);refine TS 0 rfl hHeld ?_;simp only[zP,zA,zB,zC];refine TS 1 rfl hHeld ?_;simp only[zP,zA,zB,zC];refine TS 2 rfl hHeld ?_;simp only[zP,zA,zB,zC];refine RQ 3 rfl fun K hK=> ?_
 go_simp;refine VB.out.mono ?_;rintro e Vl ⟨⟨nm,mem,fr,⟨Ap,cp,P⟩⟩,rfl,hy,aEQ,O6,O7⟩;have qt:=lz (((HD.out.next O6 O7).rows aEQ (show g+1≤_ from HD.out.eX.lt)).sub (K':=⟨w.heap.size,31,gy (.slice Av L.length cv) (.slice q2 n2 m2) (.slice q3 n3 m3) (.slice q4 n4 m4)⟩ :: ⟨w.heap.size+1,31,jg⟩ :: _) (Q':=zj (.slice Av L.length cv) L :: (bT.rows ⟨nm,mem,fr,⟨Ap,cp,P⟩⟩++Q)) (fun r hr=>by
  simp only[List.mem_cons]at hr ⊢;rcases hr with hr | hr | hr
  ·exact .inr (.inl hr)
  ·exact .inl hr
  ·exact .inr (.inr hr)) (fun r hr=>by
  simp only[List.mem_cons,List.mem_append]at hr ⊢;rcases hr with hr | hr | hr
  ·exact .inr (.inl hr)
  ·exact .inl hr
  ·exact .inr (.inr hr)))
 have pZ:Vl.cell? ⟨w.heap.size,0,none⟩=some (.slice Av L.length cv):=(ig.kb qt).1 0;refine hK.out _ _ (fun _=>pZ) ?_;have HY:=lz hy;clear hK hHeld O6 O7 HD O5 aEQ VB hy;refine RQ 4 rfl fun K hK=> ?_
 go_simp;have qb:(Vl.alloc (.cells #[.string nm,.int .i64 mem,.int .i64 fr,.slice Ap P.length cp] 67)).cell? ⟨w.heap.size,0,none⟩=some (.slice Av L.length cv):=((qt.out.at_ (List.mem_cons_self ..)).alloc _).cell 0;refine hK.out _ _ (fun _=>qb) ?_;clear hK pZ;refine RQ 5 rfl fun K hK=> ?_
 refine mC (by rfl) (.tmp 16) (.tmp 19) 22 (by rfl) (g+1) 67 i0 (.agg #[.string ⟨#[]⟩,.int .i64 0,.int .i64 0,.slice none 0 0]) 4 56 Tryz.underlying22 lX hz0 hz1 hz2 rfl dz (.slice Av L.length cv) L.length _ (by rfl) ((qt.out.q _ (List.mem_cons_self ..)).alloc _) ⟨Vl.heap.size,0,none⟩ 1 1 [.string nm,.int .i64 mem,.int .i64 fr,.slice Ap P.length cp] (by rfl) (by rfl) ?c1 ?c2 ?c3 ?c4 ?c5 ?_
 case c1=>
  intro j u' hj;rw[bO,Nat.zero_add,(ah.new Vl 67 #[.string nm,.int .i64 mem,.int .i64 fr,.slice Ap P.length cp]).cell j];simpa using hj
 case c2=>intro u' kQ;simp at kQ;rcases kQ with rfl | rfl | rfl | rfl<;>rfl
 case c3=>unfold maxLen;omega
 case c4=>omega
 case c5=>have:=qt.out.eX.lt;simp;omega
 intro v19 VJ oZ O8;obtain⟨Au,cu,rfl,_⟩:=bp oZ;have hG:=qt.out.grow (fun r hr=> ?hK) (fun r hr=> ?hQ) (show VJ.ownsRow (g+1) 67 4 (.slice Au (L.length+1) cu) (L.length+1) (L.flatMap bT.cells++ [.string nm,.int .i64 mem,.int .i64 fr,.slice Ap P.length cp])from oZ) O8
 case hK=>
  simp only[List.mem_cons]at hr;rcases hr with rfl | rfl | hr
  ·show 31≠67;decide
  ·show 31≠67;decide
  ·rw[(HK.out r hr).1];decide
 case hQ=>
  rcases List.mem_append.1 hr with hr | hr
  ·rcases PJ hr with e | e<;>rw[e]<;>decide
  ·exact(HQ.out r hr).1
 rw[show(⟨67,4,.slice Au (L.length+1) cu,L.length+1,L.flatMap bT.cells++ [.string nm,.int .i64 mem,.int .i64 fr,.slice Ap P.length cp]⟩:jK)=zj (.slice Au (L.length+1) cu) (L++ [⟨nm,mem,fr,⟨Ap,cp,P⟩⟩])from by simp[bT.cells]]at hG;have HG:=lz hG;have aER:∀q∈zj (.slice Au (L.length+1) cu) (L++ [⟨nm,mem,fr,⟨Ap,cp,P⟩⟩]) :: (bT.rows ⟨nm,mem,fr,⟨Ap,cp,P⟩⟩++Q),q.t≠31:=fun q hq=>by
  rcases List.mem_cons.1 hq with rfl | hq
  ·show 67≠31;decide
  ·rcases List.mem_append.1 hq with hq | hq
   ·rcases PJ hq with e | e<;>rw[e]<;>decide
   ·exact(HQ.out q hq).2
 have HF:=lz aER;have nJ:VJ.cell? ⟨w.heap.size,0,none⟩=some (.slice Av L.length cv):=(ig.kb HG).1 0;have aHJ:VJ.frozen? ⟨w.heap.size,0,none⟩=false:=(ig.kb HG).2 0;refine hK.out _ _ (fun _=>nJ) ?_;clear hK qb oZ O8 qt hG aER;refine TS 6 rfl nJ ?_;simp only[zP,zA,zB,zC];refine RQ 7 rfl fun K hK=> ?_
 go_simp;refine hK.out _ _ (fun h=>absurd h dz) ?_;clear hK;refine aL kz ?_ _;have HP:=lz (HG.out.put MN (fun r hr=> ?hK2) (HG.out.J4 (List.mem_cons_self ..) HF.out) 0 (.slice Au (L.length+1) cu))
 case hK2=>
  rcases List.mem_cons.1 hr with rfl | hr
  ·show w.heap.size+1≠w.heap.size;omega
  ·have:=(HK.out r hr).2;omega
 have hcb:ah VJ w.heap.size 31 (gy (.slice Av L.length cv) (.slice q2 n2 m2) (.slice q3 n3 m3) (.slice q4 n4 m4)):=HG.out.at_ (List.mem_cons_self ..);have iy:ah VJ (w.heap.size+1) 31 jg:=HG.out.at_ (r:=⟨w.heap.size+1,31,jg⟩) qz;have d0:=hcb.cell 0;have d1:=hcb.cell 1;have d2:=hcb.cell 2;have d3:=hcb.cell 3;have d4:=hcb.cell 4;have d5:=hcb.cell 5;have d6:=hcb.cell 6;have d7:=hcb.cell 7;have r0:=iy.cell 0;have r1:=iy.cell 1;have r2:=iy.cell 2;have r3:=iy.cell 3;have r4:=iy.cell 4;have r5:=iy.cell 5;have r6:=iy.cell 6;have r7:=iy.cell 7;have e0:=iy.frozen 0;have e1:=iy.frozen 1;have e2:=iy.frozen 2;have e3:=iy.frozen 3;have e4:=iy.frozen 4;have e5:=iy.frozen 5;have e6:=iy.frozen 6;have e7:=iy.frozen 7;clear hcb iy HG nJ;go_wp2_with fail;have RB:=lz (HP.out.sub (K':=⟨w.heap.size+1,31,jg⟩ :: _) (fun r hr=>by
  simp only[List.mem_cons]at hr ⊢;rcases hr with hr | hr
  ·exact .inr (.inl hr)
  ·exact .inr (.inr hr)) (fun r hr=>hr))
 have RE:=lz (RB.out.Wf (show g<w.heap.size+1 by omega) (fun r hr=>by have:=(HK.out r hr).2;omega) (RB.out.J4 (List.mem_cons_self ..) HF.out) (.slice Au (L.length+1) cu) (.slice none 0 0) (.slice q2 n2 m2) (.slice q3 n3 m3) (.slice q4 n4 m4) (.slice none 0 0) (.slice none 0 0) (.slice none 0 0));clear HP RB aHJ d0 r0 e0 d1 r1 e1 d2 r2 e2 d3 r3 e3 d4 r4 e4 d5 r5 e5 d6 r6 e6 d7 r7 e7;obtain⟨WZ,hWZ⟩:=ez ((((((((((VJ.setCell ⟨w.heap.size,0,none⟩ (.slice Au (L.length+1) cu)).setCell ⟨w.heap.size+1,0,none⟩ (.slice Au (L.length+1) cu)).setCell ⟨w.heap.size+1,1,none⟩ (.slice none 0 0)).setCell ⟨w.heap.size+1,2,none⟩ (.slice q2 n2 m2)).setCell ⟨w.heap.size+1,3,none⟩ (.slice q3 n3 m3)).setCell ⟨w.heap.size+1,4,none⟩ (.slice q4 n4 m4)).setCell ⟨w.heap.size+1,5,none⟩ (.slice none 0 0)).setCell ⟨w.heap.size+1,6,none⟩ (.slice none 0 0)).setCell ⟨w.heap.size+1,7,none⟩ (.slice none 0 0)));rw[←hWZ]at RE ⊢;have tO:ah WZ (w.heap.size+1) 31 (gy (.slice Au (L.length+1) cu) (.slice q2 n2 m2) (.slice q3 n3 m3) (.slice q4 n4 m4)):=RE.out.at_ (List.mem_cons_self ..);have z0:=tO.cell 0;have z1:=tO.cell 1;have z2:=tO.cell 2;have z3:=tO.cell 3;have z4:=tO.cell 4;have z5:=tO.cell 5;have z6:=tO.cell 6;have z7:=tO.cell 7;refine bodyPost_ret (v:= .agg (gy (.slice Au (L.length+1) cu) (.slice q2 n2 m2) (.slice q3 n3 m3) (.slice q4 n4 m4))) (by simp[results,Tryz.results116,go_sem,z0,z1,z2,z3,z4,z5,z6,z7]) rfl ?_;exact⟨_,⟨nm,mem,fr,⟨Ap,cp,P⟩⟩,rfl,HY.out,RE.out.sub (fun r hr=>List.mem_cons_of_mem _ hr) (fun r hr=>hr)⟩
end
end
end Go.Proofs.YtmdgooofdmpcjaaGreatDoor
