import Derived.Test.YtchfcgilpjkmhaaGreatDoorY35
import Derived.Test.YtchfcgilpjkmhaaGreatDoorY0
set_option maxRecDepth 100000
set_option linter.unusedSimpArgs false
set_option linter.unusedVariables false
set_option linter.unusedSectionVars false
namespace Go.Proofs.YtchfcgilpjkmhaaGreatDoor
open Go.ChangeShapes Go.WideShapes Go.ChangeAt Go.RowKit
attribute [local go_sem] Oper.semAt_some
theorem codesF_c(p:PartV)(q:ProcV)(z:InsV)(Bp Bq:Nat)(w:World)(hL:LaidN w)(hz:z.rd w w.heap.size)(hp:p.rd w w.heap.size)(hBp:Blk w Bp 75 #[.string p.nm,.int .i64 p.pe,.int .i64 p.le,.int .i64 p.mem,.slice p.semas.a p.semas.l.length p.semas.c,.int .i64 p.ev,.int .i64 p.bo,.slice p.bufs.a p.bufs.l.length p.bufs.c,.slice p.ports.a p.ports.l.length p.ports.c,.slice p.procs.a p.procs.l.length p.procs.c])(hBq:Blk w Bq 80 #[.string q.nm,.int .i64 q.pr,.int .i64 q.pe,.int .i64 q.li,.slice q.code.a q.code.l.length q.code.c])(hi:i64ok z.a∧i64ok z.b∧i64ok z.d):
 CU 82 #[z.val,.pointer (some ⟨Bp,0,none⟩),.pointer (some ⟨Bq,0,none⟩)] w (.bool (insOkB p q.code.l.length z)):=by
 obtain⟨y0,hy0⟩:∃y0,y0=w.alloc (.cells #[.int .u8 z.op,.int .i64 z.a,.int .i64 z.b,.int .i64 z.d] 167):=⟨_,rfl⟩;have hB0:Below w.heap.size w y0:=by rw[hy0];exact(Below.refl _ _).alloc (Nat.le_refl _) _
 have hb0:Blk y0 w.heap.size 167 #[.int .u8 z.op,.int .i64 z.a,.int .i64 z.b,.int .i64 z.d]:=by rw[hy0];exact Blk.new w _ _
 have hbp:Blk y0 Bp 75 #[.string p.nm,.int .i64 p.pe,.int .i64 p.le,.int .i64 p.mem,.slice p.semas.a p.semas.l.length p.semas.c,.int .i64 p.ev,.int .i64 p.bo,.slice p.bufs.a p.bufs.l.length p.bufs.c,.slice p.ports.a p.ports.l.length p.ports.c,.slice p.procs.a p.procs.l.length p.procs.c]:=hBp.below hB0 hBp.lt;have hbq:Blk y0 Bq 80 #[.string q.nm,.int .i64 q.pr,.int .i64 q.pe,.int .i64 q.li,.slice q.code.a q.code.l.length q.code.c]:=hBq.below hB0 hBq.lt;have hc:=insX_c p q.code.l.length z y0 (hL.below hB0) hz.op0 hi.1 hi.2.1 hi.2.2 ((hp.below hB0).ports);have k0:=hy0▸hb0.cell 0;have k1:=hy0▸hb0.cell 1;have k2:=hy0▸hb0.cell 2;have k3:=hy0▸hb0.cell 3;have p0:=hy0▸hbp.cell 0;have p1:=hy0▸hbp.cell 1;have p2:=hy0▸hbp.cell 2;have p3:=hy0▸hbp.cell 3;have p4:=hy0▸hbp.cell 4;have p5:=hy0▸hbp.cell 5;have p6:=hy0▸hbp.cell 6;have p7:=hy0▸hbp.cell 7;have p8:=hy0▸hbp.cell 8;have p9:=hy0▸hbp.cell 9;have q4:=hy0▸hbq.cell 4;have hlp:=hBp.lt;have hlq:=hBq.lt;rw[hy0]at hc;have Hc:=lz hc;have HB0:=lz hB0;have Hy0:=lz hy0;obtain⟨b,hb⟩:∃b,b=insOkB p q.code.l.length z:=⟨_,rfl⟩;rw[←hb]at Hc;rw[←hb];clear hc hB0 hb0 hbp hbq hy0 hL hz hp hBp hBq hi hb;go_enter Tryz.func82,Tryz.ntmps82;go_wp2_with fail;refine Hc.out.mono ?_;rintro e w1 ⟨rfl,hb1⟩;rw[←Hy0.out]at hb1;have HB:=lz (HB0.out.trans (hb1.mono HB0.out.size));clear hb1 Hc;go_wp2_with fail;go_ret;exact⟨rfl,HB.out⟩
set_option maxHeartbeats 4000000 in
theorem codes_g(x:CfgV)(g:Nat)(w:World)(h:CkG w g x)(hr:x.rd w w.heap.size)(hL:LaidN w)(hi:∀y∈partsV x,∀q∈y.2.procs.l,∀z∈q.code.l,i64ok z.a∧i64ok z.b∧i64ok z.d):CU 27 #[.pointer (some ⟨g,0,none⟩)] w (.bool (codesP x)):=by
 obtain⟨w1,hw1⟩:∃w1,w1=(w.alloc (.cells #[.bool false] 4)).alloc (.cells #[.pointer (some ⟨g,0,none⟩)] 104):=⟨_,rfl⟩;have hb1:Below w.heap.size w w1:=by rw[hw1];exact((Below.refl _ w).alloc (Nat.le_refl _) _).alloc (by simp) _
 have hr0:Blk w1 w.heap.size 4 #[.bool false]:=by rw[hw1];exact(Blk.new w _ _).alloc _
 have hbx:Blk w1 (w.heap.size+1) 104 #[.pointer (some ⟨g,0,none⟩)]:=by rw[hw1];have:=Blk.new (w.alloc (.cells #[.bool false] 4)) 104 #[.pointer (some ⟨g,0,none⟩)];rwa[World.size_alloc]at this
 have hz:w1.heap.size=w.heap.size+2:=by rw[hw1];simp
 have hck:CkRd w1 g (w.heap.size+1) w.heap.size x:=⟨hbx,h.below hb1,hr.to_ (Nat.le_refl _) (bcell hb1),by omega⟩;have hml:x.mods.l.length≤9223372036854775807:=Nat.le_trans hr.mods1 (Nat.le_trans hr.mods2 (by decide));have Hseq:=lz (parts_g x g (w.heap.size+1) w.heap.size (fun _=>False) w1 (fun _ h=>h.elim) (fun _ h=>h.elim) hck hml);have hgl:=Blk.lt h;have Hck:=lz hck;have Hw1:=lz hw1;have Hb1:=lz hb1;have Hr0:=lz hr0;have Hz:=lz hz;have Hi:=lz hi;have HL:=lz (hL.below hb1);clear h hr hw1 hb1 hr0 hbx hz hck hi hL;refine(callsIn_wide (n:=9)).1 ?_;refine callsIn_of_wp_marks Tryz.func27 rfl trivial ?_ rfl;simp only[Tryz.ntmps27,List.size_toArray,List.length_cons,List.length_nil,Nat.reduceAdd,Nat.reduceSub,Array.replicate_succ,Array.replicate_zero,List.push_toArray,List.append_toArray,List.nil_append,List.cons_append];refine wpIn_wide.2 ?_;go_wp2_with (go_at_call 65;refine(parts96 _ _).mono ?_;rintro e w' ⟨rfl,hw'⟩);rw[←Hw1.out];clear hw';refine(wpIn_wide (n:=9)).1 ?_;have hz1:w.heap.size+2≤w1.heap.size:=Nat.le_of_eq Hz.out.symm;have hz1b:w1.heap.size≤w.heap.size+2:=Nat.le_of_eq Hz.out;refine range_s (gf:=152) (lb:= #[.pointer (some ⟨w.heap.size+1,0,none⟩)]) (encs:=mpEnc) (xs:=partsV x) (X:=fun _=>False) (XE:=fun k=>k=w.heap.size) rfl (enters_of Tryz.func152 kz rfl) (fun _=>rfl) (fun _ h=>h.elim) (fun k e=>by omega) Hseq.out
  (fun T W=>Below w1.heap.size w1 W∧AllB codeB T true)
  (fun T W=>Blk W w.heap.size 4 #[.bool false]∧Below w.heap.size w W∧AllB codeB T false) ?hI ?hIE ?hI0
  (fun y a' W=>∃m p Bp,y=(m,p)∧w1.heap.size≤Bp∧Blk W Bp 75 #[.string p.nm,.int .i64 p.pe,.int .i64 p.le,.int .i64 p.mem,.slice p.semas.a p.semas.l.length p.semas.c,.int .i64 p.ev,.int .i64 p.bo,.slice p.bufs.a p.bufs.l.length p.bufs.c,.slice p.ports.a p.ports.l.length p.ports.c,.slice p.procs.a p.procs.l.length p.procs.c]∧a'={tmps:= #[.pointer (some ⟨g,0,none⟩),undef,.pointer (some ⟨w.heap.size,0,none⟩),undef,.pointer (some ⟨Bp,0,none⟩),undef,undef,.pointer (some ⟨g,0,none⟩),.func (.func 152) #[] #[.pointer (some ⟨w.heap.size+1,0,none⟩)],m.val,p.val,undef,undef,undef,undef,undef,undef,undef,undef,undef,undef,undef,undef,undef],defers:= []}) ?hAx ?assign ?body ?done ?ret
 case hI=>exact fun T W W' h hb=>⟨h.1.trans hb,h.2⟩
 case hIE=>exact fun T W W' h hb=>⟨Blk.below h.1 hb (by omega),h.2.1.trans (hb.mono (by omega)),h.2.2⟩
 case hI0=>exact⟨Below.refl _ _,rfl⟩
 case hAx=>
  rintro y l a' W o o' hl ho hc ⟨m,p,Bp,e,h2,h4,h5⟩;exact⟨m,p,Bp,e,h2,blk_put h4 ho hc,h5⟩
 case assign=>
  rintro l T ⟨m,p⟩ W K hT hsz hK;gi_wp2;exact hK _ _ ((Below.refl _ W).alloc (Nat.le_refl _) _) ⟨m,p,W.heap.size,rfl,by omega,Blk.new W _ _,rfl⟩
 case body=>
  rintro l T y a' W hT hsz hG ⟨hbw,hall⟩ ⟨m,p,Bp,rfl,h2,hbp,rfl⟩;have hmem:=mem_pre hT;have hip:=Hi.out _ hmem;dsimp only at hip;have hrd:=(rd_part ((Hck.out.gr (X:=fun _=>False) (fun _ h=>h.elim) hG).r) hmem).2;have hBr:=(Hck.out.gr (X:=fun _=>False) (fun _ h=>h.elim) hG).B;have hrd:p.rd W W.heap.size:=hrd.more hBr;have p9:=hbp.cell 9;have hlp:=hbp.lt;have hr0W:=Hr0.out.below hbw (by omega);have hT1:∀b,codeB (m,p)=b→AllB codeB (T++ [(m,p)]) b:=fun b hb=>by unfold AllB at *;rw[all_snoc,hall,hb];rfl
  have hbad:∀W2,Below W.heap.size W W2→codeB (m,p)=false→(Gr (fun k=>k=w.heap.size) W (W2.setCell ⟨w.heap.size,0,none⟩ (.bool false))∧Blk (W2.setCell ⟨w.heap.size,0,none⟩ (.bool false)) w.heap.size 4 #[.bool false]∧Below w.heap.size w (W2.setCell ⟨w.heap.size,0,none⟩ (.bool false))∧AllB codeB (T++ [(m,p)]) false)∧W2.cell? ⟨w.heap.size,0,none⟩=some (.bool false)∧W2.frozen? ⟨w.heap.size,0,none⟩=false:=fun W2 h2 hb=>
   ⟨⟨(Gr.of_below h2).trans (Gr.setCell W2 ⟨w.heap.size,0,none⟩ _ rfl),by simpa using(hr0W.below h2 hr0W.lt).set_ 0 (.bool false),(Hb1.out.trans ((hbw.trans (h2.mono hbw.size)).mono Hb1.out.size)).setCell (p:=⟨w.heap.size,0,none⟩) (Nat.le_refl _) _,hT1 _ hb⟩,(hr0W.below h2 hr0W.lt).cell 0,(hr0W.below h2 hr0W.lt).frozen 0⟩
  have hcb:codeB (m,p)=p.procs.l.all fun q=>q.code.l.all fun z=>insOkB p q.code.l.length z:=rfl
  have hpl:(p.procs.l.length:Int)≤9223372036854775807:=by
   have:=Nat.le_trans hrd.procs1 (Nat.le_trans hrd.procs2 (show maxLen≤9223372036854775807 by decide));omega
  have HT1:=lz hT1;have Hbad:=lz hbad;have Hbw:=lz hbw;have Hbp:=lz hbp;have Hrd:=lz hrd;have Hip:=lz hip;have Hcb:=lz hcb;have HLW:=lz (HL.out.below hbw);clear hT1 hbad hbw hr0W hrd hmem hbp hG hall hT hip hcb hBr;gi_wp2;gi_loopw [14] (fun t wr=>∃k:Nat,k≤p.procs.l.length∧t= .int .i64 k∧Hid ((p.procs.l.take k).all (fun q=>q.code.l.all fun z=>insOkB p q.code.l.length z)=true)∧Hid (Below W.heap.size W wr)) (fun t wr=>p.procs.l.length-(intOf t).toNat)
  case atStart=>exact⟨0,Nat.zero_le _,rfl,lz rfl,lz (Below.refl _ _)⟩
  case round=>
   clear p9;obtain⟨k,hk,rfl,HA,HW⟩:=hrel;have hszw:=HW.out.size;by_cases hlt:k<p.procs.l.length
   ·obtain⟨b',o,hA,hbb,hcc⟩:=(Hrd.out.below HW.out).procs (by omega)
    obtain⟨d0,d1,d2,d3,d4,hqrd⟩:=hcc k hlt;have hnx:=fun(h:(p.procs.l[k].code.l.all fun z=>insOkB p p.procs.l[k].code.l.length z)=true)=>all_take_next hlt HA.out h
    have hno:=fun(h:(p.procs.l[k].code.l.all fun z=>insOkB p p.procs.l[k].code.l.length z)=false)=>all_false_at (p:=fun q:ProcV=>q.code.l.all fun z=>insOkB p q.code.l.length z) hlt h
    have hik:=Hip.out _ (List.getElem_mem hlt);generalize p.procs.l[k]=q at *;obtain⟨W5,hW5⟩:∃W5,W5=wr.alloc (.cells #[.string q.nm,.int .i64 q.pr,.int .i64 q.pe,.int .i64 q.li,.slice q.code.a q.code.l.length q.code.c] 80):=⟨_,rfl⟩;have hB5:Below wr.heap.size wr W5:=by rw[hW5];exact(Below.refl _ _).alloc (Nat.le_refl _) _
    have hbq:Blk W5 wr.heap.size 80 #[.string q.nm,.int .i64 q.pr,.int .i64 q.pe,.int .i64 q.li,.slice q.code.a q.code.l.length q.code.c]:=by rw[hW5];exact Blk.new wr _ _
    have hBW5:Below W.heap.size W W5:=HW.out.trans (hB5.mono hszw);have hbp5:=Hbp.out.below hBW5 hlp;have hp5:p.rd W5 W5.heap.size:=Hrd.out.below hBW5;have hL5:=HLW.out.below hBW5;have hcall:=call_Ins 82 #[.pointer (some ⟨Bp,0,none⟩),.pointer (some ⟨wr.heap.size,0,none⟩)] (fun z=>insOkB p q.code.l.length z) (enters_of Tryz.func82 kz rfl) q.code.l q.code.a q.code.c W5 (fun W' r hx hW' hrd'=>by simpa using codesF_c p q r Bp wr.heap.size W' (hL5.below hW') hrd' (hp5.below hW') (hbp5.below hW' hbp5.lt) (hbq.below hW' hbq.lt) (hik r hx)) (hqrd.below hB5).code (Nat.le_trans hqrd.code1 (Nat.le_trans hqrd.code2 (by decide)));have q4:=hbq.cell 4;rw[hW5]at q4;rw[hW5]at hcall;obtain⟨bq,hbe⟩:∃bq,bq=q.code.l.all (fun z=>insOkB p q.code.l.length z):=⟨_,rfl⟩;rw[←hbe]at hcall hnx hno;have Hcall:=lz hcall;have Hnx:=lz hnx;have Hno:=lz hno;have HW5:=lz hW5;have HBW5:=lz hBW5;clear hcall hnx hno hcc hqrd hik hB5 hbq hbp5 hp5 hL5 hbe hW5 hBW5;rw[hA]at *;gi_wp2;refine round_call Hcall.out ?_;rintro e W2 ⟨rfl,hb2⟩;rw[←HW5.out]at hb2;have HB2:=lz (HBW5.out.trans (hb2.mono HBW5.out.size));clear hb2 Hcall d0 d1 d2 d3 d4 q4
    cases bq with
    | false=>
     have hb:=Hbad.out W2 HB2.out (by rw[Hcb.out];exact Hno.out rfl);have r0:=hb.2.1;have f0:=hb.2.2;have HBB:=lz hb.1;clear hb;gi_wp2;exact HBB.out
    | true=>
     have hn:=lz (Hnx.out rfl);gi_wp2;go_roundw
     case rel=>exact⟨k+1,by omega,by go_num,hn,HB2⟩
     case measure=>simp[intOf];omega
   ·obtain rfl:k=p.procs.l.length:=by omega
    have ha:=HA.out;rw[List.take_length]at ha;gi_wp2;exact⟨Gr.of_below HW.out,Hbw.out.trans (HW.out.mono Hbw.out.size),HT1.out _ (by rw[Hcb.out];exact ha)⟩
 case done=>
  rintro D W hD hs ⟨hW,hall⟩ hk;have HF:=lz (show codesP x=true from hall);have hDlt:D<W.heap.size:=(Array.getElem?_eq_some_iff.1 hk).1;have d0:=(Hr0.out.below hW (by omega)).cell 0;have f0:W.frozen? ⟨w.heap.size,0,none⟩=false:=(Hr0.out.below hW (by omega)).frozen 0;have Hb0:=lz (Hr0.out.below hW (by omega));have HB:=lz (Hb1.out.trans (hW.mono Hb1.out.size));have Hk:=lz hk;clear hW hk hall;go_wp2_with fail;have hz0:Blk (W.setCell ⟨w.heap.size,0,none⟩ (.bool true)) w.heap.size 4 #[.bool true]:=by simpa using Hb0.out.set_ 0 (.bool true)
  have Hz0:=lz hz0;clear hz0;refine leaves_marks [D] (W.setCell ⟨w.heap.size,0,none⟩ (.bool true)) (w.heap.size+1) (by simp) (fun E hE=>by simp at hE;subst hE;exact⟨by omega,(Below.heap_setCell W ⟨w.heap.size,0,none⟩ _ E (by simp;omega)).trans Hk.out⟩) fun W' hSh=> ?_
  have z0:=(Hz0.out.below hSh.below (by omega)).cell 0;exact⟨.bool true,by simp[results,Tryz.f27,go_sem,z0],by rw[HF.out],(HB.out.setCell (p:=⟨w.heap.size,0,none⟩) (Nat.le_refl _) _).trans (hSh.below.mono (by omega))⟩
 case ret=>
  rintro D T W3 hD hs hT ⟨h1,h2,h3⟩ hk;have HF:=lz (show codesP x=false from not_all_pre hT h3);have hDlt:D<W3.heap.size:=(Array.getElem?_eq_some_iff.1 hk).1;refine leaves_marks [D] W3 D (by simp) (fun E hE=>by simp at hE;subst hE;exact⟨Nat.le_refl _,hk⟩) fun W' hSh=> ?_
  have z0:=(Blk.below h1 hSh.below (by omega)).cell 0;exact⟨.bool false,by simp[results,Tryz.f27,go_sem,z0],by rw[HF.out],h2.trans (hSh.below.mono (by omega))⟩
end Go.Proofs.YtchfcgilpjkmhaaGreatDoor
