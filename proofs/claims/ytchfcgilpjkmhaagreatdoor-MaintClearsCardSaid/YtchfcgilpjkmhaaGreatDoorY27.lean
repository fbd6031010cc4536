import Derived.Test.YtchfcgilpjkmhaaGreatDoorY24
import Derived.Test.YtchfcgilpjkmhaaGreatDoorY26
import Derived.Test.YtchfcgilpjkmhaaGreatDoorY0
set_option maxRecDepth 100000
set_option linter.unusedSimpArgs false
set_option linter.unusedVariables false
set_option linter.unusedSectionVars false
namespace Go.Proofs.YtchfcgilpjkmhaaGreatDoor
open Go.ChangeShapes Go.WideShapes Go.ChangeAt Go.RowKit
attribute [local go_sem] Oper.semAt_some
structure NmOk(x:CfgV):Prop where
 m:∀m∈x.mods.l,m.nm.size≤maxLen∧m.parts.l.length≤100000
 p:∀y∈partsV x,y.2.nm.size≤maxLen∧y.2.ports.l.length≤100000∧y.2.procs.l.length≤100000∧(∀q∈y.2.ports.l,q.nm.size≤maxLen)∧∀q∈y.2.procs.l,q.nm.size≤maxLen
 s:∀s∈x.sws.l,s.nm.size≤maxLen
 v:∀s∈x.vls.l,s.nm.size≤maxLen
 ml:x.mods.l.length≤100000
 sl:x.sws.l.length≤100000
 vl:x.vls.l.length≤100000
theorem parts_mem{x:CfgV}{m:ModV}{p:PartV}(h:(m,p)∈partsV x):m∈x.mods.l∧p∈m.parts.l:=by
 unfold partsV at h;obtain⟨m',hm,hy⟩:=List.mem_flatMap.1 h;obtain⟨p',hp,e⟩:=List.mem_map.1 hy;injection e with e1 e2
 subst e1 e2;exact⟨hm,hp⟩
theorem mem_parts{x:CfgV}{m:ModV}{p:PartV}(hm:m∈x.mods.l)(hp:p∈m.parts.l):(m,p)∈partsV x:=
 List.mem_flatMap.2 ⟨m,hm,List.mem_map.2 ⟨p,hp,rfl⟩⟩
def nodeFree(x:CfgV)(y:ModV):Bool:=decide (idxI (fun s:SwV=>seqB s.nm y.nm) x.sws.l<0)
def nmB(y:MpV):Bool:=distB (y.1.parts.l.map (·.nm))&&(distB (y.2.ports.l.map (·.nm))&&distB (y.2.procs.l.map (·.nm)))
def namesP(x:CfgV):Bool:=(partsV x).all nmB&&(distB (x.mods.l.map (·.nm))&&distB (x.sws.l.map (·.nm))&&x.mods.l.all (nodeFree x)&&distB (x.vls.l.map (·.nm)))
theorem nodeF_c(x:CfgV)(y:ModV)(g Bc:Nat)(w:World)(hb:Blk w Bc 104 #[.pointer (some ⟨g,0,none⟩)])(h:CkG w g x)(hr:x.rd w w.heap.size)(hsl:x.sws.l.length≤100000):
 CU 72 #[y.val,.pointer (some ⟨Bc,0,none⟩)] w (.bool (nodeFree x y)):=by
 obtain⟨y0,hy0⟩:∃y0,y0=w.alloc (.cells #[.string y.nm,.int .i64 y.mem,.int .i64 y.fr,.slice y.parts.a y.parts.l.length y.parts.c] 70):=⟨_,rfl⟩;have hB0:Below w.heap.size w y0:=by rw[hy0];exact(Below.refl _ _).alloc (Nat.le_refl _) _
 have hb0:Blk y0 w.heap.size 70 #[.string y.nm,.int .i64 y.mem,.int .i64 y.fr,.slice y.parts.a y.parts.l.length y.parts.c]:=by rw[hy0];exact Blk.new w _ _
 have hg0:=h.below hB0;have hbc:=hb.below hB0 hb.lt;have d0:=hb0.cell 0;have c0:=hbc.cell 0;have k2:=hg0.cell 2;have hl0:=hb0.lt;have hl1:=hbc.lt;have hl2:=Blk.lt hg0;have hec:=ext_cell y0;have hr0:=hr.below hB0;have hcall:∀z:Ext y0,CU 73 #[.slice x.sws.a x.sws.l.length x.sws.c,.func (.func 74) #[] #[],.string y.nm] z.w (.int .i64 (idxI (fun s:SwV=>seqB s.nm y.nm) x.sws.l)):=fun z=>
  named_Switch y.nm x.sws.l x.sws.a x.sws.c z.w (hr0.sws.below z.h) (by omega)
 obtain⟨n,hn⟩:∃n,n=idxI (fun s:SwV=>seqB s.nm y.nm) x.sws.l:=⟨_,rfl⟩;rw[←hn]at hcall;have HN:=lz (show nodeFree x y=decide (n<0)by rw[hn];rfl);have Hcall:=lz hcall;have HB0:=lz hB0;have Hy0:=lz hy0;clear hcall hB0 hy0 hb0 hbc hg0 hr0 hr h hb hn;go_enter Tryz.func72,Tryz.ntmps72;go_wp2_with fail;rw[←Hy0.out];refine wp_region_ext kz kz ?_;repeat (go_big_quiet_step ((go_at_call 73;with_reducible exact ext_call (Hcall.out _))))
 refine wpQuiet_nil ?_;intro _ hw';obtain⟨xx,hw''⟩:=hw';subst hw'';have HB2:=lz (HB0.out.trans (xx.h.mono HB0.out.size));clear hec Hcall d0 c0 k2;generalize xx.w=w2 at *;go_wp2_with fail;go_ret;exact⟨by rw[HN.out]<;>rfl,HB2.out⟩
set_option maxHeartbeats 4000000 in
theorem names_g(x:CfgV)(g:Nat)(w:World)(h:CkG w g x)(hr:x.rd w w.heap.size)(hn:NmOk x):CU 25 #[.pointer (some ⟨g,0,none⟩)] w (.bool (namesP x)):=by
 obtain⟨w1,hw1⟩:∃w1,w1=(((w.alloc (.cells #[.pointer (some ⟨g,0,none⟩)] 104)).alloc (.cells #[.bool false] 4)).alloc (.cells #[.pointer (some ⟨g,0,none⟩)] 104)):=⟨_,rfl⟩;have hb1:Below w.heap.size w w1:=by rw[hw1];exact(((Below.refl _ w).alloc (Nat.le_refl _) _).alloc (by simp) _).alloc (by simp;omega) _
 have hbc:Blk w1 w.heap.size 104 #[.pointer (some ⟨g,0,none⟩)]:=by rw[hw1];exact((Blk.new w _ _).alloc _).alloc _
 have hr0:Blk w1 (w.heap.size+1) 4 #[.bool false]:=by rw[hw1];have:=Blk.new (w.alloc (.cells #[.pointer (some ⟨g,0,none⟩)] 104)) 4 #[.bool false];rw[World.size_alloc]at this;exact this.alloc _
 have hbx:Blk w1 (w.heap.size+1+1) 104 #[.pointer (some ⟨g,0,none⟩)]:=by rw[hw1];have:=Blk.new ((w.alloc (.cells #[.pointer (some ⟨g,0,none⟩)] 104)).alloc (.cells #[.bool false] 4)) 104 #[.pointer (some ⟨g,0,none⟩)];simp only[World.size_alloc]at this;exact this
 have hz:w1.heap.size=w.heap.size+3:=by rw[hw1];simp
 have hck:CkRd w1 g (w.heap.size+1+1) w.heap.size x:=⟨hbx,h.below hb1,hr.to_ (Nat.le_refl _) (bcell hb1),by omega⟩;have hml:x.mods.l.length≤9223372036854775807:=Nat.le_trans hr.mods1 (Nat.le_trans hr.mods2 (by decide));have Hseq:=lz (parts_g x g (w.heap.size+1+1) w.heap.size (fun _=>False) w1 (fun _ h=>h.elim) (fun _ h=>h.elim) hck hml);have hgl:=Blk.lt h;have Hck:=lz hck;have Hw1:=lz hw1;have Hb1:=lz hb1;have Hbc:=lz hbc;have Hr0:=lz hr0;have Hz:=lz hz;have Hn:=lz hn;have c00:((w.alloc (.cells #[.pointer (some ⟨g,0,none⟩)] 104)).alloc (.cells #[.bool false] 4)).cell? ⟨w.heap.size,0,none⟩=some (.pointer (some ⟨g,0,none⟩)):=((Blk.new w 104 #[.pointer (some ⟨g,0,none⟩)]).alloc _).cell 0;clear h hr hw1 hb1 hr0 hbx hz hck hn hbc;refine(callsIn_wide (n:=9)).1 ?_;refine callsIn_of_wp_marks Tryz.func25 rfl trivial ?_ rfl;simp only[Tryz.ntmps25,List.size_toArray,List.length_cons,List.length_nil,Nat.reduceAdd,Nat.reduceSub,Array.replicate_succ,Array.replicate_zero,List.push_toArray,List.append_toArray,List.nil_append,List.cons_append];refine wpIn_wide.2 ?_;go_wp2_with (go_at_call 65;refine(parts96 _ _).mono ?_;rintro e w' ⟨rfl,hw'⟩);rw[←Hw1.out];clear hw' c00;refine(wpIn_wide (n:=9)).1 ?_;have hz1:w.heap.size+3≤w1.heap.size:=Nat.le_of_eq Hz.out.symm;have hz1b:w1.heap.size≤w.heap.size+3:=Nat.le_of_eq Hz.out;refine range_s (gf:=152) (lb:= #[.pointer (some ⟨w.heap.size+1+1,0,none⟩)]) (encs:=mpEnc) (xs:=partsV x) (X:=fun _=>False) (XE:=fun k=>k=w.heap.size+1) rfl (enters_of Tryz.func152 kz rfl) (fun _=>rfl) (fun _ h=>h.elim) (fun k e=>by omega) Hseq.out
  (fun T W=>Below w1.heap.size w1 W∧AllB nmB T true)
  (fun T W=>Blk W (w.heap.size+1) 4 #[.bool false]∧Below w.heap.size w W∧AllB nmB T false) ?hI ?hIE ?hI0
  (fun y a' W=>∃Bm Bp,w1.heap.size≤Bm∧w1.heap.size≤Bp∧Blk W Bm 70 #[.string y.1.nm,.int .i64 y.1.mem,.int .i64 y.1.fr,.slice y.1.parts.a y.1.parts.l.length y.1.parts.c]∧Blk W Bp 75 #[.string y.2.nm,.int .i64 y.2.pe,.int .i64 y.2.le,.int .i64 y.2.mem,.slice y.2.semas.a y.2.semas.l.length y.2.semas.c,.int .i64 y.2.ev,.int .i64 y.2.bo,.slice y.2.bufs.a y.2.bufs.l.length y.2.bufs.c,.slice y.2.ports.a y.2.ports.l.length y.2.ports.c,.slice y.2.procs.a y.2.procs.l.length y.2.procs.c]∧a'={tmps:= #[.pointer (some ⟨g,0,none⟩),.pointer (some ⟨w.heap.size,0,none⟩),.pointer (some ⟨w.heap.size+1,0,none⟩),.pointer (some ⟨Bm,0,none⟩),.pointer (some ⟨Bp,0,none⟩),undef,.pointer (some ⟨g,0,none⟩),.func (.func 152) #[] #[.pointer (some ⟨w.heap.size+1+1,0,none⟩)],y.1.val,y.2.val,undef,undef,undef,undef,undef,undef,undef,undef,undef,undef,undef,undef,undef,undef,undef,undef,undef,undef,undef,undef,undef,undef,undef,undef,undef,undef,undef,undef,undef,undef,undef,undef,undef,undef,undef,undef,undef,undef,undef,undef,undef,undef,undef,undef,undef,undef,undef,undef],defers:= []}) ?hAx ?assign ?body ?done ?ret
 case hI=>exact fun T W W' h hb=>⟨h.1.trans hb,h.2⟩
 case hIE=>exact fun T W W' h hb=>⟨Blk.below h.1 hb (by omega),h.2.1.trans (hb.mono (by omega)),h.2.2⟩
 case hI0=>exact⟨Below.refl _ _,rfl⟩
 case hAx=>
  rintro y l a' W o o' hl ho hc ⟨Bm,Bp,h1,h2,h3,h4,h5⟩;exact⟨Bm,Bp,h1,h2,blk_put h3 ho hc,blk_put h4 ho hc,h5⟩
 case assign=>
  rintro l T ⟨m,p⟩ W K hT hsz hK;gi_wp2;refine hK _ _ (((Below.refl _ W).alloc (Nat.le_refl _) _).alloc (by simp) _) ⟨W.heap.size,W.heap.size+1,?_,?_,(Blk.new W _ _).alloc _,?_,rfl⟩
  ·omega
  ·omega
  ·have:=Blk.new (W.alloc (.cells #[.string m.nm,.int .i64 m.mem,.int .i64 m.fr,.slice m.parts.a m.parts.l.length m.parts.c] 70)) 75 #[.string p.nm,.int .i64 p.pe,.int .i64 p.le,.int .i64 p.mem,.slice p.semas.a p.semas.l.length p.semas.c,.int .i64 p.ev,.int .i64 p.bo,.slice p.bufs.a p.bufs.l.length p.bufs.c,.slice p.ports.a p.ports.l.length p.ports.c,.slice p.procs.a p.procs.l.length p.procs.c]
   rwa[World.size_alloc]at this
 case body=>
  rintro l T ⟨m,p⟩ a' W hT hsz hG ⟨hbw,hall⟩ ⟨Bm,Bp,h1,h2,hbm,hbp,rfl⟩;dsimp only at hbm hbp;have hmem:=mem_pre hT;have hnp:=Hn.out.p _ hmem;have hnm:=Hn.out.m _ (parts_mem hmem).1;have hnpp:∀q∈m.parts.l,q.nm.size≤maxLen:=fun q hq=>(Hn.out.p _ (mem_parts (parts_mem hmem).1 hq)).1
  have hckW:=Hck.out.gr (X:=fun _=>False) (fun _ h=>h.elim) hG;have hrd:=rd_part hckW.r hmem;have hrm:m.rd W W.heap.size:=hrd.1.more hckW.B;have hrp:p.rd W W.heap.size:=hrd.2.more hckW.B;have hr0W:=Hr0.out.below hbw (by omega);have r0:=hr0W.cell 0;have f0:=hr0W.frozen 0;have m3:=hbm.cell 3;have hlm:=hbm.lt;have hlp:=hbp.lt;have hc1:=distinct_Part m.parts.l m.parts.a m.parts.c W.heap.size W hrm.parts (Nat.le_refl _) (by have:=hnm.2;omega) hnpp;have hc2:=fun W2 (hW2:Below W.heap.size W W2)=>distinct_Port p.ports.l p.ports.a p.ports.c W2.heap.size W2 (hrp.below hW2).ports (Nat.le_refl _) hnp.2.1 hnp.2.2.2.1
  have hc3:=fun W2 (hW2:Below W.heap.size W W2)=>distinct_Proc p.procs.l p.procs.a p.procs.c W2.heap.size W2 (hrp.below hW2).procs (Nat.le_refl _) hnp.2.2.1 hnp.2.2.2.2
  have hcp:∀W2,Below W.heap.size W W2→W2.cell? ⟨Bp,8,none⟩=some (.slice p.ports.a p.ports.l.length p.ports.c)∧W2.cell? ⟨Bp,9,none⟩=some (.slice p.procs.a p.procs.l.length p.procs.c):=fun W2 hW2=>⟨(hbp.below hW2 hbp.lt).cell 8,(hbp.below hW2 hbp.lt).cell 9⟩
  have hT1:∀b,nmB (m,p)=b→AllB nmB (T++ [(m,p)]) b:=fun b hb=>by unfold AllB at *;rw[all_snoc,hall,hb];rfl
  have htb:nmB (m,p)=(distB (m.parts.l.map (·.nm))&&(distB (p.ports.l.map (·.nm))&&distB (p.procs.l.map (·.nm)))):=rfl;obtain⟨q1,hq1⟩:∃q,q=distB (m.parts.l.map (·.nm)):=⟨_,rfl⟩;obtain⟨q2,hq2⟩:∃q,q=distB (p.ports.l.map (·.nm)):=⟨_,rfl⟩;obtain⟨q3,hq3⟩:∃q,q=distB (p.procs.l.map (·.nm)):=⟨_,rfl⟩;rw[←hq1]at hc1 htb;rw[←hq2]at htb;rw[←hq3]at htb;simp only[←hq2]at hc2;simp only[←hq3]at hc3;have hbad:∀W2,Below W.heap.size W W2→nmB (m,p)=false→(Gr (fun k=>k=w.heap.size+1) W (W2.setCell ⟨w.heap.size+1,0,none⟩ (.bool false))∧Blk (W2.setCell ⟨w.heap.size+1,0,none⟩ (.bool false)) (w.heap.size+1) 4 #[.bool false]∧Below w.heap.size w (W2.setCell ⟨w.heap.size+1,0,none⟩ (.bool false))∧AllB nmB (T++ [(m,p)]) false)∧W2.cell? ⟨w.heap.size+1,0,none⟩=some (.bool false)∧W2.frozen? ⟨w.heap.size+1,0,none⟩=false:=fun W2 h2 hb=>
   ⟨⟨(Gr.of_below h2).trans (Gr.setCell W2 ⟨w.heap.size+1,0,none⟩ _ rfl),by simpa using(hr0W.below h2 hr0W.lt).set_ 0 (.bool false),(Hb1.out.trans ((hbw.trans (h2.mono hbw.size)).mono Hb1.out.size)).setCell (p:=⟨w.heap.size+1,0,none⟩) (by show w.heap.size≤w.heap.size+1;omega) _,hT1 _ hb⟩,(hr0W.below h2 hr0W.lt).cell 0,(hr0W.below h2 hr0W.lt).frozen 0⟩
  have H1:=lz hc1;have H2:=lz hc2;have H3:=lz hc3;have Hcp:=lz hcp;have Htb:=lz htb;have HT1:=lz hT1;have Hbad:=lz hbad;have Hbw:=lz hbw;clear hc1 hc2 hc3 hcp htb hq1 hq2 hq3 hT1 hbad hbw hr0W hrd hrm hrp hckW hmem hbm hbp hG hall hT hnp hnm hnpp;gi_wp2;refine round_call H1.out ?_;rintro e W2 ⟨rfl,hb2⟩;have HB2:=lz hb2;have H2':=lz (H2.out W2 hb2);clear r0 f0 m3 hb2 H1 H2
  cases q1 with
  | false=>
   have hbb:=Hbad.out W2 HB2.out (by rw[Htb.out];rfl);have r0:=hbb.2.1;have f0:=hbb.2.2;have HBB:=lz hbb.1;clear hbb;gi_wp2;refine⟨trivial,?_⟩;gi_wp2;refine⟨trivial,?_⟩;gi_wp2;exact HBB.out
  | true=>
   have p8:=(Hcp.out W2 HB2.out).1;gi_wp2;refine round_call H2'.out ?_;rintro e W3 ⟨rfl,hb3⟩;have HB3:=lz (HB2.out.trans (hb3.mono HB2.out.size));have H3':=lz (H3.out W3 HB3.out);clear p8 hb3 H2' H3
   cases q2 with
   | false=>
    have hbb:=Hbad.out W3 HB3.out (by rw[Htb.out];rfl);have r0:=hbb.2.1;have f0:=hbb.2.2;have HBB:=lz hbb.1;clear hbb;gi_wp2;refine⟨trivial,?_⟩;gi_wp2;exact HBB.out
   | true=>
    have p9:=(Hcp.out W3 HB3.out).2;gi_wp2;refine round_call H3'.out ?_;rintro e W4 ⟨rfl,hb4⟩;have HB4:=lz (HB3.out.trans (hb4.mono HB3.out.size));clear p9 hb4 H3'
    cases q3 with
    | false=>
     have hbb:=Hbad.out W4 HB4.out (by rw[Htb.out];rfl);have r0:=hbb.2.1;have f0:=hbb.2.2;have HBB:=lz hbb.1;clear hbb;gi_wp2;exact HBB.out
    | true=>
     gi_wp2;exact⟨Gr.of_below HB4.out,Hbw.out.trans (HB4.out.mono Hbw.out.size),HT1.out _ (by rw[Htb.out];rfl)⟩
 case ret=>
  rintro D T W3 hD hs hT ⟨h1,h2,h3⟩ hk;have HF:=lz (show namesP x=false by unfold namesP;rw[not_all_pre hT h3];rfl);have hDlt:D<W3.heap.size:=(Array.getElem?_eq_some_iff.1 hk).1;refine leaves_marks [D] W3 D (by simp) (fun E hE=>by simp at hE;subst hE;exact⟨Nat.le_refl _,hk⟩) fun W' hSh=> ?_
  have z0:=(Blk.below h1 hSh.below (by omega)).cell 0;exact⟨.bool false,by simp[results,Tryz.f25,go_sem,z0],by rw[HF.out],h2.trans (hSh.below.mono (by omega))⟩
 case done=>
  rintro D W hD hs ⟨hW,hall⟩ hk;have HF:=lz (show namesP x=(distB (x.mods.l.map (·.nm))&&distB (x.sws.l.map (·.nm))&&x.mods.l.all (nodeFree x)&&distB (x.vls.l.map (·.nm)))by unfold namesP;rw[show(partsV x).all nmB=true from hall];rfl);have facts:∀W2,Below w1.heap.size w1 W2→CkG W2 g x∧x.rd W2 W2.heap.size∧Blk W2 w.heap.size 104 #[.pointer (some ⟨g,0,none⟩)]:=fun W2 h2=>⟨Hck.out.g.below h2,(Hck.out.r.more Hck.out.B).below h2,Hbc.out.below h2 Hbc.out.lt⟩
  have HfW:=lz facts;have hkD:∀W2,Below W.heap.size W W2→W2.heap[D]?=some (.deferred (some [])):=fun W2 h2=>(h2.block D (Array.getElem?_eq_some_iff.1 hk).1).trans hk
  have HkD:=lz hkD;have HW:=lz hW;have HX:=lz (Below.refl W.heap.size W);have HR0:=lz (fun W2 (h2:Below w1.heap.size w1 W2)=>Hr0.out.below h2 (by omega));clear hall facts hkD hk hW;have hgg:=HfW.out _ HW.out;have c0:=hgg.2.2.cell 0;have k0:=hgg.1.cell 0;have hc:=distinct_Module x.mods.l x.mods.a x.mods.c W.heap.size W (HfW.out _ HW.out).2.1.mods (Nat.le_refl _) Hn.out.ml (fun m hm=>(Hn.out.m m hm).1);obtain⟨q0,hq0⟩:∃q,q=distB (x.mods.l.map (·.nm)):=⟨_,rfl⟩;rw[←hq0]at hc HF;have Hc:=lz hc;clear hc hq0 hgg;go_wp2_with fail;refine Hc.out.mono ?_;rintro e Y0 ⟨rfl,hb⟩;have HX0:=lz (HX.out.trans (hb.mono HX.out.size));have HW0:=lz (HW.out.trans (hb.mono HW.out.size));clear c0 k0 hb Hc
  cases q0 with
  | false=>
   have r0:Y0.cell? ⟨w.heap.size+1,0,none⟩=some (.bool false):=(HR0.out _ HW0.out).cell 0;have f0:Y0.frozen? ⟨w.heap.size+1,0,none⟩=false:=(HR0.out _ HW0.out).frozen 0;go_wp2_with fail;refine fin1 D (w.heap.size+1) w.heap.size false false w Y0 ?_ ?_ (by omega) ?_ (by omega) (fun W' z0=>by simp[results,Tryz.f25,go_sem,z0]) (fun W' hB=>⟨by rw[HF.out]<;>rfl,hB⟩)
   ·exact HR0.out _ HW0.out
   ·exact HkD.out _ HX0.out
   ·exact Hb1.out.trans ((HW0.out).mono Hb1.out.size)
  | true=>
   have hgg:=HfW.out _ HW0.out;have c0:=hgg.2.2.cell 0;have k2:=hgg.1.cell 2;have hc:=distinct_Switch x.sws.l x.sws.a x.sws.c Y0.heap.size Y0 (HfW.out _ HW0.out).2.1.sws (Nat.le_refl _) Hn.out.sl Hn.out.s;obtain⟨q1,hq1⟩:∃q,q=distB (x.sws.l.map (·.nm)):=⟨_,rfl⟩;rw[←hq1]at hc HF;have Hc:=lz hc;clear hc hq1 hgg;go_wp2_with fail;refine Hc.out.mono ?_;rintro e Y1 ⟨rfl,hb⟩;have HX1:=lz (HX0.out.trans (hb.mono HX0.out.size));have HW1:=lz (HW0.out.trans (hb.mono HW0.out.size));clear c0 k2 hb Hc
   cases q1 with
   | false=>
    have r0:Y1.cell? ⟨w.heap.size+1,0,none⟩=some (.bool false):=(HR0.out _ HW1.out).cell 0;have f0:Y1.frozen? ⟨w.heap.size+1,0,none⟩=false:=(HR0.out _ HW1.out).frozen 0;go_wp2_with fail;refine fin1 D (w.heap.size+1) w.heap.size false false w Y1 ?_ ?_ (by omega) ?_ (by omega) (fun W' z0=>by simp[results,Tryz.f25,go_sem,z0]) (fun W' hB=>⟨by rw[HF.out]<;>rfl,hB⟩)
    ·exact HR0.out _ HW1.out
    ·exact HkD.out _ HX1.out
    ·exact Hb1.out.trans ((HW1.out).mono Hb1.out.size)
   | true=>
    have hgg:=HfW.out _ HW1.out;have c0:=hgg.2.2.cell 0;have k0:=hgg.1.cell 0;have hc:=call_Module 72 #[.pointer (some ⟨w.heap.size,0,none⟩)] (nodeFree x) (enters_of Tryz.func72 kz rfl) x.mods.l x.mods.a x.mods.c Y1 (fun W' r hx hW' hrd=>by simpa using nodeF_c x r g w.heap.size W' ((HfW.out _ (HW1.out.trans (hW'.mono HW1.out.size))).2.2) ((HfW.out _ (HW1.out.trans (hW'.mono HW1.out.size))).1) ((HfW.out _ (HW1.out.trans (hW'.mono HW1.out.size))).2.1) Hn.out.sl) (HfW.out _ HW1.out).2.1.mods (by have:=Hn.out.ml;omega);obtain⟨q2,hq2⟩:∃q,q=x.mods.l.all (nodeFree x):=⟨_,rfl⟩;rw[←hq2]at hc HF;have Hc:=lz hc;clear hc hq2 hgg;go_wp2_with fail;refine Hc.out.mono ?_;rintro e Y2 ⟨rfl,hb⟩;have HX2:=lz (HX1.out.trans (hb.mono HX1.out.size));have HW2:=lz (HW1.out.trans (hb.mono HW1.out.size));clear c0 k0 hb Hc
    cases q2 with
    | false=>
     have r0:Y2.cell? ⟨w.heap.size+1,0,none⟩=some (.bool false):=(HR0.out _ HW2.out).cell 0;have f0:Y2.frozen? ⟨w.heap.size+1,0,none⟩=false:=(HR0.out _ HW2.out).frozen 0;go_wp2_with fail;refine fin1 D (w.heap.size+1) w.heap.size false false w Y2 ?_ ?_ (by omega) ?_ (by omega) (fun W' z0=>by simp[results,Tryz.f25,go_sem,z0]) (fun W' hB=>⟨by rw[HF.out]<;>rfl,hB⟩)
     ·exact HR0.out _ HW2.out
     ·exact HkD.out _ HX2.out
     ·exact Hb1.out.trans ((HW2.out).mono Hb1.out.size)
    | true=>
     have hgg:=HfW.out _ HW2.out;have c0:=hgg.2.2.cell 0;have k4:=hgg.1.cell 4;have hc:=distinct_VL x.vls.l x.vls.a x.vls.c Y2.heap.size Y2 (HfW.out _ HW2.out).2.1.vls (Nat.le_refl _) Hn.out.vl Hn.out.v;obtain⟨q3,hq3⟩:∃q,q=distB (x.vls.l.map (·.nm)):=⟨_,rfl⟩;rw[←hq3]at hc HF;have Hc:=lz hc;clear hc hq3 hgg;go_wp2_with fail;refine Hc.out.mono ?_;rintro e Y3 ⟨rfl,hb⟩;have HX3:=lz (HX2.out.trans (hb.mono HX2.out.size));have HW3:=lz (HW2.out.trans (hb.mono HW2.out.size));clear c0 k4 hb Hc;have r0:Y3.cell? ⟨w.heap.size+1,0,none⟩=some (.bool false):=(HR0.out _ HW3.out).cell 0;have f0:Y3.frozen? ⟨w.heap.size+1,0,none⟩=false:=(HR0.out _ HW3.out).frozen 0;go_wp2_with fail;refine fin1 D (w.heap.size+1) w.heap.size q3 false w Y3 ?_ ?_ (by omega) ?_ (by omega) (fun W' z0=>by simp[results,Tryz.f25,go_sem,z0]) (fun W' hB=>⟨by rw[HF.out]<;>rfl,hB⟩)
     ·exact HR0.out _ HW3.out
     ·exact HkD.out _ HX3.out
     ·exact Hb1.out.trans ((HW3.out).mono Hb1.out.size)
end Go.Proofs.YtchfcgilpjkmhaaGreatDoor
