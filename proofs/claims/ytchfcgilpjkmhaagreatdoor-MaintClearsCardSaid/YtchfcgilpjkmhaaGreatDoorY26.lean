import Derived.RegionTactic
import Derived.Test.YtchfcgilpjkmhaaGreatDoorY23
import Derived.Test.YtchfcgilpjkmhaaGreatDoorY25
import Derived.Test.YtchfcgilpjkmhaaGreatDoorY17
import Derived.Test.YtchfcgilpjkmhaaGreatDoorY0
import Derived.Test.YtchfcgilpjkmhaaGreatDoorY1
set_option maxRecDepth 100000
set_option linter.unusedSimpArgs false
set_option linter.unusedVariables false
set_option linter.unusedSectionVars false
namespace Go.Proofs.YtchfcgilpjkmhaaGreatDoor
open Go.ChangeShapes Go.WideShapes Go.ChangeAt Go.RowKit
attribute [local go_sem] Oper.semAt_some
open Go.Act renaming put → zP
open List renaming setIfInBounds_toArray → zA, set_cons_zero → zB, set_cons_succ → zC
theorem memB_take{α:Type}[DecidableEq α](l:List α)(k:Nat)(hk:k<l.length):decide ((cntB l[k] (l.take (k+1)):Int)=1)= !memB l[k] (l.take k):=by
 rw[List.take_succ_eq_append_getElem hk,cnt_push,if_pos rfl];have h:=cnt_gt l[k] (l.take k)
 cases hm:memB l[k] (l.take k)with
 | true=>rw[hm]at h;have:=of_decide_eq_true h;exact decide_eq_false (by omega)
 | false=>rw[hm]at h;have:=of_decide_eq_false h;exact decide_eq_true (by omega)
def distB(l:List ByteArray):Bool:=(List.range l.length).all fun k=> !memB ((l[k]?).getD ⟨#[]⟩) (l.take k)
theorem pDistF{q:Prop}(z:q:=by
 obtain⟨y0,hy0⟩:∃y0,y0=w.alloc x.obj:=⟨_,rfl⟩;have hB0:Below w.heap.size w y0:=by rw[hy0];exact(Below.refl _ _).alloc (Nat.le_refl _) _
 have hb0:x.B y0 w.heap.size:=by rw[hy0];exact Blk.new w _ _
 have hml:=hc.lt;have nb:∀{b:Nat} {tt:TypeId} {cs:Array Value},Blk w b tt cs→¬b=mb:=fun h e=>by
  subst e;obtain⟨es,ck,ho⟩:=hc.obj;rw[show w.heap[_]?=_ from h]at ho;cases ho
 have facts:∀W l',Gr (· =mb) y0 W→CntMap KS W mb l'→x.S Bm Bo w.heap.size mb (cntB x.nm l') W:=fun W l' hW hcm=>x.S_of (hW.blk (hm.below hB0 hm.lt) (nb hm)) (hW.blk (ho.below hB0 ho.lt) (nb ho)) (hW.blk hb0 (by omega)) (hcm.run_look (M:=KS) hx)
 have hc0:CntMap KS y0 mb l:=hc.next hB0
 have hmm:maxLen=9223372036854775807:=rfl;have hcl:=cnt_le x.nm l;have hcl2:=cnt_le x.nm (l++ [x.nm]);have Hwr:Hid (IntKind.i64.wrap ((cntB x.nm l:Int)+1)=(cntB x.nm l:Int)+1):=lz (IntWalk.i64_in _ (by omega));have Hf:=lz facts;have HB0:=lz hB0;have Hy0:=lz hy0;have Hc0:=lz hc0;have Hnm:=lz hnm;have hmlt:=hm.lt;have holt:=ho.lt;have hblt:=hb0.lt;clear hm ho hc facts hB0 hy0 hb0 hcl hcl2 hnm nb hc0;go_wp2_with fail;rw[←Hy0.out];have hw:=Hwr.out;have hHeld:=Hf.out y0.drew l (Gr.of_below (Below.refl _ y0).drew) (CntMap.next Hc0.out (Below.refl _ y0).drew);refine wp_region_S (x.S Bm Bo w.heap.size mb (cntB x.nm l)) 6 kz hHeld (fun hHeld=> ?_);refine tkS 0 rfl hHeld (v:= ?_) ⟨by rfl,?_⟩ ?_;rotate_left
 ·exact tkY
 simp only[zP,zA,zB,zC];refine tkS 1 rfl hHeld (v:= ?_) ⟨by rfl,?_⟩ ?_;rotate_left
 ·exact tkY
 simp only[zP,zA,zB,zC];refine tkS 2 rfl hHeld (v:= ?_) ⟨by rfl,?_⟩ ?_;rotate_left
 ·exact tkY
 simp only[zP,zA,zB,zC];refine RQ 3 rfl fun K hK=> ?_;have hSw:=hHeld;first | exact tkP | skip
 go_simp;refine(Hnm.out _).mono ?_;rintro e w1 ⟨rfl,hb1⟩;have hb1:Below y0.heap.size y0 w1:=(Below.refl _ y0).drew.trans hb1;have hc1:=CntMap.next Hc0.out hb1
 have hHeld:=Hf.out w1 l (Gr.of_below hb1) hc1;obtain⟨w2,hup,hc2,hg2⟩:=hc1.run_store (by omega) (y:=x.nm) hx;have Hup:=lz (show(Instr.mapUpdate 113 (.map (some mb)) (.string x.nm) (.int .i64 ((cntB x.nm l:Int)+1))).run Tryz.prog w1= .ok () w2 from hup);have Hc2:=lz hc2;have Hg2:=lz (show Gr (· =mb) y0 w2 from(Gr.of_below hb1).trans (Gr.of_grown hg2 fun k e=>(Option.some.inj e).symm));refine hK.out _ _ (fun _=>hHeld) ?_;clear hK hb1 hc1 hup hc2 hg2 hSw;refine tkS 4 rfl hHeld (v:= ?_) ⟨by rfl,?_⟩ ?_;rotate_left
 ·exact tkY
 simp only[zP,zA,zB,zC];refine tkS 5 rfl hHeld (v:= ?_) ⟨by rfl,?_⟩ ?_;rotate_left
 ·exact tkY
 simp only[zP,zA,zB,zC];refine RQ 6 rfl fun K hK=> ?_;have hup:=Hup.out;go_simp;refine hK.out _ _ (fun h=>absurd h (by decide)) ?_;clear hK hup hHeld;refine wpAnyS_done kz ?_ _;have hHeld:=Hf.out w2.drew (l++ [x.nm]) (Hg2.out.trans (Gr.of_below (Below.refl _ w2).drew)) (CntMap.next Hc2.out (Below.refl _ w2).drew);go_wp2_with fail;refine wp_region_S (x.S Bm Bo w.heap.size mb (cntB x.nm (l++ [x.nm]))) 6 kz hHeld (fun hHeld=> ?_);refine tkS 0 rfl hHeld (v:= ?_) ⟨by rfl,?_⟩ ?_;rotate_left
 ·exact tkY
 simp only[zP,zA,zB,zC];refine tkS 1 rfl hHeld (v:= ?_) ⟨by rfl,?_⟩ ?_;rotate_left
 ·exact tkY
 simp only[zP,zA,zB,zC];refine tkS 2 rfl hHeld (v:= ?_) ⟨by rfl,?_⟩ ?_;rotate_left
 ·exact tkY
 simp only[zP,zA,zB,zC];refine RQ 3 rfl fun K hK=> ?_;go_simp;refine(Hnm.out _).mono ?_;rintro e w3 ⟨rfl,hb3⟩;have hb3:Below w2.heap.size w2 w3:=(Below.refl _ w2).drew.trans hb3;have hHeld:=Hf.out w3 (l++ [x.nm]) (Hg2.out.trans (Gr.of_below hb3)) (CntMap.next Hc2.out hb3);have Hb3:=lz hb3;refine hK.out _ _ (fun _=>hHeld) ?_;clear hK hb3;refine tkS 4 rfl hHeld (v:= ?_) ⟨by rfl,?_⟩ ?_;rotate_left
 ·exact tkY
 simp only[zP,zA,zB,zC];refine tkS 5 rfl hHeld (v:= ?_) ⟨by rfl,?_⟩ ?_;rotate_left
 ·exact tkY
 simp only[zP,zA,zB,zC];refine RQ 6 rfl fun K hK=> ?_;go_simp;refine hK.out _ _ (fun h=>absurd h (by decide)) ?_;clear hK hHeld;refine wpAnyS_done kz ?_ _;go_wp2_with fail;go_ret;exact⟨rfl,Hc2.out.next Hb3.out,(Gr.of_below HB0.out).trans (Hg2.out.trans (Gr.of_below Hb3.out))⟩):q:=z
abbrev ModV.B(x:ModV)(W:World)(g:Nat):Prop:=Blk W g 70 #[.string x.nm,.int .i64 x.mem,.int .i64 x.fr,.slice x.parts.a x.parts.l.length x.parts.c]
def ModV.S(x:ModV)(Bm Bo g mb:Nat)(k:Nat)(W:World):Prop:=W.cell? ⟨Bm,0,none⟩=some (.map (some mb))∧W.cell? ⟨Bo,0,none⟩=some (.func (.func 76) #[] #[])∧W.cell? ⟨g,0,none⟩=some (.string x.nm)∧W.cell? ⟨g,1,none⟩=some (.int .i64 x.mem)∧W.cell? ⟨g,2,none⟩=some (.int .i64 x.fr)∧W.cell? ⟨g,3,none⟩=some (.slice x.parts.a x.parts.l.length x.parts.c)∧(Instr.lookup 113 (.map (some mb)) (.string x.nm) false).run Tryz.prog W= .ok (.int .i64 k) W
theorem ModV.S_of(x:ModV){Bm Bo g mb k:Nat}{W:World}(h1:Blk W Bm 113 #[.map (some mb)])(h2:Blk W Bo 161 #[.func (.func 76) #[] #[]])(h3:x.B W g)(h4:(Instr.lookup 113 (.map (some mb)) (.string x.nm) false).run Tryz.prog W= .ok (.int .i64 k) W):x.S Bm Bo g mb k W:=⟨h1.cell 0,h2.cell 0,h3.cell 0,h3.cell 1,h3.cell 2,h3.cell 3,h4⟩
set_option maxHeartbeats 1000000 in
theorem distF_Module(x:ModV)(Bm Bo mb:Nat)(l:List ByteArray)(w:World)(hm:Blk w Bm 113 #[.map (some mb)])(ho:Blk w Bo 161 #[.func (.func 76) #[] #[]])(hc:CntMap KS w mb l)(hl:l.length<1000000)(hx:x.nm.size≤maxLen):
 Calls Tryz.prog 158 #[x.val,.pointer (some ⟨Bm,0,none⟩),.pointer (some ⟨Bo,0,none⟩)] w fun e w'=>e= .returned (.bool (decide ((cntB x.nm (l++ [x.nm]):Int)=1)))∧CntMap KS w' mb (l++ [x.nm])∧Gr (· =mb) w w':=by
 have hnm:=fun W=>nameF_Module x W
 go_enter Tryz.func158,Tryz.ntmps158;exact pDistF
theorem distinct_Module(l:List ModV)(A:Option Addr)(c B:Nat)(w:World)(h:RdModule w B A l)(hB:B≤w.heap.size)(hl:l.length≤100000)(hn:∀x∈l,x.nm.size≤maxLen):
 CU 75 #[.slice A l.length c,.func (.func 76) #[] #[]] w (.bool (distB (l.map (·.nm)))):=by
 obtain⟨w1,hw1⟩:∃w1,w1=((w.alloc (.cells #[.func (.func 76) #[] #[]] 161)).alloc (.map #[] 0)).alloc (.cells #[.map (some (w.heap.size+1))] 113):=⟨_,rfl⟩;have hB1:Below w.heap.size w w1:=by rw[hw1];exact(((Below.refl _ w).alloc (Nat.le_refl _) _).alloc (by simp) _).alloc (by simp;omega) _
 have ho:Blk w1 w.heap.size 161 #[.func (.func 76) #[] #[]]:=by rw[hw1];exact((Blk.new w _ _).alloc _).alloc _
 have hc:CntMap KS w1 (w.heap.size+1) []:=by rw[hw1];have:=CntMap.made (M:=KS) (w.alloc (.cells #[.func (.func 76) #[] #[]] 161));rw[World.size_alloc]at this;exact this.alloc _
 have hm:Blk w1 (w.heap.size+1+1) 113 #[.map (some (w.heap.size+1))]:=by rw[hw1];have:=Blk.new ((w.alloc (.cells #[.func (.func 76) #[] #[]] 161)).alloc (.map #[] 0)) 113 #[.map (some (w.heap.size+1))];simp only[World.size_alloc]at this;exact this
 have hz:w1.heap.size=w.heap.size+3:=by rw[hw1];simp
 have hfun:∀k (hk:k<l.length),(fun k=> !memB (((l.map (·.nm))[k]?).getD ⟨#[]⟩) ((l.map (·.nm)).take k)) k=decide ((cntB l[k].nm ((l.map (·.nm)).take (k+1)):Int)=1):=fun k hk=>by
  have h1:=memB_take (l.map (·.nm)) k (by simpa using hk);rw[List.getElem_map]at h1;rw[h1];simp[List.getElem?_eq_getElem hk]
 have hcall:=callS_Module 158 #[.pointer (some ⟨w.heap.size+1+1,0,none⟩),.pointer (some ⟨w.heap.size,0,none⟩)] (fun k=> !memB (((l.map (·.nm))[k]?).getD ⟨#[]⟩) ((l.map (·.nm)).take k)) (fun k W=>Blk W (w.heap.size+1+1) 113 #[.map (some (w.heap.size+1))]∧Blk W w.heap.size 161 #[.func (.func 76) #[] #[]]∧CntMap KS W (w.heap.size+1) ((l.map (·.nm)).take k)) (fun k=>k=w.heap.size+1) B
  (enters_of Tryz.func158 kz rfl) l A c w1 (fun k hk W hJ _=>by
   refine(distF_Module l[k] (w.heap.size+1+1) w.heap.size (w.heap.size+1) ((l.map (·.nm)).take k) W hJ.1 hJ.2.1 hJ.2.2 (by have:=List.length_take_le k (l.map (·.nm));simp at this ⊢;omega) (hn _ (List.getElem_mem hk))).mono ?_;rintro e W' ⟨rfl,h2,h3⟩;have ht:(l.map (·.nm)).take k++ [l[k].nm]=(l.map (·.nm)).take (k+1):=by
    rw[List.take_succ_eq_append_getElem (by simpa using hk),List.getElem_map]
   rw[ht]at h2 ⊢;exact⟨by rw[hfun k hk],⟨h3.blk hJ.1 (by omega),h3.blk hJ.2.1 (by omega),h2⟩,h3⟩)
  (fun k W o hJ=>⟨hJ.1.alloc _,hJ.2.1.alloc _,hJ.2.2.alloc _⟩) ⟨hm,ho,hc⟩ (h.keep (hB1.mono hB)) (by omega) (fun k e=>by subst e;omega) (by omega)
 have hD:distB (l.map (·.nm))=(List.range l.length).all (fun k=> !memB (((l.map (·.nm))[k]?).getD ⟨#[]⟩) ((l.map (·.nm)).take k)):=by unfold distB;rw[List.length_map]
 rw[←hD]at hcall;have HC:=lz hcall;have Hw1:=lz hw1;have HB1:=lz hB1;have hmk:= @run_makeMap Tryz.prog;generalize distB (l.map (·.nm))=q at *;clear hcall hD hw1 hB1 hfun hm ho hc hn h hz;go_enter Tryz.func75,Tryz.ntmps75;go_wp2_with fail;rw[←Hw1.out];refine HC.out.mono ?_;rintro e w2 ⟨rfl,hg2,-⟩;have HG:=lz hg2;clear HC hg2;go_wp2_with fail;go_ret;exact⟨rfl,⟨HG.out.os.trans HB1.out.os,HG.out.tape.trans HB1.out.tape,HG.out.output.trans HB1.out.output,Nat.le_trans HB1.out.size HG.out.size,fun k hk=>(HG.out.block k (by have:=HB1.out.size;omega) (by omega)).trans (HB1.out.block k hk)⟩⟩
abbrev SwV.B(x:SwV)(W:World)(g:Nat):Prop:=Blk W g 90 #[.string x.nm,.int .i64 x.net,.int .i64 x.dl,.int .i64 x.st]
def SwV.S(x:SwV)(Bm Bo g mb:Nat)(k:Nat)(W:World):Prop:=W.cell? ⟨Bm,0,none⟩=some (.map (some mb))∧W.cell? ⟨Bo,0,none⟩=some (.func (.func 74) #[] #[])∧W.cell? ⟨g,0,none⟩=some (.string x.nm)∧W.cell? ⟨g,1,none⟩=some (.int .i64 x.net)∧W.cell? ⟨g,2,none⟩=some (.int .i64 x.dl)∧W.cell? ⟨g,3,none⟩=some (.int .i64 x.st)∧(Instr.lookup 113 (.map (some mb)) (.string x.nm) false).run Tryz.prog W= .ok (.int .i64 k) W
theorem SwV.S_of(x:SwV){Bm Bo g mb k:Nat}{W:World}(h1:Blk W Bm 113 #[.map (some mb)])(h2:Blk W Bo 159 #[.func (.func 74) #[] #[]])(h3:x.B W g)(h4:(Instr.lookup 113 (.map (some mb)) (.string x.nm) false).run Tryz.prog W= .ok (.int .i64 k) W):x.S Bm Bo g mb k W:=⟨h1.cell 0,h2.cell 0,h3.cell 0,h3.cell 1,h3.cell 2,h3.cell 3,h4⟩
set_option maxHeartbeats 1000000 in
theorem distF_Switch(x:SwV)(Bm Bo mb:Nat)(l:List ByteArray)(w:World)(hm:Blk w Bm 113 #[.map (some mb)])(ho:Blk w Bo 159 #[.func (.func 74) #[] #[]])(hc:CntMap KS w mb l)(hl:l.length<1000000)(hx:x.nm.size≤maxLen):
 Calls Tryz.prog 159 #[x.val,.pointer (some ⟨Bm,0,none⟩),.pointer (some ⟨Bo,0,none⟩)] w fun e w'=>e= .returned (.bool (decide ((cntB x.nm (l++ [x.nm]):Int)=1)))∧CntMap KS w' mb (l++ [x.nm])∧Gr (· =mb) w w':=by
 have hnm:=fun W=>nameF_Switch x W
 go_enter Tryz.func159,Tryz.ntmps159;exact pDistF
theorem distinct_Switch(l:List SwV)(A:Option Addr)(c B:Nat)(w:World)(h:RdSwitch w B A l)(hB:B≤w.heap.size)(hl:l.length≤100000)(hn:∀x∈l,x.nm.size≤maxLen):
 CU 77 #[.slice A l.length c,.func (.func 74) #[] #[]] w (.bool (distB (l.map (·.nm)))):=by
 obtain⟨w1,hw1⟩:∃w1,w1=((w.alloc (.cells #[.func (.func 74) #[] #[]] 159)).alloc (.map #[] 0)).alloc (.cells #[.map (some (w.heap.size+1))] 113):=⟨_,rfl⟩;have hB1:Below w.heap.size w w1:=by rw[hw1];exact(((Below.refl _ w).alloc (Nat.le_refl _) _).alloc (by simp) _).alloc (by simp;omega) _
 have ho:Blk w1 w.heap.size 159 #[.func (.func 74) #[] #[]]:=by rw[hw1];exact((Blk.new w _ _).alloc _).alloc _
 have hc:CntMap KS w1 (w.heap.size+1) []:=by rw[hw1];have:=CntMap.made (M:=KS) (w.alloc (.cells #[.func (.func 74) #[] #[]] 159));rw[World.size_alloc]at this;exact this.alloc _
 have hm:Blk w1 (w.heap.size+1+1) 113 #[.map (some (w.heap.size+1))]:=by rw[hw1];have:=Blk.new ((w.alloc (.cells #[.func (.func 74) #[] #[]] 159)).alloc (.map #[] 0)) 113 #[.map (some (w.heap.size+1))];simp only[World.size_alloc]at this;exact this
 have hz:w1.heap.size=w.heap.size+3:=by rw[hw1];simp
 have hfun:∀k (hk:k<l.length),(fun k=> !memB (((l.map (·.nm))[k]?).getD ⟨#[]⟩) ((l.map (·.nm)).take k)) k=decide ((cntB l[k].nm ((l.map (·.nm)).take (k+1)):Int)=1):=fun k hk=>by
  have h1:=memB_take (l.map (·.nm)) k (by simpa using hk);rw[List.getElem_map]at h1;rw[h1];simp[List.getElem?_eq_getElem hk]
 have hcall:=callS_Switch 159 #[.pointer (some ⟨w.heap.size+1+1,0,none⟩),.pointer (some ⟨w.heap.size,0,none⟩)] (fun k=> !memB (((l.map (·.nm))[k]?).getD ⟨#[]⟩) ((l.map (·.nm)).take k)) (fun k W=>Blk W (w.heap.size+1+1) 113 #[.map (some (w.heap.size+1))]∧Blk W w.heap.size 159 #[.func (.func 74) #[] #[]]∧CntMap KS W (w.heap.size+1) ((l.map (·.nm)).take k)) (fun k=>k=w.heap.size+1) B
  (enters_of Tryz.func159 kz rfl) l A c w1 (fun k hk W hJ _=>by
   refine(distF_Switch l[k] (w.heap.size+1+1) w.heap.size (w.heap.size+1) ((l.map (·.nm)).take k) W hJ.1 hJ.2.1 hJ.2.2 (by have:=List.length_take_le k (l.map (·.nm));simp at this ⊢;omega) (hn _ (List.getElem_mem hk))).mono ?_;rintro e W' ⟨rfl,h2,h3⟩;have ht:(l.map (·.nm)).take k++ [l[k].nm]=(l.map (·.nm)).take (k+1):=by
    rw[List.take_succ_eq_append_getElem (by simpa using hk),List.getElem_map]
   rw[ht]at h2 ⊢;exact⟨by rw[hfun k hk],⟨h3.blk hJ.1 (by omega),h3.blk hJ.2.1 (by omega),h2⟩,h3⟩)
  (fun k W o hJ=>⟨hJ.1.alloc _,hJ.2.1.alloc _,hJ.2.2.alloc _⟩) ⟨hm,ho,hc⟩ (h.keep (hB1.mono hB)) (by omega) (fun k e=>by subst e;omega) (by omega)
 have hD:distB (l.map (·.nm))=(List.range l.length).all (fun k=> !memB (((l.map (·.nm))[k]?).getD ⟨#[]⟩) ((l.map (·.nm)).take k)):=by unfold distB;rw[List.length_map]
 rw[←hD]at hcall;have HC:=lz hcall;have Hw1:=lz hw1;have HB1:=lz hB1;have hmk:= @run_makeMap Tryz.prog;generalize distB (l.map (·.nm))=q at *;clear hcall hD hw1 hB1 hfun hm ho hc hn h hz;go_enter Tryz.func77,Tryz.ntmps77;go_wp2_with fail;rw[←Hw1.out];refine HC.out.mono ?_;rintro e w2 ⟨rfl,hg2,-⟩;have HG:=lz hg2;clear HC hg2;go_wp2_with fail;go_ret;exact⟨rfl,⟨HG.out.os.trans HB1.out.os,HG.out.tape.trans HB1.out.tape,HG.out.output.trans HB1.out.output,Nat.le_trans HB1.out.size HG.out.size,fun k hk=>(HG.out.block k (by have:=HB1.out.size;omega) (by omega)).trans (HB1.out.block k hk)⟩⟩
abbrev PartV.B(x:PartV)(W:World)(g:Nat):Prop:=Blk W g 75 #[.string x.nm,.int .i64 x.pe,.int .i64 x.le,.int .i64 x.mem,.slice x.semas.a x.semas.l.length x.semas.c,.int .i64 x.ev,.int .i64 x.bo,.slice x.bufs.a x.bufs.l.length x.bufs.c,.slice x.ports.a x.ports.l.length x.ports.c,.slice x.procs.a x.procs.l.length x.procs.c]
def PartV.S(x:PartV)(Bm Bo g mb:Nat)(k:Nat)(W:World):Prop:=W.cell? ⟨Bm,0,none⟩=some (.map (some mb))∧W.cell? ⟨Bo,0,none⟩=some (.func (.func 67) #[] #[])∧W.cell? ⟨g,0,none⟩=some (.string x.nm)∧W.cell? ⟨g,1,none⟩=some (.int .i64 x.pe)∧W.cell? ⟨g,2,none⟩=some (.int .i64 x.le)∧W.cell? ⟨g,3,none⟩=some (.int .i64 x.mem)∧W.cell? ⟨g,4,none⟩=some (.slice x.semas.a x.semas.l.length x.semas.c)∧W.cell? ⟨g,5,none⟩=some (.int .i64 x.ev)∧W.cell? ⟨g,6,none⟩=some (.int .i64 x.bo)∧W.cell? ⟨g,7,none⟩=some (.slice x.bufs.a x.bufs.l.length x.bufs.c)∧W.cell? ⟨g,8,none⟩=some (.slice x.ports.a x.ports.l.length x.ports.c)∧W.cell? ⟨g,9,none⟩=some (.slice x.procs.a x.procs.l.length x.procs.c)∧(Instr.lookup 113 (.map (some mb)) (.string x.nm) false).run Tryz.prog W= .ok (.int .i64 k) W
theorem PartV.S_of(x:PartV){Bm Bo g mb k:Nat}{W:World}(h1:Blk W Bm 113 #[.map (some mb)])(h2:Blk W Bo 153 #[.func (.func 67) #[] #[]])(h3:x.B W g)(h4:(Instr.lookup 113 (.map (some mb)) (.string x.nm) false).run Tryz.prog W= .ok (.int .i64 k) W):x.S Bm Bo g mb k W:=⟨h1.cell 0,h2.cell 0,h3.cell 0,h3.cell 1,h3.cell 2,h3.cell 3,h3.cell 4,h3.cell 5,h3.cell 6,h3.cell 7,h3.cell 8,h3.cell 9,h4⟩
set_option maxHeartbeats 1000000 in
theorem distF_Part(x:PartV)(Bm Bo mb:Nat)(l:List ByteArray)(w:World)(hm:Blk w Bm 113 #[.map (some mb)])(ho:Blk w Bo 153 #[.func (.func 67) #[] #[]])(hc:CntMap KS w mb l)(hl:l.length<1000000)(hx:x.nm.size≤maxLen):
 Calls Tryz.prog 153 #[x.val,.pointer (some ⟨Bm,0,none⟩),.pointer (some ⟨Bo,0,none⟩)] w fun e w'=>e= .returned (.bool (decide ((cntB x.nm (l++ [x.nm]):Int)=1)))∧CntMap KS w' mb (l++ [x.nm])∧Gr (· =mb) w w':=by
 have hnm:=fun W=>nameF_Part x W
 go_enter Tryz.func153,Tryz.ntmps153;exact pDistF
theorem distinct_Part(l:List PartV)(A:Option Addr)(c B:Nat)(w:World)(h:RdPart w B A l)(hB:B≤w.heap.size)(hl:l.length≤100000)(hn:∀x∈l,x.nm.size≤maxLen):
 CU 66 #[.slice A l.length c,.func (.func 67) #[] #[]] w (.bool (distB (l.map (·.nm)))):=by
 obtain⟨w1,hw1⟩:∃w1,w1=((w.alloc (.cells #[.func (.func 67) #[] #[]] 153)).alloc (.map #[] 0)).alloc (.cells #[.map (some (w.heap.size+1))] 113):=⟨_,rfl⟩;have hB1:Below w.heap.size w w1:=by rw[hw1];exact(((Below.refl _ w).alloc (Nat.le_refl _) _).alloc (by simp) _).alloc (by simp;omega) _
 have ho:Blk w1 w.heap.size 153 #[.func (.func 67) #[] #[]]:=by rw[hw1];exact((Blk.new w _ _).alloc _).alloc _
 have hc:CntMap KS w1 (w.heap.size+1) []:=by rw[hw1];have:=CntMap.made (M:=KS) (w.alloc (.cells #[.func (.func 67) #[] #[]] 153));rw[World.size_alloc]at this;exact this.alloc _
 have hm:Blk w1 (w.heap.size+1+1) 113 #[.map (some (w.heap.size+1))]:=by rw[hw1];have:=Blk.new ((w.alloc (.cells #[.func (.func 67) #[] #[]] 153)).alloc (.map #[] 0)) 113 #[.map (some (w.heap.size+1))];simp only[World.size_alloc]at this;exact this
 have hz:w1.heap.size=w.heap.size+3:=by rw[hw1];simp
 have hfun:∀k (hk:k<l.length),(fun k=> !memB (((l.map (·.nm))[k]?).getD ⟨#[]⟩) ((l.map (·.nm)).take k)) k=decide ((cntB l[k].nm ((l.map (·.nm)).take (k+1)):Int)=1):=fun k hk=>by
  have h1:=memB_take (l.map (·.nm)) k (by simpa using hk);rw[List.getElem_map]at h1;rw[h1];simp[List.getElem?_eq_getElem hk]
 have hcall:=callS_Part 153 #[.pointer (some ⟨w.heap.size+1+1,0,none⟩),.pointer (some ⟨w.heap.size,0,none⟩)] (fun k=> !memB (((l.map (·.nm))[k]?).getD ⟨#[]⟩) ((l.map (·.nm)).take k)) (fun k W=>Blk W (w.heap.size+1+1) 113 #[.map (some (w.heap.size+1))]∧Blk W w.heap.size 153 #[.func (.func 67) #[] #[]]∧CntMap KS W (w.heap.size+1) ((l.map (·.nm)).take k)) (fun k=>k=w.heap.size+1) B
  (enters_of Tryz.func153 kz rfl) l A c w1 (fun k hk W hJ _=>by
   refine(distF_Part l[k] (w.heap.size+1+1) w.heap.size (w.heap.size+1) ((l.map (·.nm)).take k) W hJ.1 hJ.2.1 hJ.2.2 (by have:=List.length_take_le k (l.map (·.nm));simp at this ⊢;omega) (hn _ (List.getElem_mem hk))).mono ?_;rintro e W' ⟨rfl,h2,h3⟩;have ht:(l.map (·.nm)).take k++ [l[k].nm]=(l.map (·.nm)).take (k+1):=by
    rw[List.take_succ_eq_append_getElem (by simpa using hk),List.getElem_map]
   rw[ht]at h2 ⊢;exact⟨by rw[hfun k hk],⟨h3.blk hJ.1 (by omega),h3.blk hJ.2.1 (by omega),h2⟩,h3⟩)
  (fun k W o hJ=>⟨hJ.1.alloc _,hJ.2.1.alloc _,hJ.2.2.alloc _⟩) ⟨hm,ho,hc⟩ (h.keep (hB1.mono hB)) (by omega) (fun k e=>by subst e;omega) (by omega)
 have hD:distB (l.map (·.nm))=(List.range l.length).all (fun k=> !memB (((l.map (·.nm))[k]?).getD ⟨#[]⟩) ((l.map (·.nm)).take k)):=by unfold distB;rw[List.length_map]
 rw[←hD]at hcall;have HC:=lz hcall;have Hw1:=lz hw1;have HB1:=lz hB1;have hmk:= @run_makeMap Tryz.prog;generalize distB (l.map (·.nm))=q at *;clear hcall hD hw1 hB1 hfun hm ho hc hn h hz;go_enter Tryz.func66,Tryz.ntmps66;go_wp2_with fail;rw[←Hw1.out];refine HC.out.mono ?_;rintro e w2 ⟨rfl,hg2,-⟩;have HG:=lz hg2;clear HC hg2;go_wp2_with fail;go_ret;exact⟨rfl,⟨HG.out.os.trans HB1.out.os,HG.out.tape.trans HB1.out.tape,HG.out.output.trans HB1.out.output,Nat.le_trans HB1.out.size HG.out.size,fun k hk=>(HG.out.block k (by have:=HB1.out.size;omega) (by omega)).trans (HB1.out.block k hk)⟩⟩
abbrev PortV.B(x:PortV)(W:World)(g:Nat):Prop:=Blk W g 77 #[.string x.nm,.int .u8 x.kd,.bool x.out,.int .i64 x.sz,.int .i64 x.dp,.int .i64 x.rf]
def PortV.S(x:PortV)(Bm Bo g mb:Nat)(k:Nat)(W:World):Prop:=W.cell? ⟨Bm,0,none⟩=some (.map (some mb))∧W.cell? ⟨Bo,0,none⟩=some (.func (.func 69) #[] #[])∧W.cell? ⟨g,0,none⟩=some (.string x.nm)∧W.cell? ⟨g,1,none⟩=some (.int .u8 x.kd)∧W.cell? ⟨g,2,none⟩=some (.bool x.out)∧W.cell? ⟨g,3,none⟩=some (.int .i64 x.sz)∧W.cell? ⟨g,4,none⟩=some (.int .i64 x.dp)∧W.cell? ⟨g,5,none⟩=some (.int .i64 x.rf)∧(Instr.lookup 113 (.map (some mb)) (.string x.nm) false).run Tryz.prog W= .ok (.int .i64 k) W
theorem PortV.S_of(x:PortV){Bm Bo g mb k:Nat}{W:World}(h1:Blk W Bm 113 #[.map (some mb)])(h2:Blk W Bo 155 #[.func (.func 69) #[] #[]])(h3:x.B W g)(h4:(Instr.lookup 113 (.map (some mb)) (.string x.nm) false).run Tryz.prog W= .ok (.int .i64 k) W):x.S Bm Bo g mb k W:=⟨h1.cell 0,h2.cell 0,h3.cell 0,h3.cell 1,h3.cell 2,h3.cell 3,h3.cell 4,h3.cell 5,h4⟩
set_option maxHeartbeats 1000000 in
theorem distF_Port(x:PortV)(Bm Bo mb:Nat)(l:List ByteArray)(w:World)(hm:Blk w Bm 113 #[.map (some mb)])(ho:Blk w Bo 155 #[.func (.func 69) #[] #[]])(hc:CntMap KS w mb l)(hl:l.length<1000000)(hx:x.nm.size≤maxLen):
 Calls Tryz.prog 154 #[x.val,.pointer (some ⟨Bm,0,none⟩),.pointer (some ⟨Bo,0,none⟩)] w fun e w'=>e= .returned (.bool (decide ((cntB x.nm (l++ [x.nm]):Int)=1)))∧CntMap KS w' mb (l++ [x.nm])∧Gr (· =mb) w w':=by
 have hnm:=fun W=>nameF_Port x W
 go_enter Tryz.func154,Tryz.ntmps154;exact pDistF
theorem distinct_Port(l:List PortV)(A:Option Addr)(c B:Nat)(w:World)(h:RdPort w B A l)(hB:B≤w.heap.size)(hl:l.length≤100000)(hn:∀x∈l,x.nm.size≤maxLen):
 CU 68 #[.slice A l.length c,.func (.func 69) #[] #[]] w (.bool (distB (l.map (·.nm)))):=by
 obtain⟨w1,hw1⟩:∃w1,w1=((w.alloc (.cells #[.func (.func 69) #[] #[]] 155)).alloc (.map #[] 0)).alloc (.cells #[.map (some (w.heap.size+1))] 113):=⟨_,rfl⟩;have hB1:Below w.heap.size w w1:=by rw[hw1];exact(((Below.refl _ w).alloc (Nat.le_refl _) _).alloc (by simp) _).alloc (by simp;omega) _
 have ho:Blk w1 w.heap.size 155 #[.func (.func 69) #[] #[]]:=by rw[hw1];exact((Blk.new w _ _).alloc _).alloc _
 have hc:CntMap KS w1 (w.heap.size+1) []:=by rw[hw1];have:=CntMap.made (M:=KS) (w.alloc (.cells #[.func (.func 69) #[] #[]] 155));rw[World.size_alloc]at this;exact this.alloc _
 have hm:Blk w1 (w.heap.size+1+1) 113 #[.map (some (w.heap.size+1))]:=by rw[hw1];have:=Blk.new ((w.alloc (.cells #[.func (.func 69) #[] #[]] 155)).alloc (.map #[] 0)) 113 #[.map (some (w.heap.size+1))];simp only[World.size_alloc]at this;exact this
 have hz:w1.heap.size=w.heap.size+3:=by rw[hw1];simp
 have hfun:∀k (hk:k<l.length),(fun k=> !memB (((l.map (·.nm))[k]?).getD ⟨#[]⟩) ((l.map (·.nm)).take k)) k=decide ((cntB l[k].nm ((l.map (·.nm)).take (k+1)):Int)=1):=fun k hk=>by
  have h1:=memB_take (l.map (·.nm)) k (by simpa using hk);rw[List.getElem_map]at h1;rw[h1];simp[List.getElem?_eq_getElem hk]
 have hcall:=callS_Port 154 #[.pointer (some ⟨w.heap.size+1+1,0,none⟩),.pointer (some ⟨w.heap.size,0,none⟩)] (fun k=> !memB (((l.map (·.nm))[k]?).getD ⟨#[]⟩) ((l.map (·.nm)).take k)) (fun k W=>Blk W (w.heap.size+1+1) 113 #[.map (some (w.heap.size+1))]∧Blk W w.heap.size 155 #[.func (.func 69) #[] #[]]∧CntMap KS W (w.heap.size+1) ((l.map (·.nm)).take k)) (fun k=>k=w.heap.size+1) B
  (enters_of Tryz.func154 kz rfl) l A c w1 (fun k hk W hJ _=>by
   refine(distF_Port l[k] (w.heap.size+1+1) w.heap.size (w.heap.size+1) ((l.map (·.nm)).take k) W hJ.1 hJ.2.1 hJ.2.2 (by have:=List.length_take_le k (l.map (·.nm));simp at this ⊢;omega) (hn _ (List.getElem_mem hk))).mono ?_;rintro e W' ⟨rfl,h2,h3⟩;have ht:(l.map (·.nm)).take k++ [l[k].nm]=(l.map (·.nm)).take (k+1):=by
    rw[List.take_succ_eq_append_getElem (by simpa using hk),List.getElem_map]
   rw[ht]at h2 ⊢;exact⟨by rw[hfun k hk],⟨h3.blk hJ.1 (by omega),h3.blk hJ.2.1 (by omega),h2⟩,h3⟩)
  (fun k W o hJ=>⟨hJ.1.alloc _,hJ.2.1.alloc _,hJ.2.2.alloc _⟩) ⟨hm,ho,hc⟩ (h.keep (hB1.mono hB)) (by omega) (fun k e=>by subst e;omega) (by omega)
 have hD:distB (l.map (·.nm))=(List.range l.length).all (fun k=> !memB (((l.map (·.nm))[k]?).getD ⟨#[]⟩) ((l.map (·.nm)).take k)):=by unfold distB;rw[List.length_map]
 rw[←hD]at hcall;have HC:=lz hcall;have Hw1:=lz hw1;have HB1:=lz hB1;have hmk:= @run_makeMap Tryz.prog;generalize distB (l.map (·.nm))=q at *;clear hcall hD hw1 hB1 hfun hm ho hc hn h hz;go_enter Tryz.func68,Tryz.ntmps68;go_wp2_with fail;rw[←Hw1.out];refine HC.out.mono ?_;rintro e w2 ⟨rfl,hg2,-⟩;have HG:=lz hg2;clear HC hg2;go_wp2_with fail;go_ret;exact⟨rfl,⟨HG.out.os.trans HB1.out.os,HG.out.tape.trans HB1.out.tape,HG.out.output.trans HB1.out.output,Nat.le_trans HB1.out.size HG.out.size,fun k hk=>(HG.out.block k (by have:=HB1.out.size;omega) (by omega)).trans (HB1.out.block k hk)⟩⟩
abbrev ProcV.B(x:ProcV)(W:World)(g:Nat):Prop:=Blk W g 80 #[.string x.nm,.int .i64 x.pr,.int .i64 x.pe,.int .i64 x.li,.slice x.code.a x.code.l.length x.code.c]
def ProcV.S(x:ProcV)(Bm Bo g mb:Nat)(k:Nat)(W:World):Prop:=W.cell? ⟨Bm,0,none⟩=some (.map (some mb))∧W.cell? ⟨Bo,0,none⟩=some (.func (.func 71) #[] #[])∧W.cell? ⟨g,0,none⟩=some (.string x.nm)∧W.cell? ⟨g,1,none⟩=some (.int .i64 x.pr)∧W.cell? ⟨g,2,none⟩=some (.int .i64 x.pe)∧W.cell? ⟨g,3,none⟩=some (.int .i64 x.li)∧W.cell? ⟨g,4,none⟩=some (.slice x.code.a x.code.l.length x.code.c)∧(Instr.lookup 113 (.map (some mb)) (.string x.nm) false).run Tryz.prog W= .ok (.int .i64 k) W
theorem ProcV.S_of(x:ProcV){Bm Bo g mb k:Nat}{W:World}(h1:Blk W Bm 113 #[.map (some mb)])(h2:Blk W Bo 157 #[.func (.func 71) #[] #[]])(h3:x.B W g)(h4:(Instr.lookup 113 (.map (some mb)) (.string x.nm) false).run Tryz.prog W= .ok (.int .i64 k) W):x.S Bm Bo g mb k W:=⟨h1.cell 0,h2.cell 0,h3.cell 0,h3.cell 1,h3.cell 2,h3.cell 3,h3.cell 4,h4⟩
set_option maxHeartbeats 1000000 in
theorem distF_Proc(x:ProcV)(Bm Bo mb:Nat)(l:List ByteArray)(w:World)(hm:Blk w Bm 113 #[.map (some mb)])(ho:Blk w Bo 157 #[.func (.func 71) #[] #[]])(hc:CntMap KS w mb l)(hl:l.length<1000000)(hx:x.nm.size≤maxLen):
 Calls Tryz.prog 155 #[x.val,.pointer (some ⟨Bm,0,none⟩),.pointer (some ⟨Bo,0,none⟩)] w fun e w'=>e= .returned (.bool (decide ((cntB x.nm (l++ [x.nm]):Int)=1)))∧CntMap KS w' mb (l++ [x.nm])∧Gr (· =mb) w w':=by
 have hnm:=fun W=>nameF_Proc x W
 go_enter Tryz.func155,Tryz.ntmps155;exact pDistF
theorem distinct_Proc(l:List ProcV)(A:Option Addr)(c B:Nat)(w:World)(h:RdProc w B A l)(hB:B≤w.heap.size)(hl:l.length≤100000)(hn:∀x∈l,x.nm.size≤maxLen):
 CU 70 #[.slice A l.length c,.func (.func 71) #[] #[]] w (.bool (distB (l.map (·.nm)))):=by
 obtain⟨w1,hw1⟩:∃w1,w1=((w.alloc (.cells #[.func (.func 71) #[] #[]] 157)).alloc (.map #[] 0)).alloc (.cells #[.map (some (w.heap.size+1))] 113):=⟨_,rfl⟩;have hB1:Below w.heap.size w w1:=by rw[hw1];exact(((Below.refl _ w).alloc (Nat.le_refl _) _).alloc (by simp) _).alloc (by simp;omega) _
 have ho:Blk w1 w.heap.size 157 #[.func (.func 71) #[] #[]]:=by rw[hw1];exact((Blk.new w _ _).alloc _).alloc _
 have hc:CntMap KS w1 (w.heap.size+1) []:=by rw[hw1];have:=CntMap.made (M:=KS) (w.alloc (.cells #[.func (.func 71) #[] #[]] 157));rw[World.size_alloc]at this;exact this.alloc _
 have hm:Blk w1 (w.heap.size+1+1) 113 #[.map (some (w.heap.size+1))]:=by rw[hw1];have:=Blk.new ((w.alloc (.cells #[.func (.func 71) #[] #[]] 157)).alloc (.map #[] 0)) 113 #[.map (some (w.heap.size+1))];simp only[World.size_alloc]at this;exact this
 have hz:w1.heap.size=w.heap.size+3:=by rw[hw1];simp
 have hfun:∀k (hk:k<l.length),(fun k=> !memB (((l.map (·.nm))[k]?).getD ⟨#[]⟩) ((l.map (·.nm)).take k)) k=decide ((cntB l[k].nm ((l.map (·.nm)).take (k+1)):Int)=1):=fun k hk=>by
  have h1:=memB_take (l.map (·.nm)) k (by simpa using hk);rw[List.getElem_map]at h1;rw[h1];simp[List.getElem?_eq_getElem hk]
 have hcall:=callS_Proc 155 #[.pointer (some ⟨w.heap.size+1+1,0,none⟩),.pointer (some ⟨w.heap.size,0,none⟩)] (fun k=> !memB (((l.map (·.nm))[k]?).getD ⟨#[]⟩) ((l.map (·.nm)).take k)) (fun k W=>Blk W (w.heap.size+1+1) 113 #[.map (some (w.heap.size+1))]∧Blk W w.heap.size 157 #[.func (.func 71) #[] #[]]∧CntMap KS W (w.heap.size+1) ((l.map (·.nm)).take k)) (fun k=>k=w.heap.size+1) B
  (enters_of Tryz.func155 kz rfl) l A c w1 (fun k hk W hJ _=>by
   refine(distF_Proc l[k] (w.heap.size+1+1) w.heap.size (w.heap.size+1) ((l.map (·.nm)).take k) W hJ.1 hJ.2.1 hJ.2.2 (by have:=List.length_take_le k (l.map (·.nm));simp at this ⊢;omega) (hn _ (List.getElem_mem hk))).mono ?_;rintro e W' ⟨rfl,h2,h3⟩;have ht:(l.map (·.nm)).take k++ [l[k].nm]=(l.map (·.nm)).take (k+1):=by
    rw[List.take_succ_eq_append_getElem (by simpa using hk),List.getElem_map]
   rw[ht]at h2 ⊢;exact⟨by rw[hfun k hk],⟨h3.blk hJ.1 (by omega),h3.blk hJ.2.1 (by omega),h2⟩,h3⟩)
  (fun k W o hJ=>⟨hJ.1.alloc _,hJ.2.1.alloc _,hJ.2.2.alloc _⟩) ⟨hm,ho,hc⟩ (h.keep (hB1.mono hB)) (by omega) (fun k e=>by subst e;omega) (by omega)
 have hD:distB (l.map (·.nm))=(List.range l.length).all (fun k=> !memB (((l.map (·.nm))[k]?).getD ⟨#[]⟩) ((l.map (·.nm)).take k)):=by unfold distB;rw[List.length_map]
 rw[←hD]at hcall;have HC:=lz hcall;have Hw1:=lz hw1;have HB1:=lz hB1;have hmk:= @run_makeMap Tryz.prog;generalize distB (l.map (·.nm))=q at *;clear hcall hD hw1 hB1 hfun hm ho hc hn h hz;go_enter Tryz.func70,Tryz.ntmps70;go_wp2_with fail;rw[←Hw1.out];refine HC.out.mono ?_;rintro e w2 ⟨rfl,hg2,-⟩;have HG:=lz hg2;clear HC hg2;go_wp2_with fail;go_ret;exact⟨rfl,⟨HG.out.os.trans HB1.out.os,HG.out.tape.trans HB1.out.tape,HG.out.output.trans HB1.out.output,Nat.le_trans HB1.out.size HG.out.size,fun k hk=>(HG.out.block k (by have:=HB1.out.size;omega) (by omega)).trans (HB1.out.block k hk)⟩⟩
abbrev VlV.B(x:VlV)(W:World)(g:Nat):Prop:=Blk W g 88 #[.string x.nm,.string x.src.m,.string x.src.p,.string x.src.o,.int .i64 x.bag,.int .i64 x.mx,.slice x.dst.a x.dst.l.length x.dst.c]
def VlV.S(x:VlV)(Bm Bo g mb:Nat)(k:Nat)(W:World):Prop:=W.cell? ⟨Bm,0,none⟩=some (.map (some mb))∧W.cell? ⟨Bo,0,none⟩=some (.func (.func 79) #[] #[])∧W.cell? ⟨g,0,none⟩=some (.string x.nm)∧W.cell? ⟨g,1,none⟩=some (.string x.src.m)∧W.cell? ⟨g,2,none⟩=some (.string x.src.p)∧W.cell? ⟨g,3,none⟩=some (.string x.src.o)∧W.cell? ⟨g,4,none⟩=some (.int .i64 x.bag)∧W.cell? ⟨g,5,none⟩=some (.int .i64 x.mx)∧W.cell? ⟨g,6,none⟩=some (.slice x.dst.a x.dst.l.length x.dst.c)∧(Instr.lookup 113 (.map (some mb)) (.string x.nm) false).run Tryz.prog W= .ok (.int .i64 k) W
theorem VlV.S_of(x:VlV){Bm Bo g mb k:Nat}{W:World}(h1:Blk W Bm 113 #[.map (some mb)])(h2:Blk W Bo 164 #[.func (.func 79) #[] #[]])(h3:x.B W g)(h4:(Instr.lookup 113 (.map (some mb)) (.string x.nm) false).run Tryz.prog W= .ok (.int .i64 k) W):x.S Bm Bo g mb k W:=⟨h1.cell 0,h2.cell 0,h3.cell 0,h3.cell 1,h3.cell 2,h3.cell 3,h3.cell 4,h3.cell 5,h3.cell 6,h4⟩
set_option maxHeartbeats 1000000 in
theorem distF_VL(x:VlV)(Bm Bo mb:Nat)(l:List ByteArray)(w:World)(hm:Blk w Bm 113 #[.map (some mb)])(ho:Blk w Bo 164 #[.func (.func 79) #[] #[]])(hc:CntMap KS w mb l)(hl:l.length<1000000)(hx:x.nm.size≤maxLen):
 Calls Tryz.prog 160 #[x.val,.pointer (some ⟨Bm,0,none⟩),.pointer (some ⟨Bo,0,none⟩)] w fun e w'=>e= .returned (.bool (decide ((cntB x.nm (l++ [x.nm]):Int)=1)))∧CntMap KS w' mb (l++ [x.nm])∧Gr (· =mb) w w':=by
 have hnm:=fun W=>nameF_VL x W
 go_enter Tryz.func160,Tryz.ntmps160;exact pDistF
theorem distinct_VL(l:List VlV)(A:Option Addr)(c B:Nat)(w:World)(h:RdVL w B A l)(hB:B≤w.heap.size)(hl:l.length≤100000)(hn:∀x∈l,x.nm.size≤maxLen):
 CU 78 #[.slice A l.length c,.func (.func 79) #[] #[]] w (.bool (distB (l.map (·.nm)))):=by
 obtain⟨w1,hw1⟩:∃w1,w1=((w.alloc (.cells #[.func (.func 79) #[] #[]] 164)).alloc (.map #[] 0)).alloc (.cells #[.map (some (w.heap.size+1))] 113):=⟨_,rfl⟩;have hB1:Below w.heap.size w w1:=by rw[hw1];exact(((Below.refl _ w).alloc (Nat.le_refl _) _).alloc (by simp) _).alloc (by simp;omega) _
 have ho:Blk w1 w.heap.size 164 #[.func (.func 79) #[] #[]]:=by rw[hw1];exact((Blk.new w _ _).alloc _).alloc _
 have hc:CntMap KS w1 (w.heap.size+1) []:=by rw[hw1];have:=CntMap.made (M:=KS) (w.alloc (.cells #[.func (.func 79) #[] #[]] 164));rw[World.size_alloc]at this;exact this.alloc _
 have hm:Blk w1 (w.heap.size+1+1) 113 #[.map (some (w.heap.size+1))]:=by rw[hw1];have:=Blk.new ((w.alloc (.cells #[.func (.func 79) #[] #[]] 164)).alloc (.map #[] 0)) 113 #[.map (some (w.heap.size+1))];simp only[World.size_alloc]at this;exact this
 have hz:w1.heap.size=w.heap.size+3:=by rw[hw1];simp
 have hfun:∀k (hk:k<l.length),(fun k=> !memB (((l.map (·.nm))[k]?).getD ⟨#[]⟩) ((l.map (·.nm)).take k)) k=decide ((cntB l[k].nm ((l.map (·.nm)).take (k+1)):Int)=1):=fun k hk=>by
  have h1:=memB_take (l.map (·.nm)) k (by simpa using hk);rw[List.getElem_map]at h1;rw[h1];simp[List.getElem?_eq_getElem hk]
 have hcall:=callS_VL 160 #[.pointer (some ⟨w.heap.size+1+1,0,none⟩),.pointer (some ⟨w.heap.size,0,none⟩)] (fun k=> !memB (((l.map (·.nm))[k]?).getD ⟨#[]⟩) ((l.map (·.nm)).take k)) (fun k W=>Blk W (w.heap.size+1+1) 113 #[.map (some (w.heap.size+1))]∧Blk W w.heap.size 164 #[.func (.func 79) #[] #[]]∧CntMap KS W (w.heap.size+1) ((l.map (·.nm)).take k)) (fun k=>k=w.heap.size+1) B
  (enters_of Tryz.func160 kz rfl) l A c w1 (fun k hk W hJ _=>by
   refine(distF_VL l[k] (w.heap.size+1+1) w.heap.size (w.heap.size+1) ((l.map (·.nm)).take k) W hJ.1 hJ.2.1 hJ.2.2 (by have:=List.length_take_le k (l.map (·.nm));simp at this ⊢;omega) (hn _ (List.getElem_mem hk))).mono ?_;rintro e W' ⟨rfl,h2,h3⟩;have ht:(l.map (·.nm)).take k++ [l[k].nm]=(l.map (·.nm)).take (k+1):=by
    rw[List.take_succ_eq_append_getElem (by simpa using hk),List.getElem_map]
   rw[ht]at h2 ⊢;exact⟨by rw[hfun k hk],⟨h3.blk hJ.1 (by omega),h3.blk hJ.2.1 (by omega),h2⟩,h3⟩)
  (fun k W o hJ=>⟨hJ.1.alloc _,hJ.2.1.alloc _,hJ.2.2.alloc _⟩) ⟨hm,ho,hc⟩ (h.keep (hB1.mono hB)) (by omega) (fun k e=>by subst e;omega) (by omega)
 have hD:distB (l.map (·.nm))=(List.range l.length).all (fun k=> !memB (((l.map (·.nm))[k]?).getD ⟨#[]⟩) ((l.map (·.nm)).take k)):=by unfold distB;rw[List.length_map]
 rw[←hD]at hcall;have HC:=lz hcall;have Hw1:=lz hw1;have HB1:=lz hB1;have hmk:= @run_makeMap Tryz.prog;generalize distB (l.map (·.nm))=q at *;clear hcall hD hw1 hB1 hfun hm ho hc hn h hz;go_enter Tryz.func78,Tryz.ntmps78;go_wp2_with fail;rw[←Hw1.out];refine HC.out.mono ?_;rintro e w2 ⟨rfl,hg2,-⟩;have HG:=lz hg2;clear HC hg2;go_wp2_with fail;go_ret;exact⟨rfl,⟨HG.out.os.trans HB1.out.os,HG.out.tape.trans HB1.out.tape,HG.out.output.trans HB1.out.output,Nat.le_trans HB1.out.size HG.out.size,fun k hk=>(HG.out.block k (by have:=HB1.out.size;omega) (by omega)).trans (HB1.out.block k hk)⟩⟩
end Go.Proofs.YtchfcgilpjkmhaaGreatDoor
