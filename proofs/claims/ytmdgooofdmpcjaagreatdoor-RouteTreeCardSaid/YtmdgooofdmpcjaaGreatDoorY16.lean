import Derived.RegionTactic
import Derived.Test.YtmdgooofdmpcjaaGreatDoorY12
import Derived.Test.YtmdgooofdmpcjaaGreatDoorY15
import Derived.Test.YtmdgooofdmpcjaaGreatDoorY8
import Derived.Test.YtmdgooofdmpcjaaGreatDoorY0
set_option maxRecDepth 100000
set_option maxHeartbeats 8000000
set_option linter.unusedSimpArgs false
set_option linter.unusedVariables false
set_option linter.unusedSectionVars false
open Go.Proofs.Tryz renaming prog → pG
namespace Go.Proofs.YtmdgooofdmpcjaaGreatDoor
section
open Go.ChangeShapes Go.WideShapes Go.ChangeAt Go.RowKit
attribute [local go_sem] Oper.semAt_some
open Go.Act renaming put → zP
open List renaming setIfInBounds_toArray → zA, set_cons_zero → zB, set_cons_succ → zC
theorem nP{α:Type}[DecidableEq α](l:List α)(k:Nat)(hk:k<l.length):decide ((dR l[k] (l.take (k+1)):Int)=1)= !fP l[k] (l.take k):=by
 rw[List.take_succ_eq_append_getElem hk,sP,if_pos rfl];have h:=JU l[k] (l.take k)
 cases hm:fP l[k] (l.take k)with
 | true=>rw[hm]at h;have:=of_decide_eq_true h;exact dF oz
 | false=>rw[hm]at h;have:=of_decide_eq_false h;exact dT oz
def eM(l:List ByteArray):Bool:=(List.range l.length).all fun k=> !fP ((l[k]?).getD ⟨#[]⟩) (l.take k)
theorem zQ{q:Prop}(z:q:=by
 obtain⟨y0,bR⟩:=ez (w.alloc x.obj);have bW:Below w.heap.size w y0:=by rw[bR];exact bN
 have bS:x.B y0 w.heap.size:=by rw[bR];exact ah.new w _ _
 have IK:=hc.lt;have nb:∀{b:Nat} {tt:TypeId} {cs:Array Value},ah w b tt cs→¬b=mb:=fun h e=>by
  subst e;obtain⟨es,ck,ho⟩:=hc.obj;rw[show w.heap[_]?=_ from h]at ho;cases ho
 have facts:∀W l',Gr (· =mb) y0 W→aH KS W mb l'→x.S Bm Bo w.heap.size mb (dR x.nm l') W:=fun W l' hW Pk=>x.Ur (hW.blk (hm.below bW hm.lt) (nb hm)) (hW.blk (ho.below bW ho.lt) (nb ho)) (hW.blk bS oz) (Pk.iH (M:=KS) hx)
 have hc0:aH KS y0 mb l:=hc.next bW
 have hmm:maxLen=9223372036854775807:=rfl;have cC:=vA x.nm l;have aBj:=vA x.nm (l++ [x.nm]);have Hwr:Hid (IntKind.i64.wrap ((dR x.nm l:Int)+1)=(dR x.nm l:Int)+1):=lz (IntWalk.i64_in _ oz);have Hf:=lz facts;have aV:=lz bW;have dV:=lz bR;have Hc0:=lz hc0;have KM:=lz uU;have aNv:=hm.lt;have aUr:=ho.lt;have aUs:=bS.lt;clear hm ho hc facts bW bR bS cC aBj uU nb hc0;go_wp2_with fail;rw[←dV.out];have hw:=Hwr.out;have hHeld:=Hf.out y0.drew l (Gr.ak (Below.refl _ y0).drew) (aH.next Hc0.out (Below.refl _ y0).drew);refine aT (x.S Bm Bo w.heap.size mb (dR x.nm l)) 6 kz hHeld (fun hHeld=> ?_);refine tkS 0 rfl hHeld (v:= ?_) ⟨by rfl,?_⟩ ?_;rotate_left
 ·exact tkY
 simp only[zP,zA,zB,zC];refine tkS 1 rfl hHeld (v:= ?_) ⟨by rfl,?_⟩ ?_;rotate_left
 ·exact tkY
 simp only[zP,zA,zB,zC];refine tkS 2 rfl hHeld (v:= ?_) ⟨by rfl,?_⟩ ?_;rotate_left
 ·exact tkY
 simp only[zP,zA,zB,zC];refine RQ 3 rfl fun K hK=> ?_;have hSw:=hHeld;first | exact tkP | skip
 go_simp;refine(KM.out _).mono ?_;rintro e w1 ⟨rfl,aU⟩;have aU:Below y0.heap.size y0 w1:=(Below.refl _ y0).drew.trans aU;have hc1:=aH.next Hc0.out aU
 have hHeld:=Hf.out w1 l (Gr.ak aU) hc1;obtain⟨w2,hup,qc,eG⟩:=hc1.run_store oz (y:=x.nm) hx;have Hup:=lz (show(Instr.mapUpdate 209 (.map (some mb)) (.string x.nm) (.int .i64 ((dR x.nm l:Int)+1))).run pG w1= .ok () w2 from hup);have Hc2:=lz qc;have Hg2:=lz (show Gr (· =mb) y0 w2 from(Gr.ak aU).trans (Gr.eO eG fun k e=>(Option.some.inj e).symm));refine hK.out _ _ (fun _=>hHeld) ?_;clear hK aU hc1 hup qc eG hSw;refine tkS 4 rfl hHeld (v:= ?_) ⟨by rfl,?_⟩ ?_;rotate_left
 ·exact tkY
 simp only[zP,zA,zB,zC];refine tkS 5 rfl hHeld (v:= ?_) ⟨by rfl,?_⟩ ?_;rotate_left
 ·exact tkY
 simp only[zP,zA,zB,zC];refine RQ 6 rfl fun K hK=> ?_;have hup:=Hup.out;go_simp;refine hK.out _ _ (fun h=>absurd h dz) ?_;clear hK hup hHeld;refine aL kz ?_ _;have hHeld:=Hf.out w2.drew (l++ [x.nm]) (Hg2.out.trans (Gr.ak (Below.refl _ w2).drew)) (aH.next Hc2.out (Below.refl _ w2).drew);go_wp2_with fail;refine aT (x.S Bm Bo w.heap.size mb (dR x.nm (l++ [x.nm]))) 6 kz hHeld (fun hHeld=> ?_);refine tkS 0 rfl hHeld (v:= ?_) ⟨by rfl,?_⟩ ?_;rotate_left
 ·exact tkY
 simp only[zP,zA,zB,zC];refine tkS 1 rfl hHeld (v:= ?_) ⟨by rfl,?_⟩ ?_;rotate_left
 ·exact tkY
 simp only[zP,zA,zB,zC];refine tkS 2 rfl hHeld (v:= ?_) ⟨by rfl,?_⟩ ?_;rotate_left
 ·exact tkY
 simp only[zP,zA,zB,zC];refine RQ 3 rfl fun K hK=> ?_;go_simp;refine(KM.out _).mono ?_;rintro e w3 ⟨rfl,kq⟩;have kq:Below w2.heap.size w2 w3:=(Below.refl _ w2).drew.trans kq;have hHeld:=Hf.out w3 (l++ [x.nm]) (Hg2.out.trans (Gr.ak kq)) (aH.next Hc2.out kq);have Vs:=lz kq;refine hK.out _ _ (fun _=>hHeld) ?_;clear hK kq;refine tkS 4 rfl hHeld (v:= ?_) ⟨by rfl,?_⟩ ?_;rotate_left
 ·exact tkY
 simp only[zP,zA,zB,zC];refine tkS 5 rfl hHeld (v:= ?_) ⟨by rfl,?_⟩ ?_;rotate_left
 ·exact tkY
 simp only[zP,zA,zB,zC];refine RQ 6 rfl fun K hK=> ?_;go_simp;refine hK.out _ _ (fun h=>absurd h dz) ?_;clear hK hHeld;refine aL kz ?_ _;go_wp2;go_ret;exact⟨rfl,Hc2.out.next Vs.out,(Gr.ak aV.out).trans (Hg2.out.trans (Gr.ak Vs.out))⟩):q:=z
abbrev bT.B(x:bT)(W:World)(g:Nat):Prop:=ah W g 67 #[.string x.nm,.int .i64 x.mem,.int .i64 x.fr,.slice x.parts.a x.parts.l.length x.parts.c]
def bT.S(x:bT)(Bm Bo g mb:Nat)(k:Nat)(W:World):Prop:=W.cell? ⟨Bm,0,none⟩=some (.map (some mb))∧W.cell? ⟨Bo,0,none⟩=some (.func (.func 35) #[] #[])∧W.cell? ⟨g,0,none⟩=some (.string x.nm)∧W.cell? ⟨g,1,none⟩=some (.int .i64 x.mem)∧W.cell? ⟨g,2,none⟩=some (.int .i64 x.fr)∧W.cell? ⟨g,3,none⟩=some (.slice x.parts.a x.parts.l.length x.parts.c)∧(Instr.lookup 209 (.map (some mb)) (.string x.nm) false).run pG W= .ok (.int .i64 k) W
theorem bT.Ur(x:bT){Bm Bo g mb k:Nat}{W:World}(h1:ah W Bm 209 #[.map (some mb)])(h2:ah W Bo 112 #[.func (.func 35) #[] #[]])(h3:x.B W g)(h4:(Instr.lookup 209 (.map (some mb)) (.string x.nm) false).run pG W= .ok (.int .i64 k) W):x.S Bm Bo g mb k W:=⟨h1.cell 0,h2.cell 0,h3.cell 0,h3.cell 1,h3.cell 2,h3.cell 3,h4⟩
theorem KN(x:bT)(Bm Bo mb:Nat)(l:List ByteArray)(w:World)(hm:ah w Bm 209 #[.map (some mb)])(ho:ah w Bo 112 #[.func (.func 35) #[] #[]])(hc:aH KS w mb l)(hl:l.length<1000000)(hx:x.nm.size≤maxLen):
 Calls pG 155 #[x.val,.pointer (some ⟨Bm,0,none⟩),.pointer (some ⟨Bo,0,none⟩)] w fun e w'=>e= .returned (.bool (decide ((dR x.nm (l++ [x.nm]):Int)=1)))∧aH KS w' mb (l++ [x.nm])∧Gr (· =mb) w w':=by
 have uU:=fun W=>xU x W
 go_enter Tryz.func155,Tryz.ntmps155;exact zQ
theorem Cu(l:List bT)(A:Option Addr)(c B:Nat)(w:World)(h:dK w B A l)(hB:B≤w.heap.size)(hl:l.length≤100000)(hn:∀x∈l,x.nm.size≤maxLen):
 CU 78 #[.slice A l.length c,.func (.func 35) #[] #[]] w (.bool (eM (l.map (·.nm)))):=by
 obtain⟨w1,cN⟩:=ez (((w.alloc (.cells #[.func (.func 35) #[] #[]] 112)).alloc (.map #[] 0)).alloc (.cells #[.map (some (w.heap.size+1))] 209));have bY:Below w.heap.size w w1:=by rw[cN];exact((bN).alloc qz _).alloc qo _
 have ho:ah w1 w.heap.size 112 #[.func (.func 35) #[] #[]]:=by rw[cN];exact((ah.new w _ _).alloc _).alloc _
 have hc:aH KS w1 (w.heap.size+1) []:=by rw[cN];have:=aH.made (M:=KS) (w.alloc (.cells #[.func (.func 35) #[] #[]] 112));rw[World.size_alloc]at this;exact this.alloc _
 have hm:ah w1 (w.heap.size+1+1) 209 #[.map (some (w.heap.size+1))]:=by rw[cN];have:=ah.new ((w.alloc (.cells #[.func (.func 35) #[] #[]] 112)).alloc (.map #[] 0)) 209 #[.map (some (w.heap.size+1))];simp only[World.size_alloc]at this;exact this
 have hz:w1.heap.size=w.heap.size+3:=by rw[cN];simp
 have tu:∀k (hk:k<l.length),(fun k=> !fP (((l.map (·.nm))[k]?).getD ⟨#[]⟩) ((l.map (·.nm)).take k)) k=decide ((dR l[k].nm ((l.map (·.nm)).take (k+1)):Int)=1):=fun k hk=>by
  have h1:=nP (l.map (·.nm)) k (by simpa using hk);rw[List.getElem_map]at h1;rw[h1];simp[List.getElem?_eq_getElem hk]
 have au:=Kh 155 #[.pointer (some ⟨w.heap.size+1+1,0,none⟩),.pointer (some ⟨w.heap.size,0,none⟩)] (fun k=> !fP (((l.map (·.nm))[k]?).getD ⟨#[]⟩) ((l.map (·.nm)).take k)) (fun k W=>ah W (w.heap.size+1+1) 209 #[.map (some (w.heap.size+1))]∧ah W w.heap.size 112 #[.func (.func 35) #[] #[]]∧aH KS W (w.heap.size+1) ((l.map (·.nm)).take k)) (fun k=>k=w.heap.size+1) B
  (enters_of Tryz.func155 kz rfl) l A c w1 (fun k hk W hJ _=>by
   refine(KN l[k] (w.heap.size+1+1) w.heap.size (w.heap.size+1) ((l.map (·.nm)).take k) W hJ.1 hJ.2.1 hJ.2.2 (by have:=List.length_take_le k (l.map (·.nm));simp at this ⊢;omega) (hn _ (List.getElem_mem hk))).mono ?_;rintro e W' ⟨rfl,h2,h3⟩;have ht:(l.map (·.nm)).take k++ [l[k].nm]=(l.map (·.nm)).take (k+1):=by
    rw[List.take_succ_eq_append_getElem (by simpa using hk),List.getElem_map]
   rw[ht]at h2 ⊢;exact⟨by rw[tu k hk],⟨h3.blk hJ.1 oz,h3.blk hJ.2.1 oz,h2⟩,h3⟩)
  (fun k W o hJ=>⟨hJ.1.alloc _,hJ.2.1.alloc _,hJ.2.2.alloc _⟩) ⟨hm,ho,hc⟩ (h.keep (bY.mono hB)) oz (fun k e=>by subst e;omega) oz
 have hD:eM (l.map (·.nm))=(List.range l.length).all (fun k=> !fP (((l.map (·.nm))[k]?).getD ⟨#[]⟩) ((l.map (·.nm)).take k)):=by unfold eM;rw[List.length_map]
 rw[←hD]at au;have HC:=lz au;have lH:=lz cN;have cU:=lz bY;have hmk:= @run_makeMap pG;generalize eM (l.map (·.nm))=q at *;clear au hD cN bY tu hm ho hc hn h hz;go_enter Tryz.func78,Tryz.ntmps78;go_wp2_with fail;rw[←lH.out];refine HC.out.mono ?_;rintro e w2 ⟨rfl,eG,-⟩;have HG:=lz eG;clear HC eG;go_wp2;go_ret;exact⟨rfl,⟨HG.out.os.trans cU.out.os,HG.out.tape.trans cU.out.tape,HG.out.output.trans cU.out.output,nT cU.out.size HG.out.size,fun k hk=>(HG.out.block k (by have:=cU.out.size;omega) oz).trans (cU.out.block k hk)⟩⟩
abbrev iI.B(x:iI)(W:World)(g:Nat):Prop:=ah W g 87 #[.string x.nm,.int .i64 x.net,.int .i64 x.dl,.int .i64 x.st]
def iI.S(x:iI)(Bm Bo g mb:Nat)(k:Nat)(W:World):Prop:=W.cell? ⟨Bm,0,none⟩=some (.map (some mb))∧W.cell? ⟨Bo,0,none⟩=some (.func (.func 37) #[] #[])∧W.cell? ⟨g,0,none⟩=some (.string x.nm)∧W.cell? ⟨g,1,none⟩=some (.int .i64 x.net)∧W.cell? ⟨g,2,none⟩=some (.int .i64 x.dl)∧W.cell? ⟨g,3,none⟩=some (.int .i64 x.st)∧(Instr.lookup 209 (.map (some mb)) (.string x.nm) false).run pG W= .ok (.int .i64 k) W
theorem iI.Ur(x:iI){Bm Bo g mb k:Nat}{W:World}(h1:ah W Bm 209 #[.map (some mb)])(h2:ah W Bo 114 #[.func (.func 37) #[] #[]])(h3:x.B W g)(h4:(Instr.lookup 209 (.map (some mb)) (.string x.nm) false).run pG W= .ok (.int .i64 k) W):x.S Bm Bo g mb k W:=⟨h1.cell 0,h2.cell 0,h3.cell 0,h3.cell 1,h3.cell 2,h3.cell 3,h4⟩
theorem KO(x:iI)(Bm Bo mb:Nat)(l:List ByteArray)(w:World)(hm:ah w Bm 209 #[.map (some mb)])(ho:ah w Bo 114 #[.func (.func 37) #[] #[]])(hc:aH KS w mb l)(hl:l.length<1000000)(hx:x.nm.size≤maxLen):
 Calls pG 156 #[x.val,.pointer (some ⟨Bm,0,none⟩),.pointer (some ⟨Bo,0,none⟩)] w fun e w'=>e= .returned (.bool (decide ((dR x.nm (l++ [x.nm]):Int)=1)))∧aH KS w' mb (l++ [x.nm])∧Gr (· =mb) w w':=by
 have uU:=fun W=>xV x W
 go_enter Tryz.func156,Tryz.ntmps156;exact zQ
theorem Cv(l:List iI)(A:Option Addr)(c B:Nat)(w:World)(h:dL w B A l)(hB:B≤w.heap.size)(hl:l.length≤100000)(hn:∀x∈l,x.nm.size≤maxLen):
 CU 79 #[.slice A l.length c,.func (.func 37) #[] #[]] w (.bool (eM (l.map (·.nm)))):=by
 obtain⟨w1,cN⟩:=ez (((w.alloc (.cells #[.func (.func 37) #[] #[]] 114)).alloc (.map #[] 0)).alloc (.cells #[.map (some (w.heap.size+1))] 209));have bY:Below w.heap.size w w1:=by rw[cN];exact((bN).alloc qz _).alloc qo _
 have ho:ah w1 w.heap.size 114 #[.func (.func 37) #[] #[]]:=by rw[cN];exact((ah.new w _ _).alloc _).alloc _
 have hc:aH KS w1 (w.heap.size+1) []:=by rw[cN];have:=aH.made (M:=KS) (w.alloc (.cells #[.func (.func 37) #[] #[]] 114));rw[World.size_alloc]at this;exact this.alloc _
 have hm:ah w1 (w.heap.size+1+1) 209 #[.map (some (w.heap.size+1))]:=by rw[cN];have:=ah.new ((w.alloc (.cells #[.func (.func 37) #[] #[]] 114)).alloc (.map #[] 0)) 209 #[.map (some (w.heap.size+1))];simp only[World.size_alloc]at this;exact this
 have hz:w1.heap.size=w.heap.size+3:=by rw[cN];simp
 have tu:∀k (hk:k<l.length),(fun k=> !fP (((l.map (·.nm))[k]?).getD ⟨#[]⟩) ((l.map (·.nm)).take k)) k=decide ((dR l[k].nm ((l.map (·.nm)).take (k+1)):Int)=1):=fun k hk=>by
  have h1:=nP (l.map (·.nm)) k (by simpa using hk);rw[List.getElem_map]at h1;rw[h1];simp[List.getElem?_eq_getElem hk]
 have au:=Ki 156 #[.pointer (some ⟨w.heap.size+1+1,0,none⟩),.pointer (some ⟨w.heap.size,0,none⟩)] (fun k=> !fP (((l.map (·.nm))[k]?).getD ⟨#[]⟩) ((l.map (·.nm)).take k)) (fun k W=>ah W (w.heap.size+1+1) 209 #[.map (some (w.heap.size+1))]∧ah W w.heap.size 114 #[.func (.func 37) #[] #[]]∧aH KS W (w.heap.size+1) ((l.map (·.nm)).take k)) (fun k=>k=w.heap.size+1) B
  (enters_of Tryz.func156 kz rfl) l A c w1 (fun k hk W hJ _=>by
   refine(KO l[k] (w.heap.size+1+1) w.heap.size (w.heap.size+1) ((l.map (·.nm)).take k) W hJ.1 hJ.2.1 hJ.2.2 (by have:=List.length_take_le k (l.map (·.nm));simp at this ⊢;omega) (hn _ (List.getElem_mem hk))).mono ?_;rintro e W' ⟨rfl,h2,h3⟩;have ht:(l.map (·.nm)).take k++ [l[k].nm]=(l.map (·.nm)).take (k+1):=by
    rw[List.take_succ_eq_append_getElem (by simpa using hk),List.getElem_map]
   rw[ht]at h2 ⊢;exact⟨by rw[tu k hk],⟨h3.blk hJ.1 oz,h3.blk hJ.2.1 oz,h2⟩,h3⟩)
  (fun k W o hJ=>⟨hJ.1.alloc _,hJ.2.1.alloc _,hJ.2.2.alloc _⟩) ⟨hm,ho,hc⟩ (h.keep (bY.mono hB)) oz (fun k e=>by subst e;omega) oz
 have hD:eM (l.map (·.nm))=(List.range l.length).all (fun k=> !fP (((l.map (·.nm))[k]?).getD ⟨#[]⟩) ((l.map (·.nm)).take k)):=by unfold eM;rw[List.length_map]
 rw[←hD]at au;have HC:=lz au;have lH:=lz cN;have cU:=lz bY;have hmk:= @run_makeMap pG;generalize eM (l.map (·.nm))=q at *;clear au hD cN bY tu hm ho hc hn h hz;go_enter Tryz.func79,Tryz.ntmps79;go_wp2_with fail;rw[←lH.out];refine HC.out.mono ?_;rintro e w2 ⟨rfl,eG,-⟩;have HG:=lz eG;clear HC eG;go_wp2;go_ret;exact⟨rfl,⟨HG.out.os.trans cU.out.os,HG.out.tape.trans cU.out.tape,HG.out.output.trans cU.out.output,nT cU.out.size HG.out.size,fun k hk=>(HG.out.block k (by have:=cU.out.size;omega) oz).trans (cU.out.block k hk)⟩⟩
abbrev aC.B(x:aC)(W:World)(g:Nat):Prop:=ah W g 71 #[.string x.nm,.int .i64 x.pe,.int .i64 x.le,.int .i64 x.mem,.slice x.aG.a x.aG.l.length x.aG.c,.int .i64 x.ev,.int .i64 x.bo,.slice x.aX.a x.aX.l.length x.aX.c,.slice x.aq.a x.aq.l.length x.aq.c,.slice x.procs.a x.procs.l.length x.procs.c]
def aC.S(x:aC)(Bm Bo g mb:Nat)(k:Nat)(W:World):Prop:=W.cell? ⟨Bm,0,none⟩=some (.map (some mb))∧W.cell? ⟨Bo,0,none⟩=some (.func (.func 72) #[] #[])∧W.cell? ⟨g,0,none⟩=some (.string x.nm)∧W.cell? ⟨g,1,none⟩=some (.int .i64 x.pe)∧W.cell? ⟨g,2,none⟩=some (.int .i64 x.le)∧W.cell? ⟨g,3,none⟩=some (.int .i64 x.mem)∧W.cell? ⟨g,4,none⟩=some (.slice x.aG.a x.aG.l.length x.aG.c)∧W.cell? ⟨g,5,none⟩=some (.int .i64 x.ev)∧W.cell? ⟨g,6,none⟩=some (.int .i64 x.bo)∧W.cell? ⟨g,7,none⟩=some (.slice x.aX.a x.aX.l.length x.aX.c)∧W.cell? ⟨g,8,none⟩=some (.slice x.aq.a x.aq.l.length x.aq.c)∧W.cell? ⟨g,9,none⟩=some (.slice x.procs.a x.procs.l.length x.procs.c)∧(Instr.lookup 209 (.map (some mb)) (.string x.nm) false).run pG W= .ok (.int .i64 k) W
theorem aC.Ur(x:aC){Bm Bo g mb k:Nat}{W:World}(h1:ah W Bm 209 #[.map (some mb)])(h2:ah W Bo 158 #[.func (.func 72) #[] #[]])(h3:x.B W g)(h4:(Instr.lookup 209 (.map (some mb)) (.string x.nm) false).run pG W= .ok (.int .i64 k) W):x.S Bm Bo g mb k W:=⟨h1.cell 0,h2.cell 0,h3.cell 0,h3.cell 1,h3.cell 2,h3.cell 3,h3.cell 4,h3.cell 5,h3.cell 6,h3.cell 7,h3.cell 8,h3.cell 9,h4⟩
theorem Qs(x:aC)(Bm Bo mb:Nat)(l:List ByteArray)(w:World)(hm:ah w Bm 209 #[.map (some mb)])(ho:ah w Bo 158 #[.func (.func 72) #[] #[]])(hc:aH KS w mb l)(hl:l.length<1000000)(hx:x.nm.size≤maxLen):
 Calls pG 152 #[x.val,.pointer (some ⟨Bm,0,none⟩),.pointer (some ⟨Bo,0,none⟩)] w fun e w'=>e= .returned (.bool (decide ((dR x.nm (l++ [x.nm]):Int)=1)))∧aH KS w' mb (l++ [x.nm])∧Gr (· =mb) w w':=by
 have uU:=fun W=>D4 x W
 go_enter Tryz.func152,Tryz.ntmps152;exact zQ
theorem Gn(l:List aC)(A:Option Addr)(c B:Nat)(w:World)(h:fW w B A l)(hB:B≤w.heap.size)(hl:l.length≤100000)(hn:∀x∈l,x.nm.size≤maxLen):
 CU 71 #[.slice A l.length c,.func (.func 72) #[] #[]] w (.bool (eM (l.map (·.nm)))):=by
 obtain⟨w1,cN⟩:=ez (((w.alloc (.cells #[.func (.func 72) #[] #[]] 158)).alloc (.map #[] 0)).alloc (.cells #[.map (some (w.heap.size+1))] 209));have bY:Below w.heap.size w w1:=by rw[cN];exact((bN).alloc qz _).alloc qo _
 have ho:ah w1 w.heap.size 158 #[.func (.func 72) #[] #[]]:=by rw[cN];exact((ah.new w _ _).alloc _).alloc _
 have hc:aH KS w1 (w.heap.size+1) []:=by rw[cN];have:=aH.made (M:=KS) (w.alloc (.cells #[.func (.func 72) #[] #[]] 158));rw[World.size_alloc]at this;exact this.alloc _
 have hm:ah w1 (w.heap.size+1+1) 209 #[.map (some (w.heap.size+1))]:=by rw[cN];have:=ah.new ((w.alloc (.cells #[.func (.func 72) #[] #[]] 158)).alloc (.map #[] 0)) 209 #[.map (some (w.heap.size+1))];simp only[World.size_alloc]at this;exact this
 have hz:w1.heap.size=w.heap.size+3:=by rw[cN];simp
 have tu:∀k (hk:k<l.length),(fun k=> !fP (((l.map (·.nm))[k]?).getD ⟨#[]⟩) ((l.map (·.nm)).take k)) k=decide ((dR l[k].nm ((l.map (·.nm)).take (k+1)):Int)=1):=fun k hk=>by
  have h1:=nP (l.map (·.nm)) k (by simpa using hk);rw[List.getElem_map]at h1;rw[h1];simp[List.getElem?_eq_getElem hk]
 have au:=PU 152 #[.pointer (some ⟨w.heap.size+1+1,0,none⟩),.pointer (some ⟨w.heap.size,0,none⟩)] (fun k=> !fP (((l.map (·.nm))[k]?).getD ⟨#[]⟩) ((l.map (·.nm)).take k)) (fun k W=>ah W (w.heap.size+1+1) 209 #[.map (some (w.heap.size+1))]∧ah W w.heap.size 158 #[.func (.func 72) #[] #[]]∧aH KS W (w.heap.size+1) ((l.map (·.nm)).take k)) (fun k=>k=w.heap.size+1) B
  (enters_of Tryz.func152 kz rfl) l A c w1 (fun k hk W hJ _=>by
   refine(Qs l[k] (w.heap.size+1+1) w.heap.size (w.heap.size+1) ((l.map (·.nm)).take k) W hJ.1 hJ.2.1 hJ.2.2 (by have:=List.length_take_le k (l.map (·.nm));simp at this ⊢;omega) (hn _ (List.getElem_mem hk))).mono ?_;rintro e W' ⟨rfl,h2,h3⟩;have ht:(l.map (·.nm)).take k++ [l[k].nm]=(l.map (·.nm)).take (k+1):=by
    rw[List.take_succ_eq_append_getElem (by simpa using hk),List.getElem_map]
   rw[ht]at h2 ⊢;exact⟨by rw[tu k hk],⟨h3.blk hJ.1 oz,h3.blk hJ.2.1 oz,h2⟩,h3⟩)
  (fun k W o hJ=>⟨hJ.1.alloc _,hJ.2.1.alloc _,hJ.2.2.alloc _⟩) ⟨hm,ho,hc⟩ (h.keep (bY.mono hB)) oz (fun k e=>by subst e;omega) oz
 have hD:eM (l.map (·.nm))=(List.range l.length).all (fun k=> !fP (((l.map (·.nm))[k]?).getD ⟨#[]⟩) ((l.map (·.nm)).take k)):=by unfold eM;rw[List.length_map]
 rw[←hD]at au;have HC:=lz au;have lH:=lz cN;have cU:=lz bY;have hmk:= @run_makeMap pG;generalize eM (l.map (·.nm))=q at *;clear au hD cN bY tu hm ho hc hn h hz;go_enter Tryz.func71,Tryz.ntmps71;go_wp2_with fail;rw[←lH.out];refine HC.out.mono ?_;rintro e w2 ⟨rfl,eG,-⟩;have HG:=lz eG;clear HC eG;go_wp2;go_ret;exact⟨rfl,⟨HG.out.os.trans cU.out.os,HG.out.tape.trans cU.out.tape,HG.out.output.trans cU.out.output,nT cU.out.size HG.out.size,fun k hk=>(HG.out.block k (by have:=cU.out.size;omega) oz).trans (cU.out.block k hk)⟩⟩
abbrev aM.B(x:aM)(W:World)(g:Nat):Prop:=ah W g 73 #[.string x.nm,.int .u8 x.kd,.bool x.out,.int .i64 x.sz,.int .i64 x.dp,.int .i64 x.rf]
def aM.S(x:aM)(Bm Bo g mb:Nat)(k:Nat)(W:World):Prop:=W.cell? ⟨Bm,0,none⟩=some (.map (some mb))∧W.cell? ⟨Bo,0,none⟩=some (.func (.func 74) #[] #[])∧W.cell? ⟨g,0,none⟩=some (.string x.nm)∧W.cell? ⟨g,1,none⟩=some (.int .u8 x.kd)∧W.cell? ⟨g,2,none⟩=some (.bool x.out)∧W.cell? ⟨g,3,none⟩=some (.int .i64 x.sz)∧W.cell? ⟨g,4,none⟩=some (.int .i64 x.dp)∧W.cell? ⟨g,5,none⟩=some (.int .i64 x.rf)∧(Instr.lookup 209 (.map (some mb)) (.string x.nm) false).run pG W= .ok (.int .i64 k) W
theorem aM.Ur(x:aM){Bm Bo g mb k:Nat}{W:World}(h1:ah W Bm 209 #[.map (some mb)])(h2:ah W Bo 160 #[.func (.func 74) #[] #[]])(h3:x.B W g)(h4:(Instr.lookup 209 (.map (some mb)) (.string x.nm) false).run pG W= .ok (.int .i64 k) W):x.S Bm Bo g mb k W:=⟨h1.cell 0,h2.cell 0,h3.cell 0,h3.cell 1,h3.cell 2,h3.cell 3,h3.cell 4,h3.cell 5,h4⟩
theorem Qt(x:aM)(Bm Bo mb:Nat)(l:List ByteArray)(w:World)(hm:ah w Bm 209 #[.map (some mb)])(ho:ah w Bo 160 #[.func (.func 74) #[] #[]])(hc:aH KS w mb l)(hl:l.length<1000000)(hx:x.nm.size≤maxLen):
 Calls pG 153 #[x.val,.pointer (some ⟨Bm,0,none⟩),.pointer (some ⟨Bo,0,none⟩)] w fun e w'=>e= .returned (.bool (decide ((dR x.nm (l++ [x.nm]):Int)=1)))∧aH KS w' mb (l++ [x.nm])∧Gr (· =mb) w w':=by
 have uU:=fun W=>D5 x W
 go_enter Tryz.func153,Tryz.ntmps153;exact zQ
theorem Gp(l:List aM)(A:Option Addr)(c B:Nat)(w:World)(h:fu w B A l)(hB:B≤w.heap.size)(hl:l.length≤100000)(hn:∀x∈l,x.nm.size≤maxLen):
 CU 73 #[.slice A l.length c,.func (.func 74) #[] #[]] w (.bool (eM (l.map (·.nm)))):=by
 obtain⟨w1,cN⟩:=ez (((w.alloc (.cells #[.func (.func 74) #[] #[]] 160)).alloc (.map #[] 0)).alloc (.cells #[.map (some (w.heap.size+1))] 209));have bY:Below w.heap.size w w1:=by rw[cN];exact((bN).alloc qz _).alloc qo _
 have ho:ah w1 w.heap.size 160 #[.func (.func 74) #[] #[]]:=by rw[cN];exact((ah.new w _ _).alloc _).alloc _
 have hc:aH KS w1 (w.heap.size+1) []:=by rw[cN];have:=aH.made (M:=KS) (w.alloc (.cells #[.func (.func 74) #[] #[]] 160));rw[World.size_alloc]at this;exact this.alloc _
 have hm:ah w1 (w.heap.size+1+1) 209 #[.map (some (w.heap.size+1))]:=by rw[cN];have:=ah.new ((w.alloc (.cells #[.func (.func 74) #[] #[]] 160)).alloc (.map #[] 0)) 209 #[.map (some (w.heap.size+1))];simp only[World.size_alloc]at this;exact this
 have hz:w1.heap.size=w.heap.size+3:=by rw[cN];simp
 have tu:∀k (hk:k<l.length),(fun k=> !fP (((l.map (·.nm))[k]?).getD ⟨#[]⟩) ((l.map (·.nm)).take k)) k=decide ((dR l[k].nm ((l.map (·.nm)).take (k+1)):Int)=1):=fun k hk=>by
  have h1:=nP (l.map (·.nm)) k (by simpa using hk);rw[List.getElem_map]at h1;rw[h1];simp[List.getElem?_eq_getElem hk]
 have au:=PV 153 #[.pointer (some ⟨w.heap.size+1+1,0,none⟩),.pointer (some ⟨w.heap.size,0,none⟩)] (fun k=> !fP (((l.map (·.nm))[k]?).getD ⟨#[]⟩) ((l.map (·.nm)).take k)) (fun k W=>ah W (w.heap.size+1+1) 209 #[.map (some (w.heap.size+1))]∧ah W w.heap.size 160 #[.func (.func 74) #[] #[]]∧aH KS W (w.heap.size+1) ((l.map (·.nm)).take k)) (fun k=>k=w.heap.size+1) B
  (enters_of Tryz.func153 kz rfl) l A c w1 (fun k hk W hJ _=>by
   refine(Qt l[k] (w.heap.size+1+1) w.heap.size (w.heap.size+1) ((l.map (·.nm)).take k) W hJ.1 hJ.2.1 hJ.2.2 (by have:=List.length_take_le k (l.map (·.nm));simp at this ⊢;omega) (hn _ (List.getElem_mem hk))).mono ?_;rintro e W' ⟨rfl,h2,h3⟩;have ht:(l.map (·.nm)).take k++ [l[k].nm]=(l.map (·.nm)).take (k+1):=by
    rw[List.take_succ_eq_append_getElem (by simpa using hk),List.getElem_map]
   rw[ht]at h2 ⊢;exact⟨by rw[tu k hk],⟨h3.blk hJ.1 oz,h3.blk hJ.2.1 oz,h2⟩,h3⟩)
  (fun k W o hJ=>⟨hJ.1.alloc _,hJ.2.1.alloc _,hJ.2.2.alloc _⟩) ⟨hm,ho,hc⟩ (h.keep (bY.mono hB)) oz (fun k e=>by subst e;omega) oz
 have hD:eM (l.map (·.nm))=(List.range l.length).all (fun k=> !fP (((l.map (·.nm))[k]?).getD ⟨#[]⟩) ((l.map (·.nm)).take k)):=by unfold eM;rw[List.length_map]
 rw[←hD]at au;have HC:=lz au;have lH:=lz cN;have cU:=lz bY;have hmk:= @run_makeMap pG;generalize eM (l.map (·.nm))=q at *;clear au hD cN bY tu hm ho hc hn h hz;go_enter Tryz.func73,Tryz.ntmps73;go_wp2_with fail;rw[←lH.out];refine HC.out.mono ?_;rintro e w2 ⟨rfl,eG,-⟩;have HG:=lz eG;clear HC eG;go_wp2;go_ret;exact⟨rfl,⟨HG.out.os.trans cU.out.os,HG.out.tape.trans cU.out.tape,HG.out.output.trans cU.out.output,nT cU.out.size HG.out.size,fun k hk=>(HG.out.block k (by have:=cU.out.size;omega) oz).trans (cU.out.block k hk)⟩⟩
abbrev cT.B(x:cT)(W:World)(g:Nat):Prop:=ah W g 76 #[.string x.nm,.int .i64 x.pr,.int .i64 x.pe,.int .i64 x.li,.slice x.code.a x.code.l.length x.code.c]
def cT.S(x:cT)(Bm Bo g mb:Nat)(k:Nat)(W:World):Prop:=W.cell? ⟨Bm,0,none⟩=some (.map (some mb))∧W.cell? ⟨Bo,0,none⟩=some (.func (.func 76) #[] #[])∧W.cell? ⟨g,0,none⟩=some (.string x.nm)∧W.cell? ⟨g,1,none⟩=some (.int .i64 x.pr)∧W.cell? ⟨g,2,none⟩=some (.int .i64 x.pe)∧W.cell? ⟨g,3,none⟩=some (.int .i64 x.li)∧W.cell? ⟨g,4,none⟩=some (.slice x.code.a x.code.l.length x.code.c)∧(Instr.lookup 209 (.map (some mb)) (.string x.nm) false).run pG W= .ok (.int .i64 k) W
theorem cT.Ur(x:cT){Bm Bo g mb k:Nat}{W:World}(h1:ah W Bm 209 #[.map (some mb)])(h2:ah W Bo 162 #[.func (.func 76) #[] #[]])(h3:x.B W g)(h4:(Instr.lookup 209 (.map (some mb)) (.string x.nm) false).run pG W= .ok (.int .i64 k) W):x.S Bm Bo g mb k W:=⟨h1.cell 0,h2.cell 0,h3.cell 0,h3.cell 1,h3.cell 2,h3.cell 3,h3.cell 4,h4⟩
theorem Qu(x:cT)(Bm Bo mb:Nat)(l:List ByteArray)(w:World)(hm:ah w Bm 209 #[.map (some mb)])(ho:ah w Bo 162 #[.func (.func 76) #[] #[]])(hc:aH KS w mb l)(hl:l.length<1000000)(hx:x.nm.size≤maxLen):
 Calls pG 154 #[x.val,.pointer (some ⟨Bm,0,none⟩),.pointer (some ⟨Bo,0,none⟩)] w fun e w'=>e= .returned (.bool (decide ((dR x.nm (l++ [x.nm]):Int)=1)))∧aH KS w' mb (l++ [x.nm])∧Gr (· =mb) w w':=by
 have uU:=fun W=>P9 x W
 go_enter Tryz.func154,Tryz.ntmps154;exact zQ
theorem Gq(l:List cT)(A:Option Addr)(c B:Nat)(w:World)(h:gI w B A l)(hB:B≤w.heap.size)(hl:l.length≤100000)(hn:∀x∈l,x.nm.size≤maxLen):
 CU 75 #[.slice A l.length c,.func (.func 76) #[] #[]] w (.bool (eM (l.map (·.nm)))):=by
 obtain⟨w1,cN⟩:=ez (((w.alloc (.cells #[.func (.func 76) #[] #[]] 162)).alloc (.map #[] 0)).alloc (.cells #[.map (some (w.heap.size+1))] 209));have bY:Below w.heap.size w w1:=by rw[cN];exact((bN).alloc qz _).alloc qo _
 have ho:ah w1 w.heap.size 162 #[.func (.func 76) #[] #[]]:=by rw[cN];exact((ah.new w _ _).alloc _).alloc _
 have hc:aH KS w1 (w.heap.size+1) []:=by rw[cN];have:=aH.made (M:=KS) (w.alloc (.cells #[.func (.func 76) #[] #[]] 162));rw[World.size_alloc]at this;exact this.alloc _
 have hm:ah w1 (w.heap.size+1+1) 209 #[.map (some (w.heap.size+1))]:=by rw[cN];have:=ah.new ((w.alloc (.cells #[.func (.func 76) #[] #[]] 162)).alloc (.map #[] 0)) 209 #[.map (some (w.heap.size+1))];simp only[World.size_alloc]at this;exact this
 have hz:w1.heap.size=w.heap.size+3:=by rw[cN];simp
 have tu:∀k (hk:k<l.length),(fun k=> !fP (((l.map (·.nm))[k]?).getD ⟨#[]⟩) ((l.map (·.nm)).take k)) k=decide ((dR l[k].nm ((l.map (·.nm)).take (k+1)):Int)=1):=fun k hk=>by
  have h1:=nP (l.map (·.nm)) k (by simpa using hk);rw[List.getElem_map]at h1;rw[h1];simp[List.getElem?_eq_getElem hk]
 have au:=PW 154 #[.pointer (some ⟨w.heap.size+1+1,0,none⟩),.pointer (some ⟨w.heap.size,0,none⟩)] (fun k=> !fP (((l.map (·.nm))[k]?).getD ⟨#[]⟩) ((l.map (·.nm)).take k)) (fun k W=>ah W (w.heap.size+1+1) 209 #[.map (some (w.heap.size+1))]∧ah W w.heap.size 162 #[.func (.func 76) #[] #[]]∧aH KS W (w.heap.size+1) ((l.map (·.nm)).take k)) (fun k=>k=w.heap.size+1) B
  (enters_of Tryz.func154 kz rfl) l A c w1 (fun k hk W hJ _=>by
   refine(Qu l[k] (w.heap.size+1+1) w.heap.size (w.heap.size+1) ((l.map (·.nm)).take k) W hJ.1 hJ.2.1 hJ.2.2 (by have:=List.length_take_le k (l.map (·.nm));simp at this ⊢;omega) (hn _ (List.getElem_mem hk))).mono ?_;rintro e W' ⟨rfl,h2,h3⟩;have ht:(l.map (·.nm)).take k++ [l[k].nm]=(l.map (·.nm)).take (k+1):=by
    rw[List.take_succ_eq_append_getElem (by simpa using hk),List.getElem_map]
   rw[ht]at h2 ⊢;exact⟨by rw[tu k hk],⟨h3.blk hJ.1 oz,h3.blk hJ.2.1 oz,h2⟩,h3⟩)
  (fun k W o hJ=>⟨hJ.1.alloc _,hJ.2.1.alloc _,hJ.2.2.alloc _⟩) ⟨hm,ho,hc⟩ (h.keep (bY.mono hB)) oz (fun k e=>by subst e;omega) oz
 have hD:eM (l.map (·.nm))=(List.range l.length).all (fun k=> !fP (((l.map (·.nm))[k]?).getD ⟨#[]⟩) ((l.map (·.nm)).take k)):=by unfold eM;rw[List.length_map]
 rw[←hD]at au;have HC:=lz au;have lH:=lz cN;have cU:=lz bY;have hmk:= @run_makeMap pG;generalize eM (l.map (·.nm))=q at *;clear au hD cN bY tu hm ho hc hn h hz;go_enter Tryz.func75,Tryz.ntmps75;go_wp2_with fail;rw[←lH.out];refine HC.out.mono ?_;rintro e w2 ⟨rfl,eG,-⟩;have HG:=lz eG;clear HC eG;go_wp2;go_ret;exact⟨rfl,⟨HG.out.os.trans cU.out.os,HG.out.tape.trans cU.out.tape,HG.out.output.trans cU.out.output,nT cU.out.size HG.out.size,fun k hk=>(HG.out.block k (by have:=cU.out.size;omega) oz).trans (cU.out.block k hk)⟩⟩
abbrev fU.B(x:fU)(W:World)(g:Nat):Prop:=ah W g 44 #[.string x.nm,.string x.src.m,.string x.src.p,.string x.src.o,.int .i64 x.lQ,.int .i64 x.mx,.slice x.dst.a x.dst.l.length x.dst.c]
def fU.S(x:fU)(Bm Bo g mb:Nat)(k:Nat)(W:World):Prop:=W.cell? ⟨Bm,0,none⟩=some (.map (some mb))∧W.cell? ⟨Bo,0,none⟩=some (.func (.func 81) #[] #[])∧W.cell? ⟨g,0,none⟩=some (.string x.nm)∧W.cell? ⟨g,1,none⟩=some (.string x.src.m)∧W.cell? ⟨g,2,none⟩=some (.string x.src.p)∧W.cell? ⟨g,3,none⟩=some (.string x.src.o)∧W.cell? ⟨g,4,none⟩=some (.int .i64 x.lQ)∧W.cell? ⟨g,5,none⟩=some (.int .i64 x.mx)∧W.cell? ⟨g,6,none⟩=some (.slice x.dst.a x.dst.l.length x.dst.c)∧(Instr.lookup 209 (.map (some mb)) (.string x.nm) false).run pG W= .ok (.int .i64 k) W
theorem fU.Ur(x:fU){Bm Bo g mb k:Nat}{W:World}(h1:ah W Bm 209 #[.map (some mb)])(h2:ah W Bo 166 #[.func (.func 81) #[] #[]])(h3:x.B W g)(h4:(Instr.lookup 209 (.map (some mb)) (.string x.nm) false).run pG W= .ok (.int .i64 k) W):x.S Bm Bo g mb k W:=⟨h1.cell 0,h2.cell 0,h3.cell 0,h3.cell 1,h3.cell 2,h3.cell 3,h3.cell 4,h3.cell 5,h3.cell 6,h4⟩
theorem Xx(x:fU)(Bm Bo mb:Nat)(l:List ByteArray)(w:World)(hm:ah w Bm 209 #[.map (some mb)])(ho:ah w Bo 166 #[.func (.func 81) #[] #[]])(hc:aH KS w mb l)(hl:l.length<1000000)(hx:x.nm.size≤maxLen):
 Calls pG 157 #[x.val,.pointer (some ⟨Bm,0,none⟩),.pointer (some ⟨Bo,0,none⟩)] w fun e w'=>e= .returned (.bool (decide ((dR x.nm (l++ [x.nm]):Int)=1)))∧aH KS w' mb (l++ [x.nm])∧Gr (· =mb) w w':=by
 have uU:=fun W=>WG x W
 go_enter Tryz.func157,Tryz.ntmps157;exact zQ
theorem NG(l:List fU)(A:Option Addr)(c B:Nat)(w:World)(h:mV w B A l)(hB:B≤w.heap.size)(hl:l.length≤100000)(hn:∀x∈l,x.nm.size≤maxLen):
 CU 80 #[.slice A l.length c,.func (.func 81) #[] #[]] w (.bool (eM (l.map (·.nm)))):=by
 obtain⟨w1,cN⟩:=ez (((w.alloc (.cells #[.func (.func 81) #[] #[]] 166)).alloc (.map #[] 0)).alloc (.cells #[.map (some (w.heap.size+1))] 209));have bY:Below w.heap.size w w1:=by rw[cN];exact((bN).alloc qz _).alloc qo _
 have ho:ah w1 w.heap.size 166 #[.func (.func 81) #[] #[]]:=by rw[cN];exact((ah.new w _ _).alloc _).alloc _
 have hc:aH KS w1 (w.heap.size+1) []:=by rw[cN];have:=aH.made (M:=KS) (w.alloc (.cells #[.func (.func 81) #[] #[]] 166));rw[World.size_alloc]at this;exact this.alloc _
 have hm:ah w1 (w.heap.size+1+1) 209 #[.map (some (w.heap.size+1))]:=by rw[cN];have:=ah.new ((w.alloc (.cells #[.func (.func 81) #[] #[]] 166)).alloc (.map #[] 0)) 209 #[.map (some (w.heap.size+1))];simp only[World.size_alloc]at this;exact this
 have hz:w1.heap.size=w.heap.size+3:=by rw[cN];simp
 have tu:∀k (hk:k<l.length),(fun k=> !fP (((l.map (·.nm))[k]?).getD ⟨#[]⟩) ((l.map (·.nm)).take k)) k=decide ((dR l[k].nm ((l.map (·.nm)).take (k+1)):Int)=1):=fun k hk=>by
  have h1:=nP (l.map (·.nm)) k (by simpa using hk);rw[List.getElem_map]at h1;rw[h1];simp[List.getElem?_eq_getElem hk]
 have au:=Wo 157 #[.pointer (some ⟨w.heap.size+1+1,0,none⟩),.pointer (some ⟨w.heap.size,0,none⟩)] (fun k=> !fP (((l.map (·.nm))[k]?).getD ⟨#[]⟩) ((l.map (·.nm)).take k)) (fun k W=>ah W (w.heap.size+1+1) 209 #[.map (some (w.heap.size+1))]∧ah W w.heap.size 166 #[.func (.func 81) #[] #[]]∧aH KS W (w.heap.size+1) ((l.map (·.nm)).take k)) (fun k=>k=w.heap.size+1) B
  (enters_of Tryz.func157 kz rfl) l A c w1 (fun k hk W hJ _=>by
   refine(Xx l[k] (w.heap.size+1+1) w.heap.size (w.heap.size+1) ((l.map (·.nm)).take k) W hJ.1 hJ.2.1 hJ.2.2 (by have:=List.length_take_le k (l.map (·.nm));simp at this ⊢;omega) (hn _ (List.getElem_mem hk))).mono ?_;rintro e W' ⟨rfl,h2,h3⟩;have ht:(l.map (·.nm)).take k++ [l[k].nm]=(l.map (·.nm)).take (k+1):=by
    rw[List.take_succ_eq_append_getElem (by simpa using hk),List.getElem_map]
   rw[ht]at h2 ⊢;exact⟨by rw[tu k hk],⟨h3.blk hJ.1 oz,h3.blk hJ.2.1 oz,h2⟩,h3⟩)
  (fun k W o hJ=>⟨hJ.1.alloc _,hJ.2.1.alloc _,hJ.2.2.alloc _⟩) ⟨hm,ho,hc⟩ (h.keep (bY.mono hB)) oz (fun k e=>by subst e;omega) oz
 have hD:eM (l.map (·.nm))=(List.range l.length).all (fun k=> !fP (((l.map (·.nm))[k]?).getD ⟨#[]⟩) ((l.map (·.nm)).take k)):=by unfold eM;rw[List.length_map]
 rw[←hD]at au;have HC:=lz au;have lH:=lz cN;have cU:=lz bY;have hmk:= @run_makeMap pG;generalize eM (l.map (·.nm))=q at *;clear au hD cN bY tu hm ho hc hn h hz;go_enter Tryz.func80,Tryz.ntmps80;go_wp2_with fail;rw[←lH.out];refine HC.out.mono ?_;rintro e w2 ⟨rfl,eG,-⟩;have HG:=lz eG;clear HC eG;go_wp2;go_ret;exact⟨rfl,⟨HG.out.os.trans cU.out.os,HG.out.tape.trans cU.out.tape,HG.out.output.trans cU.out.output,nT cU.out.size HG.out.size,fun k hk=>(HG.out.block k (by have:=cU.out.size;omega) oz).trans (cU.out.block k hk)⟩⟩
structure aI6(x:ay):Prop where
 m:∀m∈x.mods.l,m.nm.size≤maxLen∧m.parts.l.length≤100000
 p:∀y∈fE x,y.2.nm.size≤maxLen∧y.2.aq.l.length≤100000∧y.2.procs.l.length≤100000∧(∀q∈y.2.aq.l,q.nm.size≤maxLen)∧∀q∈y.2.procs.l,q.nm.size≤maxLen
 s:∀s∈x.aP.l,s.nm.size≤maxLen
 v:∀s∈x.aF.l,s.nm.size≤maxLen
 ml:x.mods.l.length≤100000
 sl:x.aP.l.length≤100000
 vl:x.aF.l.length≤100000
theorem tY{x:ay}{m:bT}{p:aC}(h:(m,p)∈fE x):m∈x.mods.l∧p∈m.parts.l:=by
 unfold fE at h;obtain⟨m',hm,hy⟩:=List.mem_flatMap.1 h;obtain⟨p',hp,e⟩:=List.mem_map.1 hy;injection e with e1 e2
 subst e1 e2;exact⟨hm,hp⟩
theorem Jc{x:ay}{m:bT}{p:aC}(hm:m∈x.mods.l)(hp:p∈m.parts.l):(m,p)∈fE x:=
 List.mem_flatMap.2 ⟨m,hm,List.mem_map.2 ⟨p,hp,rfl⟩⟩
def qH(x:ay)(y:bT):Bool:=decide (cV (fun s:iI=>seqB s.nm y.nm) x.aP.l<0)
def nmB(y:WM):Bool:=eM (y.1.parts.l.map (·.nm))&&(eM (y.2.aq.l.map (·.nm))&&eM (y.2.procs.l.map (·.nm)))
def zR(x:ay):Bool:=(fE x).all nmB&&(eM (x.mods.l.map (·.nm))&&eM (x.aP.l.map (·.nm))&&x.mods.l.all (qH x)&&eM (x.aF.l.map (·.nm)))
theorem aBl(x:ay)(y:bT)(g Bc:Nat)(w:World)(hb:ah w Bc 92 #[.pointer (some ⟨g,0,none⟩)])(h:tU w g x)(hr:x.rd w w.heap.size)(Qc:x.aP.l.length≤100000):
 CU 77 #[y.val,.pointer (some ⟨Bc,0,none⟩)] w (.bool (qH x y)):=by
 obtain⟨y0,bR⟩:=ez (w.alloc (.cells #[.string y.nm,.int .i64 y.mem,.int .i64 y.fr,.slice y.parts.a y.parts.l.length y.parts.c] 67));have bW:Below w.heap.size w y0:=by rw[bR];exact bN
 have bS:ah y0 w.heap.size 67 #[.string y.nm,.int .i64 y.mem,.int .i64 y.fr,.slice y.parts.a y.parts.l.length y.parts.c]:=by rw[bR];exact ah.new w _ _
 have hg0:=h.below bW;have yh:=hb.below bW hb.lt;have d0:=bS.cell 0;have c0:=yh.cell 0;have k2:=hg0.cell 2;have hl0:=bS.lt;have DL:=yh.lt;have Cb:=ah.lt hg0;have iR:=bn y0;have jy:=hr.below bW;have au:∀z:Ext y0,CU 36 #[.slice x.aP.a x.aP.l.length x.aP.c,.func (.func 37) #[] #[],.string y.nm] z.w (.int .i64 (cV (fun s:iI=>seqB s.nm y.nm) x.aP.l)):=fun z=>
  xW y.nm x.aP.l x.aP.a x.aP.c z.w (jy.aP.below z.h) oz
 obtain⟨n,hn⟩:=ez (cV (fun s:iI=>seqB s.nm y.nm) x.aP.l);rw[←hn]at au;have HN:=lz (show qH x y=decide (n<0)by rw[hn];rfl);have aN:=lz au;have aV:=lz bW;have dV:=lz bR;clear au bW bR bS yh hg0 jy hr h hb hn;go_enter Tryz.func77,Tryz.ntmps77;go_wp2_with fail;rw[←dV.out];refine aB kz kz ?_;repeat (go_big_quiet_step ((go_at_call 36;with_reducible exact dN (aN.out _))))
 refine wpQuiet_nil ?_;intro _ hw';obtain⟨xx,hw''⟩:=hw';subst hw'';have eF:=lz (aV.out.trans (xx.h.mono aV.out.size));clear iR aN d0 c0 k2;generalize xx.w=w2 at *;go_wp2;go_ret;exact⟨by rw[HN.out]<;>rfl,eF.out⟩
theorem aBm(x:ay)(g:Nat)(w:World)(h:tU w g x)(hr:x.rd w w.heap.size)(hn:aI6 x):CU 24 #[.pointer (some ⟨g,0,none⟩)] w (.bool (zR x)):=by
 obtain⟨w1,cN⟩:=ez ((((w.alloc (.cells #[.pointer (some ⟨g,0,none⟩)] 92)).alloc (.cells #[.bool false] 4)).alloc (.cells #[.pointer (some ⟨g,0,none⟩)] 92)));have aU:Below w.heap.size w w1:=by rw[cN];exact((bN).alloc qz _).alloc qo _
 have yh:ah w1 w.heap.size 92 #[.pointer (some ⟨g,0,none⟩)]:=by rw[cN];exact((ah.new w _ _).alloc _).alloc _
 have jy:ah w1 (w.heap.size+1) 4 #[.bool false]:=by rw[cN];have:=ah.new (w.alloc (.cells #[.pointer (some ⟨g,0,none⟩)] 92)) 4 #[.bool false];rw[World.size_alloc]at this;exact this.alloc _
 have gP:ah w1 (w.heap.size+1+1) 92 #[.pointer (some ⟨g,0,none⟩)]:=by rw[cN];have:=ah.new ((w.alloc (.cells #[.pointer (some ⟨g,0,none⟩)] 92)).alloc (.cells #[.bool false] 4)) 92 #[.pointer (some ⟨g,0,none⟩)];simp only[World.size_alloc]at this;exact this
 have hz:w1.heap.size=w.heap.size+3:=by rw[cN];simp
 have gH:D6 w1 g (w.heap.size+1+1) w.heap.size x:=⟨gP,h.below aU,hr.dn nL (cZ aU),oz⟩;have IK:x.mods.l.length≤9223372036854775807:=nT hr.AU (nT hr.AV dz);have um:=lz (CQ x g (w.heap.size+1+1) w.heap.size (fun _=>False) w1 (fun _ h=>h.elim) (fun _ h=>h.elim) gH IK);have wu:=ah.lt h;have Mk:=lz gH;have lH:=lz cN;have gh:=lz aU;have Hbc:=lz yh;have rT:=lz jy;have Hz:=lz hz;have Hn:=lz hn;have c00:((w.alloc (.cells #[.pointer (some ⟨g,0,none⟩)] 92)).alloc (.cells #[.bool false] 4)).cell? ⟨w.heap.size,0,none⟩=some (.pointer (some ⟨g,0,none⟩)):=((ah.new w 92 #[.pointer (some ⟨g,0,none⟩)]).alloc _).cell 0;clear h hr cN aU jy gP hz gH hn yh;refine(callsIn_wide (n:=9)).1 ?_;refine callsIn_of_wp_marks Tryz.func24 rfl trivial ?_ rfl;simp only[Tryz.ntmps24,List.size_toArray,List.length_cons,List.length_nil,Nat.reduceAdd,Nat.reduceSub,Array.replicate_succ,Array.replicate_zero,List.push_toArray,List.append_toArray,List.nil_append,List.cons_append];refine wpIn_wide.2 ?_;go_wp2_with (go_at_call 70;refine(CX _ _).mono ?_;rintro e w' ⟨rfl,hw'⟩);rw[←lH.out];clear hw' c00;refine(wpIn_wide (n:=9)).1 ?_;have hz1:w.heap.size+3≤w1.heap.size:=Nat.le_of_eq Hz.out.symm;have Xm:w1.heap.size≤w.heap.size+3:=Nat.le_of_eq Hz.out;refine tQ (gf:=151) (lb:= #[.pointer (some ⟨w.heap.size+1+1,0,none⟩)]) (encs:=II) (xs:=fE x) (X:=fun _=>False) (XE:=fun k=>k=w.heap.size+1) rfl (enters_of Tryz.func151 kz rfl) (fun _=>rfl) (fun _ h=>h.elim) (fun k e=>by omega) um.out
  (fun T W=>Below w1.heap.size w1 W∧qG nmB T true)
  (fun T W=>ah W (w.heap.size+1) 4 #[.bool false]∧Below w.heap.size w W∧qG nmB T false) ?hI ?RU ?TG
  (fun y a' W=>∃Bm Bp,w1.heap.size≤Bm∧w1.heap.size≤Bp∧ah W Bm 67 #[.string y.1.nm,.int .i64 y.1.mem,.int .i64 y.1.fr,.slice y.1.parts.a y.1.parts.l.length y.1.parts.c]∧ah W Bp 71 #[.string y.2.nm,.int .i64 y.2.pe,.int .i64 y.2.le,.int .i64 y.2.mem,.slice y.2.aG.a y.2.aG.l.length y.2.aG.c,.int .i64 y.2.ev,.int .i64 y.2.bo,.slice y.2.aX.a y.2.aX.l.length y.2.aX.c,.slice y.2.aq.a y.2.aq.l.length y.2.aq.c,.slice y.2.procs.a y.2.procs.l.length y.2.procs.c]∧a'={tmps:= #[.pointer (some ⟨g,0,none⟩),.pointer (some ⟨w.heap.size,0,none⟩),.pointer (some ⟨w.heap.size+1,0,none⟩),.pointer (some ⟨Bm,0,none⟩),.pointer (some ⟨Bp,0,none⟩),undef,.pointer (some ⟨g,0,none⟩),.func (.func 151) #[] #[.pointer (some ⟨w.heap.size+1+1,0,none⟩)],y.1.val,y.2.val,undef,undef,undef,undef,undef,undef,undef,undef,undef,undef,undef,undef,undef,undef,undef,undef,undef,undef,undef,undef,undef,undef,undef,undef,undef,undef,undef,undef,undef,undef,undef,undef,undef,undef,undef,undef,undef,undef,undef,undef,undef,undef,undef,undef,undef,undef,undef,undef],defers:= []}) ?Kf ?assign ?body ?done ?ret
 case hI=>exact fun T W W' h hb=>⟨h.1.trans hb,h.2⟩
 case RU=>exact fun T W W' h hb=>⟨ah.below h.1 hb oz,h.2.1.trans (hb.mono oz),h.2.2⟩
 case TG=>exact⟨Below.refl _ _,rfl⟩
 case Kf=>
  rintro y l a' W o o' hl ho hc ⟨Bm,Bp,h1,h2,h3,h4,h5⟩;exact⟨Bm,Bp,h1,h2,mW h3 ho hc,mW h4 ho hc,h5⟩
 case assign=>
  rintro l T ⟨m,p⟩ W K hT hsz hK;gi_wp2;refine hK _ _ ((bN).alloc qz _) ⟨W.heap.size,W.heap.size+1,?_,?_,(ah.new W _ _).alloc _,?_,rfl⟩
  ·omega
  ·omega
  ·have:=ah.new (W.alloc (.cells #[.string m.nm,.int .i64 m.mem,.int .i64 m.fr,.slice m.parts.a m.parts.l.length m.parts.c] 67)) 71 #[.string p.nm,.int .i64 p.pe,.int .i64 p.le,.int .i64 p.mem,.slice p.aG.a p.aG.l.length p.aG.c,.int .i64 p.ev,.int .i64 p.bo,.slice p.aX.a p.aX.l.length p.aX.c,.slice p.aq.a p.aq.l.length p.aq.c,.slice p.procs.a p.procs.l.length p.procs.c]
   rwa[World.size_alloc]at this
 case body=>
  rintro l T ⟨m,p⟩ a' W hT hsz hG ⟨wV,aJ⟩ ⟨Bm,Bp,h1,h2,CY,kg,rfl⟩;dsimp only at CY kg;have iU:=CW hT;have Vy:=Hn.out.p _ iU;have uU:=Hn.out.m _ (tY iU).1;have aI8:∀q∈m.parts.l,q.nm.size≤maxLen:=fun q hq=>(Hn.out.p _ (Jc (tY iU).1 hq)).1
  have aBn:=Mk.out.gr (X:=fun _=>False) (fun _ h=>h.elim) hG;have fK:=KH aBn.r iU;have hrm:m.rd W W.heap.size:=fK.1.more aBn.B;have hrp:p.rd W W.heap.size:=fK.2.more aBn.B;have iY:=rT.out.below wV oz;have r0:=iY.cell 0;have f0:=iY.frozen 0;have m3:=CY.cell 3;have hlm:=CY.lt;have Vx:=kg.lt;have hc1:=Gn m.parts.l m.parts.a m.parts.c W.heap.size W hrm.parts nL (by have:=uU.2;omega) aI8;have qc:=fun W2 (Sn:Below W.heap.size W W2)=>Gp p.aq.l p.aq.a p.aq.c W2.heap.size W2 (hrp.below Sn).aq nL Vy.2.1 Vy.2.2.2.1
  have hc3:=fun W2 (Sn:Below W.heap.size W W2)=>Gq p.procs.l p.procs.a p.procs.c W2.heap.size W2 (hrp.below Sn).procs nL Vy.2.2.1 Vy.2.2.2.2
  have KQ:∀W2,Below W.heap.size W W2→W2.cell? ⟨Bp,8,none⟩=some (.slice p.aq.a p.aq.l.length p.aq.c)∧W2.cell? ⟨Bp,9,none⟩=some (.slice p.procs.a p.procs.l.length p.procs.c):=fun W2 Sn=>⟨(kg.below Sn kg.lt).cell 8,(kg.below Sn kg.lt).cell 9⟩
  have Qm:∀b,nmB (m,p)=b→qG nmB (T++ [(m,p)]) b:=fun b hb=>by unfold qG at *;rw[yd,aJ,hb];rfl
  have Pa:nmB (m,p)=(eM (m.parts.l.map (·.nm))&&(eM (p.aq.l.map (·.nm))&&eM (p.procs.l.map (·.nm)))):=rfl;obtain⟨q1,MI⟩:∃q,q=eM (m.parts.l.map (·.nm)):=⟨_,rfl⟩;obtain⟨q2,lS⟩:∃q,q=eM (p.aq.l.map (·.nm)):=⟨_,rfl⟩;obtain⟨q3,Pc⟩:∃q,q=eM (p.procs.l.map (·.nm)):=⟨_,rfl⟩;rw[←MI]at hc1 Pa;rw[←lS]at Pa;rw[←Pc]at Pa;simp only[←lS]at qc;simp only[←Pc]at hc3;have yg:∀W2,Below W.heap.size W W2→nmB (m,p)=false→(Gr (fun k=>k=w.heap.size+1) W (W2.setCell ⟨w.heap.size+1,0,none⟩ (.bool false))∧ah (W2.setCell ⟨w.heap.size+1,0,none⟩ (.bool false)) (w.heap.size+1) 4 #[.bool false]∧Below w.heap.size w (W2.setCell ⟨w.heap.size+1,0,none⟩ (.bool false))∧qG nmB (T++ [(m,p)]) false)∧W2.cell? ⟨w.heap.size+1,0,none⟩=some (.bool false)∧W2.frozen? ⟨w.heap.size+1,0,none⟩=false:=fun W2 h2 hb=>
   ⟨⟨(Gr.ak h2).trans (Gr.setCell W2 ⟨w.heap.size+1,0,none⟩ _ rfl),by simpa using(iY.below h2 iY.lt).bX 0 (.bool false),(gh.out.trans ((wV.trans (h2.mono wV.size)).mono gh.out.size)).setCell (p:=⟨w.heap.size+1,0,none⟩) (by show w.heap.size≤w.heap.size+1;omega) _,Qm _ hb⟩,(iY.below h2 iY.lt).cell 0,(iY.below h2 iY.lt).frozen 0⟩
  have H1:=lz hc1;have H2:=lz qc;have H3:=lz hc3;have Xy:=lz KQ;have Xn:=lz Pa;have KI:=lz Qm;have ox:=lz yg;have Hbw:=lz wV;clear hc1 qc hc3 KQ Pa MI lS Pc Qm yg wV iY fK hrm hrp aBn iU CY kg hG aJ hT Vy uU aI8;gi_wp2;refine jS H1.out ?_;rintro e W2 ⟨rfl,dI⟩;have eF:=lz dI;have H2':=lz (H2.out W2 dI);clear r0 f0 m3 dI H1 H2
  cases q1 with
  | false=>
   have mz:=ox.out W2 eF.out (by rw[Xn.out];rfl);have r0:=mz.2.1;have f0:=mz.2.2;have vN:=lz mz.1;clear mz;gi_wp2;refine⟨trivial,?_⟩;gi_wp2;refine⟨trivial,?_⟩;gi_wp2;exact vN.out
  | true=>
   have p8:=(Xy.out W2 eF.out).1;gi_wp2;refine jS H2'.out ?_;rintro e W3 ⟨rfl,kq⟩;have mP:=lz (eF.out.trans (kq.mono eF.out.size));have H3':=lz (H3.out W3 mP.out);clear p8 kq H2' H3
   cases q2 with
   | false=>
    have mz:=ox.out W3 mP.out (by rw[Xn.out];rfl);have r0:=mz.2.1;have f0:=mz.2.2;have vN:=lz mz.1;clear mz;gi_wp2;refine⟨trivial,?_⟩;gi_wp2;exact vN.out
   | true=>
    have p9:=(Xy.out W3 mP.out).2;gi_wp2;refine jS H3'.out ?_;rintro e W4 ⟨rfl,mF⟩;have pN:=lz (mP.out.trans (mF.mono mP.out.size));clear p9 mF H3'
    cases q3 with
    | false=>
     have mz:=ox.out W4 pN.out (by rw[Xn.out];rfl);have r0:=mz.2.1;have f0:=mz.2.2;have vN:=lz mz.1;clear mz;gi_wp2;exact vN.out
    | true=>
     gi_wp2;exact⟨Gr.ak pN.out,Hbw.out.trans (pN.out.mono Hbw.out.size),KI.out _ (by rw[Xn.out];rfl)⟩
 case ret=>
  rintro D T W3 hD hs hT ⟨h1,h2,h3⟩ hk;have HF:=lz (show zR x=false by unfold zR;rw[pW hT h3];rfl);have KJ:D<W3.heap.size:=(gE hk).1;refine bP [D] W3 D qz (fun E hE=>by simp at hE;subst hE;exact⟨nL,hk⟩) fun W' j5=> ?_
  have z0:=(ah.below h1 j5.below oz).cell 0;exact⟨.bool false,by simp[results,Tryz.f24,go_sem,z0],by rw[HF.out],h2.trans (j5.below.mono oz)⟩
 case done=>
  rintro D W hD hs ⟨hW,aJ⟩ hk;have HF:=lz (show zR x=(eM (x.mods.l.map (·.nm))&&eM (x.aP.l.map (·.nm))&&x.mods.l.all (qH x)&&eM (x.aF.l.map (·.nm)))by unfold zR;rw[show(fE x).all nmB=true from aJ];rfl);have facts:∀W2,Below w1.heap.size w1 W2→tU W2 g x∧x.rd W2 W2.heap.size∧ah W2 w.heap.size 92 #[.pointer (some ⟨g,0,none⟩)]:=fun W2 h2=>⟨Mk.out.g.below h2,(Mk.out.r.more Mk.out.B).below h2,Hbc.out.below h2 Hbc.out.lt⟩
  have I9:=lz facts;have hkD:∀W2,Below W.heap.size W W2→W2.heap[D]?=some (.deferred (some [])):=fun W2 h2=>(h2.block D (gE hk).1).trans hk
  have Qo:=lz hkD;have HW:=lz hW;have HX:=lz (Below.refl W.heap.size W);have pF:=lz (fun W2 (h2:Below w1.heap.size w1 W2)=>rT.out.below h2 oz);clear aJ facts hkD hk hW;have Qv:=I9.out _ HW.out;have c0:=Qv.2.2.cell 0;have k0:=Qv.1.cell 0;have hc:=Cu x.mods.l x.mods.a x.mods.c W.heap.size W (I9.out _ HW.out).2.1.mods nL Hn.out.ml (fun m hm=>(Hn.out.m m hm).1);obtain⟨q0,hq0⟩:∃q,q=eM (x.mods.l.map (·.nm)):=⟨_,rfl⟩;rw[←hq0]at hc HF;have Hc:=lz hc;clear hc hq0 Qv;go_wp2_with fail;refine Hc.out.mono ?_;rintro e Y0 ⟨rfl,hb⟩;have NH:=lz (HX.out.trans (hb.mono HX.out.size));have HW0:=lz (HW.out.trans (hb.mono HW.out.size));clear c0 k0 hb Hc
  cases q0 with
  | false=>
   have r0:Y0.cell? ⟨w.heap.size+1,0,none⟩=some (.bool false):=(pF.out _ HW0.out).cell 0;have f0:Y0.frozen? ⟨w.heap.size+1,0,none⟩=false:=(pF.out _ HW0.out).frozen 0;go_wp2_with fail;refine vO D (w.heap.size+1) w.heap.size false false w Y0 ?_ ?_ oz ?_ oz (fun W' z0=>by simp[results,Tryz.f24,go_sem,z0]) (fun W' hB=>⟨by rw[HF.out]<;>rfl,hB⟩)
   ·exact pF.out _ HW0.out
   ·exact Qo.out _ NH.out
   ·exact gh.out.trans ((HW0.out).mono gh.out.size)
  | true=>
   have Qv:=I9.out _ HW0.out;have c0:=Qv.2.2.cell 0;have k2:=Qv.1.cell 2;have hc:=Cv x.aP.l x.aP.a x.aP.c Y0.heap.size Y0 (I9.out _ HW0.out).2.1.aP nL Hn.out.sl Hn.out.s;obtain⟨q1,MI⟩:∃q,q=eM (x.aP.l.map (·.nm)):=⟨_,rfl⟩;rw[←MI]at hc HF;have Hc:=lz hc;clear hc MI Qv;go_wp2_with fail;refine Hc.out.mono ?_;rintro e Y1 ⟨rfl,hb⟩;have CZ:=lz (NH.out.trans (hb.mono NH.out.size));have KE:=lz (HW0.out.trans (hb.mono HW0.out.size));clear c0 k2 hb Hc
   cases q1 with
   | false=>
    have r0:Y1.cell? ⟨w.heap.size+1,0,none⟩=some (.bool false):=(pF.out _ KE.out).cell 0;have f0:Y1.frozen? ⟨w.heap.size+1,0,none⟩=false:=(pF.out _ KE.out).frozen 0;go_wp2_with fail;refine vO D (w.heap.size+1) w.heap.size false false w Y1 ?_ ?_ oz ?_ oz (fun W' z0=>by simp[results,Tryz.f24,go_sem,z0]) (fun W' hB=>⟨by rw[HF.out]<;>rfl,hB⟩)
    ·exact pF.out _ KE.out
    ·exact Qo.out _ CZ.out
    ·exact gh.out.trans ((KE.out).mono gh.out.size)
   | true=>
    have Qv:=I9.out _ KE.out;have c0:=Qv.2.2.cell 0;have k0:=Qv.1.cell 0;have hc:=AL 77 #[.pointer (some ⟨w.heap.size,0,none⟩)] (qH x) (enters_of Tryz.func77 kz rfl) x.mods.l x.mods.a x.mods.c Y1 (fun W' r hx hW' fK=>by simpa using aBl x r g w.heap.size W' ((I9.out _ (KE.out.trans (hW'.mono KE.out.size))).2.2) ((I9.out _ (KE.out.trans (hW'.mono KE.out.size))).1) ((I9.out _ (KE.out.trans (hW'.mono KE.out.size))).2.1) Hn.out.sl) (I9.out _ KE.out).2.1.mods (by have:=Hn.out.ml;omega);obtain⟨q2,lS⟩:∃q,q=x.mods.l.all (qH x):=⟨_,rfl⟩;rw[←lS]at hc HF;have Hc:=lz hc;clear hc lS Qv;go_wp2_with fail;refine Hc.out.mono ?_;rintro e Y2 ⟨rfl,hb⟩;have qB:=lz (CZ.out.trans (hb.mono CZ.out.size));have nO:=lz (KE.out.trans (hb.mono KE.out.size));clear c0 k0 hb Hc
    cases q2 with
    | false=>
     have r0:Y2.cell? ⟨w.heap.size+1,0,none⟩=some (.bool false):=(pF.out _ nO.out).cell 0;have f0:Y2.frozen? ⟨w.heap.size+1,0,none⟩=false:=(pF.out _ nO.out).frozen 0;go_wp2_with fail;refine vO D (w.heap.size+1) w.heap.size false false w Y2 ?_ ?_ oz ?_ oz (fun W' z0=>by simp[results,Tryz.f24,go_sem,z0]) (fun W' hB=>⟨by rw[HF.out]<;>rfl,hB⟩)
     ·exact pF.out _ nO.out
     ·exact Qo.out _ qB.out
     ·exact gh.out.trans ((nO.out).mono gh.out.size)
    | true=>
     have Qv:=I9.out _ nO.out;have c0:=Qv.2.2.cell 0;have k4:=Qv.1.cell 4;have hc:=NG x.aF.l x.aF.a x.aF.c Y2.heap.size Y2 (I9.out _ nO.out).2.1.aF nL Hn.out.vl Hn.out.v;obtain⟨q3,Pc⟩:∃q,q=eM (x.aF.l.map (·.nm)):=⟨_,rfl⟩;rw[←Pc]at hc HF;have Hc:=lz hc;clear hc Pc Qv;go_wp2_with fail;refine Hc.out.mono ?_;rintro e Y3 ⟨rfl,hb⟩;have Ja:=lz (qB.out.trans (hb.mono qB.out.size));have yY:=lz (nO.out.trans (hb.mono nO.out.size));clear c0 k4 hb Hc;have r0:Y3.cell? ⟨w.heap.size+1,0,none⟩=some (.bool false):=(pF.out _ yY.out).cell 0;have f0:Y3.frozen? ⟨w.heap.size+1,0,none⟩=false:=(pF.out _ yY.out).frozen 0;go_wp2_with fail;refine vO D (w.heap.size+1) w.heap.size q3 false w Y3 ?_ ?_ oz ?_ oz (fun W' z0=>by simp[results,Tryz.f24,go_sem,z0]) (fun W' hB=>⟨by rw[HF.out]<;>rfl,hB⟩)
     ·exact pF.out _ yY.out
     ·exact Qo.out _ Ja.out
     ·exact gh.out.trans ((yY.out).mono gh.out.size)
def iM(x:ay)(s:ByteArray):Int:=cV (fun y:bT=>seqB y.nm s) x.mods.l
def sj(l:List aC)(s:ByteArray):Int:=cV (fun y:aC=>seqB y.nm s) l
def Qw(l:List aM)(s:ByteArray):Int:=cV (fun y:aM=>seqB y.nm s) l
def fN(x:ay)(m:Int):List aC:=((x.mods.l[m.toNat]?).map (·.parts.l)).getD []
def jQ(l:List aC)(p:Int):List aM:=((l[p.toNat]?).map (·.aq.l)).getD []
def oy:Int×Int×Int:=(-1,-1,-1)
def mQ(x:ay)(r:bw):Int×Int×Int:=
 if iM x r.m≥0 then
  if sj (fN x (iM x r.m)) r.p≥0 then
   if Qw (jQ (fN x (iM x r.m)) (sj (fN x (iM x r.m)) r.p)) r.o≥0 then(iM x r.m,sj (fN x (iM x r.m)) r.p,Qw (jQ (fN x (iM x r.m)) (sj (fN x (iM x r.m)) r.p)) r.o)
   else oy
  else oy
 else oy
abbrev trip(t:Int×Int×Int):Value:= .tuple #[.int .i64 t.1,.int .i64 t.2.1,.int .i64 t.2.2]
theorem tv{x:ay}{k:Nat}(h:k<x.mods.l.length):fN x (k:Int)=x.mods.l[k].parts.l:=by
 unfold fN;simp[List.getElem?_eq_getElem h]
theorem tA{l:List aC}{k:Nat}(h:k<l.length):jQ l (k:Int)=l[k].aq.l:=by
 unfold jQ;simp[List.getElem?_eq_getElem h]
theorem tB{i:Int}{n:Nat}(h0:i≥0)(h1:i<n):∃k:Nat,i=(k:Int)∧k<n:=⟨i.toNat,oz,oz⟩
theorem aFE(x:ay)(r:bw)(w:World)(hr:x.rd w w.heap.size):CU 168 #[x.val,r.val] w (trip (mQ x r)):=by
 obtain⟨y0,bR⟩:=ez ((w.alloc (.cells #[.slice x.mods.a x.mods.l.length x.mods.c,.slice x.aj.a x.aj.l.length x.aj.c,.slice x.aP.a x.aP.l.length x.aP.c,.slice x.links.a x.links.l.length x.links.c,.slice x.aF.a x.aF.l.length x.aF.c,.slice x.bQ.a x.bQ.l.length x.bQ.c,.slice x.causes.a x.causes.l.length x.causes.c,.slice x.aA.a x.aA.l.length x.aA.c] 31)).alloc (.cells #[.string r.m,.string r.p,.string r.o] 41));have bW:Below w.heap.size w y0:=by rw[bR];exact(bN).alloc qz _
 have bS:ah y0 w.heap.size 31 #[.slice x.mods.a x.mods.l.length x.mods.c,.slice x.aj.a x.aj.l.length x.aj.c,.slice x.aP.a x.aP.l.length x.aP.c,.slice x.links.a x.links.l.length x.links.c,.slice x.aF.a x.aF.l.length x.aF.c,.slice x.bQ.a x.bQ.l.length x.bQ.c,.slice x.causes.a x.causes.l.length x.causes.c,.slice x.aA.a x.aA.l.length x.aA.c]:=by rw[bR];exact(ah.new w _ _).alloc _
 have aU:ah y0 (w.heap.size+1) 41 #[.string r.m,.string r.p,.string r.o]:=by rw[bR];have:=ah.new (w.alloc (.cells #[.slice x.mods.a x.mods.l.length x.mods.c,.slice x.aj.a x.aj.l.length x.aj.c,.slice x.aP.a x.aP.l.length x.aP.c,.slice x.links.a x.links.l.length x.links.c,.slice x.aF.a x.aF.l.length x.aF.c,.slice x.bQ.a x.bQ.l.length x.bQ.c,.slice x.causes.a x.causes.l.length x.causes.c,.slice x.aA.a x.aA.l.length x.aA.c] 31)) 41 #[.string r.m,.string r.p,.string r.o];rwa[World.size_alloc]at this
 have jy:=hr.below bW;have IK:x.mods.l.length≤9223372036854775807:=nT hr.AU (nT hr.AV dz);have h1:=mY r.m x.mods.l x.mods.a x.mods.c y0 jy.mods IK;have hlt:=kO (fun y:bT=>seqB y.nm r.m) x.mods.l;obtain⟨n,hn⟩:=ez (mQ x r);rw[show mQ x r=n from hn.symm];have HN:Hid (n=if iM x r.m≥0 then
  if sj (fN x (iM x r.m)) r.p≥0 then
   if Qw (jQ (fN x (iM x r.m)) (sj (fN x (iM x r.m)) r.p)) r.o≥0 then(iM x r.m,sj (fN x (iM x r.m)) r.p,Qw (jQ (fN x (iM x r.m)) (sj (fN x (iM x r.m)) r.p)) r.o)
   else oy
  else oy
 else oy):=lz (by rw[hn];rfl)
 clear hn;obtain⟨i,hi⟩:=ez (iM x r.m);rw[show cV (fun y:bT=>seqB y.nm r.m) x.mods.l=iM x r.m from rfl,←hi]at h1 hlt;rw[←hi]at HN;have hf:∀W,Below y0.heap.size y0 W→ah W w.heap.size 31 #[.slice x.mods.a x.mods.l.length x.mods.c,.slice x.aj.a x.aj.l.length x.aj.c,.slice x.aP.a x.aP.l.length x.aP.c,.slice x.links.a x.links.l.length x.links.c,.slice x.aF.a x.aF.l.length x.aF.c,.slice x.bQ.a x.bQ.l.length x.bQ.c,.slice x.causes.a x.causes.l.length x.causes.c,.slice x.aA.a x.aA.l.length x.aA.c]∧ah W (w.heap.size+1) 41 #[.string r.m,.string r.p,.string r.o]∧x.rd W W.heap.size:=fun W hW=>⟨bS.below hW bS.lt,aU.below hW aU.lt,jy.below hW⟩
 have k0:=bR▸bS.cell 0;have r0:=bR▸aU.cell 0;have H1:=lz h1;have Hf:=lz hf;have aV:=lz bW;have dV:=lz bR;clear h1 hf bW bR bS aU jy hr hi;go_enter Tryz.func168,Tryz.ntmps168;go_wp2_with fail;rw[←dV.out];refine H1.out.mono ?_;rintro e y1 ⟨rfl,aU⟩;have fI:=lz aU;clear aU k0 r0 H1;by_cases h0:i≥0;rotate_left
 ·have d0:decide (i≥0)=false:=dF h0
  have tg:=lz (show n=oy by rw[HN.out,if_neg h0]);clear HN Hf;go_wp2_with fail;go_ret3;exact⟨by rw[tg.out];rfl,aV.out.trans (fI.out.mono aV.out.size)⟩
 ·obtain⟨k,rfl,hk⟩:=tB h0 hlt
  have d0:decide ((k:Int)≥0)=true:=dT h0;have Wq:(k:Int)<(x.mods.l.length:Int):=hlt;obtain⟨hc1,qc,hr1⟩:=Hf.out y1 fI.out;obtain⟨b,o,hA,hb,hc⟩:=hr1.mods oz;obtain⟨d1,d2,d3,d4,Gg⟩:=hc k hk;have k0:=hc1.cell 0;have q1:=qc.cell 1;have aOO:=hc1.lt;have Xz:=qc.lt;have hpl:x.mods.l[k].parts.l.length≤9223372036854775807:=nT Gg.zI (nT Gg.zJ dz);have au:∀z:Ext y1,CU 241 #[.slice x.mods.l[k].parts.a x.mods.l[k].parts.l.length x.mods.l[k].parts.c,.func (.func 72) #[] #[],.string r.p] z.w (.int .i64 (sj x.mods.l[k].parts.l r.p)):=fun z=>
   Qa r.p _ _ _ z.w ((Gg.below z.h).parts) hpl
  have sF:=kO (fun y:aC=>seqB y.nm r.p) x.mods.l[k].parts.l;rw[show cV (fun y:aC=>seqB y.nm r.p) x.mods.l[k].parts.l=sj x.mods.l[k].parts.l r.p from rfl]at sF;rw[tv hk]at HN;have tg:=lz (show n=_ by rw[HN.out,if_pos h0]);have aI9:∀W,Below y1.heap.size y1 W→x.mods.l[k].rd W W.heap.size:=fun W hW=>Gg.below hW
  have je:∀W,Below y1.heap.size y1 W→W.cell? ⟨b,o+k*4+3,none⟩=some (.slice x.mods.l[k].parts.a x.mods.l[k].parts.l.length x.mods.l[k].parts.c):=fun W hW=>(hW.cell (p:=⟨b,o+k*4+3,none⟩) (World.block_lt_of_cell? _ _ d4)).trans d4
  have ji:=lz je;have Hmr:=lz aI9;have aN:=lz au;clear HN hc hr1 Gg au aI9 je hc1 qc;rw[hA]at k0;obtain⟨m,hm⟩:=ez (x.mods.l[k]);rw[←hm]at d1 d2 d3 d4 aN sF hpl tg Hmr ji;clear hm;obtain⟨j,hj⟩:=ez (sj m.parts.l r.p);rw[←hj]at aN sF tg;clear hj;have iR:=bn y1;go_wp2_with fail;refine aB kz kz ?_;repeat (go_big_quiet_step ((go_at_call 241;with_reducible exact dN (aN.out _))))
  refine wpQuiet_nil ?_;intro _ hw';obtain⟨xx,hw''⟩:=hw';subst hw'';have HX:=lz xx.h;have iF:=lz (fI.out.trans (xx.h.mono fI.out.size));clear iR aN k0 q1 d1 d2 d3 d4;generalize xx.w=y2 at *;by_cases h2:j≥0;rotate_left
  ·have d2:decide (j≥0)=false:=dF h2
   have Pf:=lz (show n=oy by rw[tg.out,if_neg h2]);clear tg Hf;go_wp2_with fail;go_ret3;exact⟨by rw[Pf.out];rfl,aV.out.trans (iF.out.mono aV.out.size)⟩
  ·obtain⟨l,rfl,hl⟩:=tB h2 sF
   have d2:decide ((l:Int)≥0)=true:=dT h2;have uz:(l:Int)<(m.parts.l.length:Int):=sF;obtain⟨hc1,qc,hr1⟩:=Hf.out y2 iF.out;have c4:=ji.out y2 HX.out;obtain⟨b2,o2,hA2,dI,Us⟩:=(Hmr.out y2 HX.out).parts oz;obtain⟨e0,e1,e2,e3,e4,e5,e6,e7,e8,e9,Mg⟩:=Us l hl;have k0:y2.cell? ⟨w.heap.size,0,none⟩=some (.slice (some ⟨b,o,none⟩) x.mods.l.length x.mods.c):=by have:=hc1.cell 0;rw[hA]at this;exact this
   have q2:=qc.cell 2;have aOO:=hc1.lt;have Xz:=qc.lt;have gP:=World.block_lt_of_cell? _ _ c4;have hol:m.parts.l[l].aq.l.length≤9223372036854775807:=nT Mg.DX (nT Mg.DY dz);have au:∀z:Ext y2,CU 242 #[.slice m.parts.l[l].aq.a m.parts.l[l].aq.l.length m.parts.l[l].aq.c,.func (.func 74) #[] #[],.string r.o] z.w (.int .i64 (Qw m.parts.l[l].aq.l r.o)):=fun z=>
    Qb r.o _ _ _ z.w ((Mg.below z.h).aq) hol
   rw[tA hl]at tg;have Pf:=lz (show n=_ by rw[tg.out,if_pos h2]);have aN:=lz au;clear tg Us hr1 Mg au hc1 qc;rw[hA2]at c4;obtain⟨p,hp⟩:=ez (m.parts.l[l]);rw[←hp]at e0 e1 e2 e3 e4 e5 e6 e7 e8 e9 aN Pf hol;clear hp;obtain⟨u,hu⟩:=ez (Qw p.aq.l r.o);rw[←hu]at aN Pf;clear hu;have iR:=bn y2;go_wp2_with fail;refine aB kz kz ?_;repeat (go_big_quiet_step ((go_at_call 242;with_reducible exact dN (aN.out _))))
   refine wpQuiet_nil ?_;intro _ hw';obtain⟨xx,hw''⟩:=hw';subst hw'';have pz:=lz (iF.out.trans (xx.h.mono iF.out.size));clear iR aN k0 q2 e0 e1 e2 e3 e4 e5 e6 e7 e8 e9 c4;generalize xx.w=y3 at *;by_cases h3:u≥0
   ·have d3:decide (u≥0)=true:=dT h3
    have HN4:=lz (show n=((k:Int),(l:Int),u)by rw[Pf.out,if_pos h3]);clear Pf Hf;go_wp2_with fail;go_ret3;exact⟨by rw[HN4.out]<;>rfl,aV.out.trans (pz.out.mono aV.out.size)⟩
   ·have d3:decide (u≥0)=false:=dF h3
    have HN4:=lz (show n=oy by rw[Pf.out,if_neg h3]);clear Pf Hf;go_wp2_with fail;go_ret3;exact⟨by rw[HN4.out];rfl,aV.out.trans (pz.out.mono aV.out.size)⟩
def mg:aM:=⟨⟨#[]⟩,0,false,0,0,0⟩
def fD(x:ay)(r:bw):aM×Int:=
 if (mQ x r).1<0 then(mg,-1)
 else(((jQ (fN x (mQ x r).1) (mQ x r).2.1)[(mQ x r).2.2.toNat]?).getD mg,(mQ x r).1)
theorem Qx(x:ay)(r:bw):mQ x r=oy∨∃(k l u:Nat) (hk:k<x.mods.l.length) (hl:l<x.mods.l[k].parts.l.length),u<x.mods.l[k].parts.l[l].aq.l.length∧mQ x r=((k:Int),(l:Int),(u:Int)):=by
 unfold mQ;split
 ·rename_i h0
  obtain⟨k,hk,rZ⟩:=tB h0 (kO (fun y:bT=>seqB y.nm r.m) x.mods.l);rw[show iM x r.m=(k:Int)from hk,tv rZ];split
  ·rename_i h1
   obtain⟨l,hl,Cb⟩:=tB h1 (kO (fun y:aC=>seqB y.nm r.p) x.mods.l[k].parts.l);rw[show sj x.mods.l[k].parts.l r.p=(l:Int)from hl,tA Cb];split
   ·rename_i h2
    obtain⟨u,hu,hu2⟩:=tB h2 (kO (fun y:aM=>seqB y.nm r.o) x.mods.l[k].parts.l[l].aq.l);exact .inr ⟨k,l,u,rZ,Cb,hu2,by rw[show Qw x.mods.l[k].parts.l[l].aq.l r.o=(u:Int)from hu]⟩
   ·exact .inl rfl
  ·exact .inl rfl
 ·exact .inl rfl
theorem KR(x:ay)(r:bw)(g:Nat)(w:World)(hg:tU w g x)(hr:x.rd w w.heap.size):CU 87 #[.pointer (some ⟨g,0,none⟩),r.val] w (.tuple #[(fD x r).1.val,.int .i64 (fD x r).2]):=by
 obtain⟨y0,bR⟩:=ez ((w.alloc (.cells #[.string r.m,.string r.p,.string r.o] 41)).alloc (.cells #[.string ⟨#[]⟩,.int .u8 0,.bool false,.int .i64 0,.int .i64 0,.int .i64 0] 73));have bW:Below w.heap.size w y0:=by rw[bR];exact(bN).alloc qz _
 have bS:ah y0 w.heap.size 41 #[.string r.m,.string r.p,.string r.o]:=by rw[bR];exact(ah.new w _ _).alloc _
 have aU:ah y0 (w.heap.size+1) 73 #[.string ⟨#[]⟩,.int .u8 0,.bool false,.int .i64 0,.int .i64 0,.int .i64 0]:=by rw[bR];have:=ah.new (w.alloc (.cells #[.string r.m,.string r.p,.string r.o] 41)) 73 #[.string ⟨#[]⟩,.int .u8 0,.bool false,.int .i64 0,.int .i64 0,.int .i64 0];rwa[World.size_alloc]at this
 have hg0:=hg.below bW;have jy:=hr.below bW;obtain⟨n,hn⟩:=ez (mQ x r);have XA:=Qx x r;rw[←hn]at XA;have au:∀z:Ext y0,CU 168 #[.agg #[.slice x.mods.a x.mods.l.length x.mods.c,.slice x.aj.a x.aj.l.length x.aj.c,.slice x.aP.a x.aP.l.length x.aP.c,.slice x.links.a x.links.l.length x.links.c,.slice x.aF.a x.aF.l.length x.aF.c,.slice x.bQ.a x.bQ.l.length x.bQ.c,.slice x.causes.a x.causes.l.length x.causes.c,.slice x.aA.a x.aA.l.length x.aA.c],.agg #[.string r.m,.string r.p,.string r.o]] z.w (trip n):=fun z=>by rw[hn];exact aFE x r z.w (jy.below z.h)
 have HN:=lz (show fD x r=if n.1<0 then(mg,-1)else(((jQ (fN x n.1) n.2.1)[n.2.2.toNat]?).getD mg,n.1)by rw[hn];rfl);obtain⟨v,hv⟩:=ez (fD x r);rw[←hv]at HN ⊢;have iR:=bn y0;have hl0:=bS.lt;have DL:=aU.lt;have Cb:=ah.lt hg0;have k0:=hg0.cell 0;have k1:=hg0.cell 1;have k2:=hg0.cell 2;have k3:=hg0.cell 3;have k4:=hg0.cell 4;have k5:=hg0.cell 5;have k6:=hg0.cell 6;have k7:=hg0.cell 7;have r0:=bS.cell 0;have r1:=bS.cell 1;have r2:=bS.cell 2;have hf:∀W,Below y0.heap.size y0 W→tU W g x∧x.rd W W.heap.size∧ah W (w.heap.size+1) 73 _:=fun W hW=>⟨hg0.below hW,jy.below hW,aU.below hW aU.lt⟩
 have Hf:=lz hf;have aN:=lz au;have aV:=lz bW;have dV:=lz bR;have XB:=lz XA;clear au hf bW bR bS aU hg0 jy hr hg hn hv XA;go_enter Tryz.func87,Tryz.ntmps87;go_wp2_with fail;rw[←dV.out];refine aB kz kz ?_;repeat (go_big_quiet_step ((go_at_call 168;with_reducible exact dN (aN.out _))))
 refine wpQuiet_nil ?_;intro _ hw';obtain⟨xx,hw''⟩:=hw';subst hw'';have fI:=lz xx.h;clear iR aN k0 k1 k2 k3 k4 k5 k6 k7 r0 r1 r2;generalize xx.w=y1 at *;obtain⟨hg1,hr1,hz1⟩:=Hf.out y1 fI.out;have hzl:=hz1.lt;have z0:=hz1.cell 0;have zf0:=hz1.frozen 0;have z1:=hz1.cell 1;have zf1:=hz1.frozen 1;have z2:=hz1.cell 2;have zf2:=hz1.frozen 2;have z3:=hz1.cell 3;have zf3:=hz1.frozen 3;have z4:=hz1.cell 4;have zf4:=hz1.frozen 4;have z5:=hz1.cell 5;have zf5:=hz1.frozen 5;have Hz1:=lz hz1;rcases XB.out with jT | ⟨k,l,u,hk,hl,hu,iw⟩
 ·subst jT
  dsimp only[oy];have tg:=lz (show v=(mg,-1)by rw[HN.out];rfl);clear HN XB hg1 hr1 hz1;go_wp2_with fail;have s0:ah (y1.setCell ⟨w.heap.size+1,0,none⟩ (.string ⟨#[]⟩)) (w.heap.size+1) 73 #[.string ⟨#[]⟩,.int .u8 0,.bool false,.int .i64 0,.int .i64 0,.int .i64 0]:=by simpa using Hz1.out.bX 0 (.string ⟨#[]⟩)
  have s1:ah ((y1.setCell ⟨w.heap.size+1,0,none⟩ (.string ⟨#[]⟩)).setCell ⟨w.heap.size+1,1,none⟩ (.int .u8 0)) (w.heap.size+1) 73 #[.string ⟨#[]⟩,.int .u8 0,.bool false,.int .i64 0,.int .i64 0,.int .i64 0]:=by simpa using s0.bX 1 (.int .u8 0)
  have s2:ah (((y1.setCell ⟨w.heap.size+1,0,none⟩ (.string ⟨#[]⟩)).setCell ⟨w.heap.size+1,1,none⟩ (.int .u8 0)).setCell ⟨w.heap.size+1,2,none⟩ (.bool false)) (w.heap.size+1) 73 #[.string ⟨#[]⟩,.int .u8 0,.bool false,.int .i64 0,.int .i64 0,.int .i64 0]:=by simpa using s1.bX 2 (.bool false)
  have s3:ah ((((y1.setCell ⟨w.heap.size+1,0,none⟩ (.string ⟨#[]⟩)).setCell ⟨w.heap.size+1,1,none⟩ (.int .u8 0)).setCell ⟨w.heap.size+1,2,none⟩ (.bool false)).setCell ⟨w.heap.size+1,3,none⟩ (.int .i64 0)) (w.heap.size+1) 73 #[.string ⟨#[]⟩,.int .u8 0,.bool false,.int .i64 0,.int .i64 0,.int .i64 0]:=by simpa using s2.bX 3 (.int .i64 0)
  have s4:ah (((((y1.setCell ⟨w.heap.size+1,0,none⟩ (.string ⟨#[]⟩)).setCell ⟨w.heap.size+1,1,none⟩ (.int .u8 0)).setCell ⟨w.heap.size+1,2,none⟩ (.bool false)).setCell ⟨w.heap.size+1,3,none⟩ (.int .i64 0)).setCell ⟨w.heap.size+1,4,none⟩ (.int .i64 0)) (w.heap.size+1) 73 #[.string ⟨#[]⟩,.int .u8 0,.bool false,.int .i64 0,.int .i64 0,.int .i64 0]:=by simpa using s3.bX 4 (.int .i64 0)
  have s5:ah ((((((y1.setCell ⟨w.heap.size+1,0,none⟩ (.string ⟨#[]⟩)).setCell ⟨w.heap.size+1,1,none⟩ (.int .u8 0)).setCell ⟨w.heap.size+1,2,none⟩ (.bool false)).setCell ⟨w.heap.size+1,3,none⟩ (.int .i64 0)).setCell ⟨w.heap.size+1,4,none⟩ (.int .i64 0)).setCell ⟨w.heap.size+1,5,none⟩ (.int .i64 0)) (w.heap.size+1) 73 #[.string ⟨#[]⟩,.int .u8 0,.bool false,.int .i64 0,.int .i64 0,.int .i64 0]:=by simpa using s4.bX 5 (.int .i64 0)
  have yU:Below w.heap.size w ((((((y1.setCell ⟨w.heap.size+1,0,none⟩ (.string ⟨#[]⟩)).setCell ⟨w.heap.size+1,1,none⟩ (.int .u8 0)).setCell ⟨w.heap.size+1,2,none⟩ (.bool false)).setCell ⟨w.heap.size+1,3,none⟩ (.int .i64 0)).setCell ⟨w.heap.size+1,4,none⟩ (.int .i64 0)).setCell ⟨w.heap.size+1,5,none⟩ (.int .i64 0)):=(((((((aV.out.trans (fI.out.mono aV.out.size)).setCell (p:=⟨w.heap.size+1,0,none⟩) (by show w.heap.size≤w.heap.size+1;omega) _).setCell (p:=⟨w.heap.size+1,1,none⟩) (by show w.heap.size≤w.heap.size+1;omega) _).setCell (p:=⟨w.heap.size+1,2,none⟩) (by show w.heap.size≤w.heap.size+1;omega) _).setCell (p:=⟨w.heap.size+1,3,none⟩) (by show w.heap.size≤w.heap.size+1;omega) _).setCell (p:=⟨w.heap.size+1,4,none⟩) (by show w.heap.size≤w.heap.size+1;omega) _).setCell (p:=⟨w.heap.size+1,5,none⟩) (by show w.heap.size≤w.heap.size+1;omega) _);obtain⟨W6,J5⟩:=ez (((((((y1.setCell ⟨w.heap.size+1,0,none⟩ (.string ⟨#[]⟩)).setCell ⟨w.heap.size+1,1,none⟩ (.int .u8 0)).setCell ⟨w.heap.size+1,2,none⟩ (.bool false)).setCell ⟨w.heap.size+1,3,none⟩ (.int .i64 0)).setCell ⟨w.heap.size+1,4,none⟩ (.int .i64 0)).setCell ⟨w.heap.size+1,5,none⟩ (.int .i64 0)));rw[←J5]at s5 yU;have c0:=s5.cell 0;have c1:=s5.cell 1;have c2:=s5.cell 2;have c3:=s5.cell 3;have c4:=s5.cell 4;have c5:=s5.cell 5;rw[←J5];refine bodyPost_ret (v:= .tuple #[mg.val,.int .i64 (-1)]) (by simp[results,Tryz.f87,go_sem,c0,c1,c2,c3,c4,c5,mg]) rfl ?_;exact⟨by rw[tg.out],yU⟩
 ·subst iw
  have h0:¬((k:Int)<0):=by omega
  have d0:decide ((k:Int)<0)=false:=dF h0;have tg:=lz (show v=(x.mods.l[k].parts.l[l].aq.l[u],(k:Int))by
   rw[HN.out];show(if ((k:Int))<0 then _ else _)=_;rw[if_neg h0];show(((jQ (fN x (k:Int)) (l:Int))[((u:Int)).toNat]?).getD mg,(k:Int))=_;rw[tv hk,tA hl,Int.toNat_natCast,List.getElem?_eq_getElem hu];rfl)
  clear HN XB;obtain⟨b,o,hA,hb,hc⟩:=hr1.mods oz;obtain⟨d1,d2,d3,d4,Gg⟩:=hc k hk;obtain⟨b2,o2,hA2,dI,qc⟩:=Gg.parts oz;obtain⟨e0,e1,e2,e3,e4,e5,e6,e7,e8,e9,Mg⟩:=qc l hl;obtain⟨b3,o3,hA3,kq,hc3⟩:=Mg.aq oz;obtain⟨f0,f1,f2,f3,f4,f5,_⟩:=hc3 u hu;have g0:y1.cell? ⟨g,0,none⟩=some (.slice (some ⟨b,o,none⟩) x.mods.l.length x.mods.c):=by have:=hg1.cell 0;rw[hA]at this;exact this
  replace d4:y1.cell? ⟨b,o+k*4+3,none⟩=some (.slice (some ⟨b2,o2,none⟩) x.mods.l[k].parts.l.length x.mods.l[k].parts.c):=by rw[←hA2];exact d4
  replace e8:y1.cell? ⟨b2,o2+l*10+8,none⟩=some (.slice (some ⟨b3,o3,none⟩) x.mods.l[k].parts.l[l].aq.l.length x.mods.l[k].parts.l[l].aq.c):=by rw[←hA3];exact e8
  have i0:(0:Int)≤(k:Int):=by omega
  have i1:(k:Int)<(x.mods.l.length:Int):=by omega
  have i2:(0:Int)≤(l:Int):=by omega
  have i3:(l:Int)<(x.mods.l[k].parts.l.length:Int):=by omega
  have i4:(0:Int)≤(u:Int):=by omega
  have i5:(u:Int)<(x.mods.l[k].parts.l[l].aq.l.length:Int):=by omega
  clear hc qc hc3 hg1 hr1 hz1 Gg Mg hA hA2 hA3 d1 d2 d3 e0 e1 e2 e3 e4 e5 e6 e7 e9;obtain⟨q,hq⟩:=ez (x.mods.l[k].parts.l[l].aq.l[u]);rw[←hq]at f0 f1 f2 f3 f4 f5 tg;obtain⟨n1,NI⟩:∃n,n=x.mods.l[k].parts.l[l].aq.l.length:=⟨_,rfl⟩;obtain⟨n2,hn2⟩:∃n,n=x.mods.l[k].parts.l.length:=⟨_,rfl⟩;obtain⟨m1,hm1⟩:∃n,n=x.mods.l[k].parts.l[l].aq.c:=⟨_,rfl⟩;obtain⟨m2,Vq⟩:∃n,n=x.mods.l[k].parts.c:=⟨_,rfl⟩;rw[←NI,←hm1]at e8;rw[←NI]at i5;rw[←hn2,←Vq]at d4;rw[←hn2]at i3;clear hq NI hn2 hm1 Vq;go_wp2_with fail;have s0:ah (y1.setCell ⟨w.heap.size+1,0,none⟩ (.string q.nm)) (w.heap.size+1) 73 #[.string q.nm,.int .u8 0,.bool false,.int .i64 0,.int .i64 0,.int .i64 0]:=by simpa using Hz1.out.bX 0 (.string q.nm)
  have s1:ah ((y1.setCell ⟨w.heap.size+1,0,none⟩ (.string q.nm)).setCell ⟨w.heap.size+1,1,none⟩ (.int .u8 q.kd)) (w.heap.size+1) 73 #[.string q.nm,.int .u8 q.kd,.bool false,.int .i64 0,.int .i64 0,.int .i64 0]:=by simpa using s0.bX 1 (.int .u8 q.kd)
  have s2:ah (((y1.setCell ⟨w.heap.size+1,0,none⟩ (.string q.nm)).setCell ⟨w.heap.size+1,1,none⟩ (.int .u8 q.kd)).setCell ⟨w.heap.size+1,2,none⟩ (.bool q.out)) (w.heap.size+1) 73 #[.string q.nm,.int .u8 q.kd,.bool q.out,.int .i64 0,.int .i64 0,.int .i64 0]:=by simpa using s1.bX 2 (.bool q.out)
  have s3:ah ((((y1.setCell ⟨w.heap.size+1,0,none⟩ (.string q.nm)).setCell ⟨w.heap.size+1,1,none⟩ (.int .u8 q.kd)).setCell ⟨w.heap.size+1,2,none⟩ (.bool q.out)).setCell ⟨w.heap.size+1,3,none⟩ (.int .i64 q.sz)) (w.heap.size+1) 73 #[.string q.nm,.int .u8 q.kd,.bool q.out,.int .i64 q.sz,.int .i64 0,.int .i64 0]:=by simpa using s2.bX 3 (.int .i64 q.sz)
  have s4:ah (((((y1.setCell ⟨w.heap.size+1,0,none⟩ (.string q.nm)).setCell ⟨w.heap.size+1,1,none⟩ (.int .u8 q.kd)).setCell ⟨w.heap.size+1,2,none⟩ (.bool q.out)).setCell ⟨w.heap.size+1,3,none⟩ (.int .i64 q.sz)).setCell ⟨w.heap.size+1,4,none⟩ (.int .i64 q.dp)) (w.heap.size+1) 73 #[.string q.nm,.int .u8 q.kd,.bool q.out,.int .i64 q.sz,.int .i64 q.dp,.int .i64 0]:=by simpa using s3.bX 4 (.int .i64 q.dp)
  have s5:ah ((((((y1.setCell ⟨w.heap.size+1,0,none⟩ (.string q.nm)).setCell ⟨w.heap.size+1,1,none⟩ (.int .u8 q.kd)).setCell ⟨w.heap.size+1,2,none⟩ (.bool q.out)).setCell ⟨w.heap.size+1,3,none⟩ (.int .i64 q.sz)).setCell ⟨w.heap.size+1,4,none⟩ (.int .i64 q.dp)).setCell ⟨w.heap.size+1,5,none⟩ (.int .i64 q.rf)) (w.heap.size+1) 73 #[.string q.nm,.int .u8 q.kd,.bool q.out,.int .i64 q.sz,.int .i64 q.dp,.int .i64 q.rf]:=by simpa using s4.bX 5 (.int .i64 q.rf)
  have yU:Below w.heap.size w ((((((y1.setCell ⟨w.heap.size+1,0,none⟩ (.string q.nm)).setCell ⟨w.heap.size+1,1,none⟩ (.int .u8 q.kd)).setCell ⟨w.heap.size+1,2,none⟩ (.bool q.out)).setCell ⟨w.heap.size+1,3,none⟩ (.int .i64 q.sz)).setCell ⟨w.heap.size+1,4,none⟩ (.int .i64 q.dp)).setCell ⟨w.heap.size+1,5,none⟩ (.int .i64 q.rf)):=(((((((aV.out.trans (fI.out.mono aV.out.size)).setCell (p:=⟨w.heap.size+1,0,none⟩) (by show w.heap.size≤w.heap.size+1;omega) _).setCell (p:=⟨w.heap.size+1,1,none⟩) (by show w.heap.size≤w.heap.size+1;omega) _).setCell (p:=⟨w.heap.size+1,2,none⟩) (by show w.heap.size≤w.heap.size+1;omega) _).setCell (p:=⟨w.heap.size+1,3,none⟩) (by show w.heap.size≤w.heap.size+1;omega) _).setCell (p:=⟨w.heap.size+1,4,none⟩) (by show w.heap.size≤w.heap.size+1;omega) _).setCell (p:=⟨w.heap.size+1,5,none⟩) (by show w.heap.size≤w.heap.size+1;omega) _);obtain⟨W6,J5⟩:=ez (((((((y1.setCell ⟨w.heap.size+1,0,none⟩ (.string q.nm)).setCell ⟨w.heap.size+1,1,none⟩ (.int .u8 q.kd)).setCell ⟨w.heap.size+1,2,none⟩ (.bool q.out)).setCell ⟨w.heap.size+1,3,none⟩ (.int .i64 q.sz)).setCell ⟨w.heap.size+1,4,none⟩ (.int .i64 q.dp)).setCell ⟨w.heap.size+1,5,none⟩ (.int .i64 q.rf)));rw[←J5]at s5 yU;have c0:=s5.cell 0;have c1:=s5.cell 1;have c2:=s5.cell 2;have c3:=s5.cell 3;have c4:=s5.cell 4;have c5:=s5.cell 5;rw[←J5];refine bodyPost_ret (v:= .tuple #[q.val,.int .i64 k]) (by simp[results,Tryz.f87,go_sem,c0,c1,c2,c3,c4,c5]) rfl ?_;exact⟨by rw[tg.out],yU⟩
end
end Go.Proofs.YtmdgooofdmpcjaaGreatDoor
