import Derived.BigQuiet
import Derived.Test.YtchfcgilpjkmhaaGreatDoorY19
import Derived.Test.YtchfcgilpjkmhaaGreatDoorY22
import Derived.Test.YtchfcgilpjkmhaaGreatDoorY15
import Derived.Test.YtchfcgilpjkmhaaGreatDoorY0
set_option maxRecDepth 100000
set_option linter.unusedSimpArgs false
set_option linter.unusedVariables false
set_option linter.unusedSectionVars false
namespace Go.Proofs.YtchfcgilpjkmhaaGreatDoor
open Go.ChangeShapes Go.WideShapes Go.ChangeAt Go.RowKit
attribute [local go_sem] Oper.semAt_some
theorem nameF_Module(x:ModV)(w:World):CU 76 #[x.val] w (.string x.nm):=by
 go_enter Tryz.func76,Tryz.ntmps76;go_wp2;go_ret;exact⟨rfl,(Below.refl _ w).alloc (Nat.le_refl _) (.cells #[.string x.nm,.int .i64 x.mem,.int .i64 x.fr,.slice x.parts.a x.parts.l.length x.parts.c] 70)⟩
theorem nameF_Switch(x:SwV)(w:World):CU 74 #[x.val] w (.string x.nm):=by
 go_enter Tryz.func74,Tryz.ntmps74;go_wp2;go_ret;exact⟨rfl,(Below.refl _ w).alloc (Nat.le_refl _) (.cells #[.string x.nm,.int .i64 x.net,.int .i64 x.dl,.int .i64 x.st] 90)⟩
theorem nameF_Part(x:PartV)(w:World):CU 67 #[x.val] w (.string x.nm):=by
 go_enter Tryz.func67,Tryz.ntmps67;go_wp2;go_ret;exact⟨rfl,(Below.refl _ w).alloc (Nat.le_refl _) (.cells #[.string x.nm,.int .i64 x.pe,.int .i64 x.le,.int .i64 x.mem,.slice x.semas.a x.semas.l.length x.semas.c,.int .i64 x.ev,.int .i64 x.bo,.slice x.bufs.a x.bufs.l.length x.bufs.c,.slice x.ports.a x.ports.l.length x.ports.c,.slice x.procs.a x.procs.l.length x.procs.c] 75)⟩
theorem nameF_Port(x:PortV)(w:World):CU 69 #[x.val] w (.string x.nm):=by
 go_enter Tryz.func69,Tryz.ntmps69;go_wp2;go_ret;exact⟨rfl,(Below.refl _ w).alloc (Nat.le_refl _) (.cells #[.string x.nm,.int .u8 x.kd,.bool x.out,.int .i64 x.sz,.int .i64 x.dp,.int .i64 x.rf] 77)⟩
theorem nameF_Proc(x:ProcV)(w:World):CU 71 #[x.val] w (.string x.nm):=by
 go_enter Tryz.func71,Tryz.ntmps71;go_wp2;go_ret;exact⟨rfl,(Below.refl _ w).alloc (Nat.le_refl _) (.cells #[.string x.nm,.int .i64 x.pr,.int .i64 x.pe,.int .i64 x.li,.slice x.code.a x.code.l.length x.code.c] 80)⟩
theorem nameF_VL(x:VlV)(w:World):CU 79 #[x.val] w (.string x.nm):=by
 go_enter Tryz.func79,Tryz.ntmps79;go_wp2;go_ret;exact⟨rfl,(Below.refl _ w).alloc (Nat.le_refl _) (.cells #[.string x.nm,.string x.src.m,.string x.src.p,.string x.src.o,.int .i64 x.bag,.int .i64 x.mx,.slice x.dst.a x.dst.l.length x.dst.c] 88)⟩
theorem namedF_Module(s:ByteArray)(x:ModV)(Bo Bs:Nat)(W:World)(ho:Blk W Bo 161 #[.func (.func 76) #[] #[]])(hs:Blk W Bs 9 #[.string s]):
 CU 175 #[x.val,.pointer (some ⟨Bo,0,none⟩),.pointer (some ⟨Bs,0,none⟩)] W (.bool (seqB x.nm s)):=by
 obtain⟨y0,hy0⟩:∃y0,y0=(W.alloc (.cells #[.string x.nm,.int .i64 x.mem,.int .i64 x.fr,.slice x.parts.a x.parts.l.length x.parts.c] 70)):=⟨_,rfl⟩;have hB0:Below W.heap.size W y0:=by rw[hy0];exact(Below.refl _ _).alloc (Nat.le_refl _) _
 have hb0:Blk y0 W.heap.size 70 #[.string x.nm,.int .i64 x.mem,.int .i64 x.fr,.slice x.parts.a x.parts.l.length x.parts.c]:=by rw[hy0];exact Blk.new W _ _
 have hbo:Blk y0 Bo 161 #[.func (.func 76) #[] #[]]:=ho.below hB0 ho.lt;have hbs:Blk y0 Bs 9 #[.string s]:=hs.below hB0 hs.lt;have c0:=hbo.cell 0;have c1:=hbs.cell 0;have d0:=hb0.cell 0;have d1:=hb0.cell 1;have d2:=hb0.cell 2;have d3:=hb0.cell 3;have hec:=ext_cell y0;have hl0:=hbo.lt;have hl1:=hbs.lt;have hl2:=hb0.lt;have hcall:∀z:Ext y0,CU 76 #[.agg #[.string x.nm,.int .i64 x.mem,.int .i64 x.fr,x.parts.val]] z.w (.string x.nm):=fun z=>nameF_Module x z.w
 have Hcall:=lz hcall;have HB0:=lz hB0;have Hy0:=lz hy0;clear ho hs hbo hbs hb0 hcall hB0 hy0;go_enter Tryz.func175,Tryz.ntmps175;go_wp2_with fail;rw[←Hy0.out];refine wp_region_ext kz kz ?_;repeat (go_big_quiet_step ((go_at_call 76;with_reducible exact ext_call (Hcall.out _))))
 refine wpQuiet_nil ?_;intro _ hw';obtain⟨xx,hw''⟩:=hw';subst hw'';have HB2:=lz (HB0.out.trans (xx.h.mono HB0.out.size));clear hec Hcall d0 d1 d2 d3 c0 c1;generalize xx.w=w2 at *;go_wp2_with fail;go_ret;exact⟨rfl,HB2.out⟩
theorem named_Module(s:ByteArray)(l:List ModV)(A:Option Addr)(c:Nat)(w:World)(h:RdModule w w.heap.size A l)(hl:l.length≤9223372036854775807):
 CU 90 #[.slice A l.length c,.func (.func 76) #[] #[],.string s] w (.int .i64 (idxI (fun x:ModV=>seqB x.nm s) l)):=by
 have hB1:Below w.heap.size w ((w.alloc (.cells #[.func (.func 76) #[] #[]] 161)).alloc (.cells #[.string s] 9)):=((Below.refl _ w).alloc (Nat.le_refl _) _).alloc (by simp) _;have h1:=(Blk.new w 161 #[.func (.func 76) #[] #[]]).alloc (.cells #[.string s] 9);have h2:=Blk.new (w.alloc (.cells #[.func (.func 76) #[] #[]] 161)) 9 #[.string s];rw[World.size_alloc]at h2;have hI:=index_Module 175 #[.pointer (some ⟨w.heap.size,0,none⟩),.pointer (some ⟨w.heap.size+1,0,none⟩)] (fun x=>seqB x.nm s) (enters_of Tryz.func175 kz rfl) l A c ((w.alloc (.cells #[.func (.func 76) #[] #[]] 161)).alloc (.cells #[.string s] 9))
  (fun W x hx hW _=>namedF_Module s x _ _ W (h1.below hW h1.lt) (h2.below hW h2.lt)) (h.below hB1) hl
 have HI:=lz hI;have HB1:=lz hB1;generalize idxI (fun x:ModV=>seqB x.nm s) l=q at *;clear hI h1 h2 hB1 h;go_enter Tryz.func90,Tryz.ntmps90;go_wp2_with fail;refine HI.out.mono ?_;rintro e w1 ⟨rfl,hb1⟩;have HB:=lz (HB1.out.trans (hb1.mono HB1.out.size));clear HI hb1 HB1;go_wp2;go_ret;exact⟨rfl,HB.out⟩
theorem namedF_Switch(s:ByteArray)(x:SwV)(Bo Bs:Nat)(W:World)(ho:Blk W Bo 159 #[.func (.func 74) #[] #[]])(hs:Blk W Bs 9 #[.string s]):
 CU 157 #[x.val,.pointer (some ⟨Bo,0,none⟩),.pointer (some ⟨Bs,0,none⟩)] W (.bool (seqB x.nm s)):=by
 obtain⟨y0,hy0⟩:∃y0,y0=(W.alloc (.cells #[.string x.nm,.int .i64 x.net,.int .i64 x.dl,.int .i64 x.st] 90)):=⟨_,rfl⟩;have hB0:Below W.heap.size W y0:=by rw[hy0];exact(Below.refl _ _).alloc (Nat.le_refl _) _
 have hb0:Blk y0 W.heap.size 90 #[.string x.nm,.int .i64 x.net,.int .i64 x.dl,.int .i64 x.st]:=by rw[hy0];exact Blk.new W _ _
 have hbo:Blk y0 Bo 159 #[.func (.func 74) #[] #[]]:=ho.below hB0 ho.lt;have hbs:Blk y0 Bs 9 #[.string s]:=hs.below hB0 hs.lt;have c0:=hbo.cell 0;have c1:=hbs.cell 0;have d0:=hb0.cell 0;have d1:=hb0.cell 1;have d2:=hb0.cell 2;have d3:=hb0.cell 3;have hec:=ext_cell y0;have hl0:=hbo.lt;have hl1:=hbs.lt;have hl2:=hb0.lt;have hcall:∀z:Ext y0,CU 74 #[.agg #[.string x.nm,.int .i64 x.net,.int .i64 x.dl,.int .i64 x.st]] z.w (.string x.nm):=fun z=>nameF_Switch x z.w
 have Hcall:=lz hcall;have HB0:=lz hB0;have Hy0:=lz hy0;clear ho hs hbo hbs hb0 hcall hB0 hy0;go_enter Tryz.func157,Tryz.ntmps157;go_wp2_with fail;rw[←Hy0.out];refine wp_region_ext kz kz ?_;repeat (go_big_quiet_step ((go_at_call 74;with_reducible exact ext_call (Hcall.out _))))
 refine wpQuiet_nil ?_;intro _ hw';obtain⟨xx,hw''⟩:=hw';subst hw'';have HB2:=lz (HB0.out.trans (xx.h.mono HB0.out.size));clear hec Hcall d0 d1 d2 d3 c0 c1;generalize xx.w=w2 at *;go_wp2_with fail;go_ret;exact⟨rfl,HB2.out⟩
theorem named_Switch(s:ByteArray)(l:List SwV)(A:Option Addr)(c:Nat)(w:World)(h:RdSwitch w w.heap.size A l)(hl:l.length≤9223372036854775807):
 CU 73 #[.slice A l.length c,.func (.func 74) #[] #[],.string s] w (.int .i64 (idxI (fun x:SwV=>seqB x.nm s) l)):=by
 have hB1:Below w.heap.size w ((w.alloc (.cells #[.func (.func 74) #[] #[]] 159)).alloc (.cells #[.string s] 9)):=((Below.refl _ w).alloc (Nat.le_refl _) _).alloc (by simp) _;have h1:=(Blk.new w 159 #[.func (.func 74) #[] #[]]).alloc (.cells #[.string s] 9);have h2:=Blk.new (w.alloc (.cells #[.func (.func 74) #[] #[]] 159)) 9 #[.string s];rw[World.size_alloc]at h2;have hI:=index_Switch 157 #[.pointer (some ⟨w.heap.size,0,none⟩),.pointer (some ⟨w.heap.size+1,0,none⟩)] (fun x=>seqB x.nm s) (enters_of Tryz.func157 kz rfl) l A c ((w.alloc (.cells #[.func (.func 74) #[] #[]] 159)).alloc (.cells #[.string s] 9))
  (fun W x hx hW=>namedF_Switch s x _ _ W (h1.below hW h1.lt) (h2.below hW h2.lt)) (h.below hB1) hl
 have HI:=lz hI;have HB1:=lz hB1;generalize idxI (fun x:SwV=>seqB x.nm s) l=q at *;clear hI h1 h2 hB1 h;go_enter Tryz.func73,Tryz.ntmps73;go_wp2_with fail;refine HI.out.mono ?_;rintro e w1 ⟨rfl,hb1⟩;have HB:=lz (HB1.out.trans (hb1.mono HB1.out.size));clear HI hb1 HB1;go_wp2;go_ret;exact⟨rfl,HB.out⟩
theorem namedF_Part(s:ByteArray)(x:PartV)(Bo Bs:Nat)(W:World)(ho:Blk W Bo 153 #[.func (.func 67) #[] #[]])(hs:Blk W Bs 9 #[.string s]):
 CU 276 #[x.val,.pointer (some ⟨Bo,0,none⟩),.pointer (some ⟨Bs,0,none⟩)] W (.bool (seqB x.nm s)):=by
 obtain⟨y0,hy0⟩:∃y0,y0=(W.alloc (.cells #[.string x.nm,.int .i64 x.pe,.int .i64 x.le,.int .i64 x.mem,.slice x.semas.a x.semas.l.length x.semas.c,.int .i64 x.ev,.int .i64 x.bo,.slice x.bufs.a x.bufs.l.length x.bufs.c,.slice x.ports.a x.ports.l.length x.ports.c,.slice x.procs.a x.procs.l.length x.procs.c] 75)):=⟨_,rfl⟩;have hB0:Below W.heap.size W y0:=by rw[hy0];exact(Below.refl _ _).alloc (Nat.le_refl _) _
 have hb0:Blk y0 W.heap.size 75 #[.string x.nm,.int .i64 x.pe,.int .i64 x.le,.int .i64 x.mem,.slice x.semas.a x.semas.l.length x.semas.c,.int .i64 x.ev,.int .i64 x.bo,.slice x.bufs.a x.bufs.l.length x.bufs.c,.slice x.ports.a x.ports.l.length x.ports.c,.slice x.procs.a x.procs.l.length x.procs.c]:=by rw[hy0];exact Blk.new W _ _
 have hbo:Blk y0 Bo 153 #[.func (.func 67) #[] #[]]:=ho.below hB0 ho.lt;have hbs:Blk y0 Bs 9 #[.string s]:=hs.below hB0 hs.lt;have c0:=hbo.cell 0;have c1:=hbs.cell 0;have d0:=hb0.cell 0;have d1:=hb0.cell 1;have d2:=hb0.cell 2;have d3:=hb0.cell 3;have d4:=hb0.cell 4;have d5:=hb0.cell 5;have d6:=hb0.cell 6;have d7:=hb0.cell 7;have d8:=hb0.cell 8;have d9:=hb0.cell 9;have hec:=ext_cell y0;have hl0:=hbo.lt;have hl1:=hbs.lt;have hl2:=hb0.lt;have hcall:∀z:Ext y0,CU 67 #[.agg #[.string x.nm,.int .i64 x.pe,.int .i64 x.le,.int .i64 x.mem,x.semas.val,.int .i64 x.ev,.int .i64 x.bo,x.bufs.val,x.ports.val,x.procs.val]] z.w (.string x.nm):=fun z=>nameF_Part x z.w
 have Hcall:=lz hcall;have HB0:=lz hB0;have Hy0:=lz hy0;clear ho hs hbo hbs hb0 hcall hB0 hy0;go_enter Tryz.func276,Tryz.ntmps276;go_wp2_with fail;rw[←Hy0.out];refine wp_region_ext kz kz ?_;repeat (go_big_quiet_step ((go_at_call 67;with_reducible exact ext_call (Hcall.out _))))
 refine wpQuiet_nil ?_;intro _ hw';obtain⟨xx,hw''⟩:=hw';subst hw'';have HB2:=lz (HB0.out.trans (xx.h.mono HB0.out.size));clear hec Hcall d0 d1 d2 d3 d4 d5 d6 d7 d8 d9 c0 c1;generalize xx.w=w2 at *;go_wp2_with fail;go_ret;exact⟨rfl,HB2.out⟩
theorem named_Part(s:ByteArray)(l:List PartV)(A:Option Addr)(c:Nat)(w:World)(h:RdPart w w.heap.size A l)(hl:l.length≤9223372036854775807):
 CU 235 #[.slice A l.length c,.func (.func 67) #[] #[],.string s] w (.int .i64 (idxI (fun x:PartV=>seqB x.nm s) l)):=by
 have hB1:Below w.heap.size w ((w.alloc (.cells #[.func (.func 67) #[] #[]] 153)).alloc (.cells #[.string s] 9)):=((Below.refl _ w).alloc (Nat.le_refl _) _).alloc (by simp) _;have h1:=(Blk.new w 153 #[.func (.func 67) #[] #[]]).alloc (.cells #[.string s] 9);have h2:=Blk.new (w.alloc (.cells #[.func (.func 67) #[] #[]] 153)) 9 #[.string s];rw[World.size_alloc]at h2;have hI:=index_Part 276 #[.pointer (some ⟨w.heap.size,0,none⟩),.pointer (some ⟨w.heap.size+1,0,none⟩)] (fun x=>seqB x.nm s) (enters_of Tryz.func276 kz rfl) l A c ((w.alloc (.cells #[.func (.func 67) #[] #[]] 153)).alloc (.cells #[.string s] 9))
  (fun W x hx hW _=>namedF_Part s x _ _ W (h1.below hW h1.lt) (h2.below hW h2.lt)) (h.below hB1) hl
 have HI:=lz hI;have HB1:=lz hB1;generalize idxI (fun x:PartV=>seqB x.nm s) l=q at *;clear hI h1 h2 hB1 h;go_enter Tryz.func235,Tryz.ntmps235;go_wp2_with fail;refine HI.out.mono ?_;rintro e w1 ⟨rfl,hb1⟩;have HB:=lz (HB1.out.trans (hb1.mono HB1.out.size));clear HI hb1 HB1;go_wp2;go_ret;exact⟨rfl,HB.out⟩
theorem namedF_Port(s:ByteArray)(x:PortV)(Bo Bs:Nat)(W:World)(ho:Blk W Bo 155 #[.func (.func 69) #[] #[]])(hs:Blk W Bs 9 #[.string s]):
 CU 277 #[x.val,.pointer (some ⟨Bo,0,none⟩),.pointer (some ⟨Bs,0,none⟩)] W (.bool (seqB x.nm s)):=by
 obtain⟨y0,hy0⟩:∃y0,y0=(W.alloc (.cells #[.string x.nm,.int .u8 x.kd,.bool x.out,.int .i64 x.sz,.int .i64 x.dp,.int .i64 x.rf] 77)):=⟨_,rfl⟩;have hB0:Below W.heap.size W y0:=by rw[hy0];exact(Below.refl _ _).alloc (Nat.le_refl _) _
 have hb0:Blk y0 W.heap.size 77 #[.string x.nm,.int .u8 x.kd,.bool x.out,.int .i64 x.sz,.int .i64 x.dp,.int .i64 x.rf]:=by rw[hy0];exact Blk.new W _ _
 have hbo:Blk y0 Bo 155 #[.func (.func 69) #[] #[]]:=ho.below hB0 ho.lt;have hbs:Blk y0 Bs 9 #[.string s]:=hs.below hB0 hs.lt;have c0:=hbo.cell 0;have c1:=hbs.cell 0;have d0:=hb0.cell 0;have d1:=hb0.cell 1;have d2:=hb0.cell 2;have d3:=hb0.cell 3;have d4:=hb0.cell 4;have d5:=hb0.cell 5;have hec:=ext_cell y0;have hl0:=hbo.lt;have hl1:=hbs.lt;have hl2:=hb0.lt;have hcall:∀z:Ext y0,CU 69 #[.agg #[.string x.nm,.int .u8 x.kd,.bool x.out,.int .i64 x.sz,.int .i64 x.dp,.int .i64 x.rf]] z.w (.string x.nm):=fun z=>nameF_Port x z.w
 have Hcall:=lz hcall;have HB0:=lz hB0;have Hy0:=lz hy0;clear ho hs hbo hbs hb0 hcall hB0 hy0;go_enter Tryz.func277,Tryz.ntmps277;go_wp2_with fail;rw[←Hy0.out];refine wp_region_ext kz kz ?_;repeat (go_big_quiet_step ((go_at_call 69;with_reducible exact ext_call (Hcall.out _))))
 refine wpQuiet_nil ?_;intro _ hw';obtain⟨xx,hw''⟩:=hw';subst hw'';have HB2:=lz (HB0.out.trans (xx.h.mono HB0.out.size));clear hec Hcall d0 d1 d2 d3 d4 d5 c0 c1;generalize xx.w=w2 at *;go_wp2_with fail;go_ret;exact⟨rfl,HB2.out⟩
theorem named_Port(s:ByteArray)(l:List PortV)(A:Option Addr)(c:Nat)(w:World)(h:RdPort w w.heap.size A l)(hl:l.length≤9223372036854775807):
 CU 236 #[.slice A l.length c,.func (.func 69) #[] #[],.string s] w (.int .i64 (idxI (fun x:PortV=>seqB x.nm s) l)):=by
 have hB1:Below w.heap.size w ((w.alloc (.cells #[.func (.func 69) #[] #[]] 155)).alloc (.cells #[.string s] 9)):=((Below.refl _ w).alloc (Nat.le_refl _) _).alloc (by simp) _;have h1:=(Blk.new w 155 #[.func (.func 69) #[] #[]]).alloc (.cells #[.string s] 9);have h2:=Blk.new (w.alloc (.cells #[.func (.func 69) #[] #[]] 155)) 9 #[.string s];rw[World.size_alloc]at h2;have hI:=index_Port 277 #[.pointer (some ⟨w.heap.size,0,none⟩),.pointer (some ⟨w.heap.size+1,0,none⟩)] (fun x=>seqB x.nm s) (enters_of Tryz.func277 kz rfl) l A c ((w.alloc (.cells #[.func (.func 69) #[] #[]] 155)).alloc (.cells #[.string s] 9))
  (fun W x hx hW _=>namedF_Port s x _ _ W (h1.below hW h1.lt) (h2.below hW h2.lt)) (h.below hB1) hl
 have HI:=lz hI;have HB1:=lz hB1;generalize idxI (fun x:PortV=>seqB x.nm s) l=q at *;clear hI h1 h2 hB1 h;go_enter Tryz.func236,Tryz.ntmps236;go_wp2_with fail;refine HI.out.mono ?_;rintro e w1 ⟨rfl,hb1⟩;have HB:=lz (HB1.out.trans (hb1.mono HB1.out.size));clear HI hb1 HB1;go_wp2;go_ret;exact⟨rfl,HB.out⟩
def CkG(w:World)(g:Nat)(x:CfgV):Prop:=Blk w g 106 #[.slice x.mods.a x.mods.l.length x.mods.c,.slice x.chans.a x.chans.l.length x.chans.c,.slice x.sws.a x.sws.l.length x.sws.c,.slice x.links.a x.links.l.length x.links.c,.slice x.vls.a x.vls.l.length x.vls.c,.slice x.hea.a x.hea.l.length x.hea.c,.slice x.causes.a x.causes.l.length x.causes.c,.slice x.vers.a x.vers.l.length x.vers.c]
theorem CkG.cell{w:World}{g:Nat}{x:CfgV}(h:CkG w g x)(i:Nat):w.cell? ⟨g,i,none⟩=(#[.slice x.mods.a x.mods.l.length x.mods.c,.slice x.chans.a x.chans.l.length x.chans.c,.slice x.sws.a x.sws.l.length x.sws.c,.slice x.links.a x.links.l.length x.links.c,.slice x.vls.a x.vls.l.length x.vls.c,.slice x.hea.a x.hea.l.length x.hea.c,.slice x.causes.a x.causes.l.length x.causes.c,.slice x.vers.a x.vers.l.length x.vers.c]:Array Value)[i]?:=Blk.cell h i
theorem CkG.gr{X:Nat→Prop}{w w':World}{g:Nat}{x:CfgV}(h:CkG w g x)(hg:Gr X w w')(hx:¬X g):CkG w' g x:=Gr.blk hg h hx
theorem CkG.below{w w':World}{g:Nat}{x:CfgV}(h:CkG w g x)(hb:Below w.heap.size w w'):CkG w' g x:=Blk.below h hb (Blk.lt h)
theorem idxI_lt{α:Type}(p:α→Bool)(l:List α):idxI p l<l.length:=by
 unfold idxI
 cases h:l.findIdx? p with
 | none=>simp only;omega
 | some i=>
  have:=(List.findIdx?_eq_some_iff_getElem.1 h).1;simp only;omega
theorem idxI_lo{α:Type}(p:α→Bool)(l:List α): -1≤idxI p l:=by
 unfold idxI
 cases h:l.findIdx? p with
 | none=>simp
 | some i=>simp only;omega
def nodeI(x:CfgV)(s:ByteArray):Int:=
 if idxI (fun y:ModV=>seqB y.nm s) x.mods.l≥0 then idxI (fun y:ModV=>seqB y.nm s) x.mods.l
 else if idxI (fun y:SwV=>seqB y.nm s) x.sws.l≥0 then x.mods.l.length+idxI (fun y:SwV=>seqB y.nm s) x.sws.l else-1
set_option maxHeartbeats 1000000 in
theorem node_c(x:CfgV)(s:ByteArray)(w:World)(hr:x.rd w w.heap.size)(hm:x.mods.l.length≤1000000)(hs:x.sws.l.length≤1000000):CU 85 #[x.val,.string s] w (.int .i64 (nodeI x s)):=by
 obtain⟨y0,hy0⟩:∃y0,y0=w.alloc (.cells #[.slice x.mods.a x.mods.l.length x.mods.c,.slice x.chans.a x.chans.l.length x.chans.c,.slice x.sws.a x.sws.l.length x.sws.c,.slice x.links.a x.links.l.length x.links.c,.slice x.vls.a x.vls.l.length x.vls.c,.slice x.hea.a x.hea.l.length x.hea.c,.slice x.causes.a x.causes.l.length x.causes.c,.slice x.vers.a x.vers.l.length x.vers.c] 31):=⟨_,rfl⟩;have hB0:Below w.heap.size w y0:=by rw[hy0];exact(Below.refl _ _).alloc (Nat.le_refl _) _
 have hb0:Blk y0 w.heap.size 31 #[.slice x.mods.a x.mods.l.length x.mods.c,.slice x.chans.a x.chans.l.length x.chans.c,.slice x.sws.a x.sws.l.length x.sws.c,.slice x.links.a x.links.l.length x.links.c,.slice x.vls.a x.vls.l.length x.vls.c,.slice x.hea.a x.hea.l.length x.hea.c,.slice x.causes.a x.causes.l.length x.causes.c,.slice x.vers.a x.vers.l.length x.vers.c]:=by rw[hy0];exact Blk.new w _ _
 have hr0:=hr.below hB0;have h1:=named_Module s x.mods.l x.mods.a x.mods.c y0 hr0.mods (by omega);have h2:=fun W (hW:Below y0.heap.size y0 W)=>named_Switch s x.sws.l x.sws.a x.sws.c W (hr0.sws.below hW) (by omega)
 have hsw:=idxI_lt (fun y:SwV=>seqB y.nm s) x.sws.l;have hsl:=idxI_lo (fun y:SwV=>seqB y.nm s) x.sws.l;have HN:=lz (show nodeI x s=if idxI (fun y:ModV=>seqB y.nm s) x.mods.l≥0 then idxI (fun y:ModV=>seqB y.nm s) x.mods.l
 else if idxI (fun y:SwV=>seqB y.nm s) x.sws.l≥0 then x.mods.l.length+idxI (fun y:SwV=>seqB y.nm s) x.sws.l else-1 from rfl)
 obtain⟨n,hn⟩:∃n,n=nodeI x s:=⟨_,rfl⟩;rw[←hn]at HN ⊢;obtain⟨m,hm'⟩:∃m,m=idxI (fun y:ModV=>seqB y.nm s) x.mods.l:=⟨_,rfl⟩;obtain⟨k,hk'⟩:∃k,k=idxI (fun y:SwV=>seqB y.nm s) x.sws.l:=⟨_,rfl⟩;rw[←hm']at h1 HN;simp only[←hk']at h2 HN hsw hsl;have hf:∀W,Below y0.heap.size y0 W→Blk W w.heap.size 31 #[.slice x.mods.a x.mods.l.length x.mods.c,.slice x.chans.a x.chans.l.length x.chans.c,.slice x.sws.a x.sws.l.length x.sws.c,.slice x.links.a x.links.l.length x.links.c,.slice x.vls.a x.vls.l.length x.vls.c,.slice x.hea.a x.hea.l.length x.hea.c,.slice x.causes.a x.causes.l.length x.causes.c,.slice x.vers.a x.vers.l.length x.vers.c]:=fun W hW=>hb0.below hW hb0.lt
 have k0:=hy0▸hb0.cell 0;have H1:=lz h1;have H2:=lz h2;have Hf:=lz hf;have HB0:=lz hB0;have Hy0:=lz hy0;have HW:=lz (show IntKind.i64.wrap ((x.mods.l.length:Int)+k)=x.mods.l.length+k from IntWalk.i64_in _ ⟨by omega,by omega⟩);clear hn hm' hk' h1 h2 hf hB0 hy0 hb0 hr0 hr;go_enter Tryz.func85,Tryz.ntmps85;go_wp2_with fail;rw[←Hy0.out];refine H1.out.mono ?_;rintro e y1 ⟨rfl,hb1⟩;have HY1:=lz hb1;clear hb1 k0 H1;have k0:y1.cell? ⟨w.heap.size,0,none⟩=some (.slice x.mods.a x.mods.l.length x.mods.c):=(Hf.out _ HY1.out).cell 0;have k2:y1.cell? ⟨w.heap.size,2,none⟩=some (.slice x.sws.a x.sws.l.length x.sws.c):=(Hf.out _ HY1.out).cell 2;by_cases h0:m≥0
 ·have d0:decide (m≥0)=true:=decide_eq_true h0
  have HN2:=lz (show n=m by rw[HN.out,if_pos h0]);clear HN;go_wp2_with fail;go_ret;exact⟨by rw[HN2.out]<;>rfl,HB0.out.trans (HY1.out.mono HB0.out.size)⟩
 ·have d0:decide (m≥0)=false:=decide_eq_false h0
  have HN2:=lz (show n=if k≥0 then x.mods.l.length+k else-1 by rw[HN.out,if_neg h0]);have H3:=lz (H2.out y1 HY1.out);clear HN H2;go_wp2_with fail;refine H3.out.mono ?_;rintro e y2 ⟨rfl,hb2⟩;have HY2:=lz (HY1.out.trans (hb2.mono HY1.out.size));clear hb2 k0 k2 H3;have k0:y2.cell? ⟨w.heap.size,0,none⟩=some (.slice x.mods.a x.mods.l.length x.mods.c):=(Hf.out _ HY2.out).cell 0;by_cases h1:k≥0
  ·have d1:decide (k≥0)=true:=decide_eq_true h1
   have HN3:=lz (show n=x.mods.l.length+k by rw[HN2.out,if_pos h1]);have hw:=HW.out;clear HN2 HW;go_wp2_with fail;go_ret;exact⟨by rw[HN3.out]<;>rfl,HB0.out.trans (HY2.out.mono HB0.out.size)⟩
  ·have d1:decide (k≥0)=false:=decide_eq_false h1
   have HN3:=lz (show n= -1 by rw[HN2.out,if_neg h1]);clear HN2 HW;go_wp2_with fail;go_ret;exact⟨by rw[HN3.out]<;>rfl,HB0.out.trans (HY2.out.mono HB0.out.size)⟩
structure ConV where
 src:RefV
 dst:Sl RefV
 vl:Bool
abbrev ConV.val(x:ConV):Value:= .agg #[.string x.src.m,.string x.src.p,.string x.src.o,.slice x.dst.a x.dst.l.length x.dst.c,.bool x.vl]
def ConV.ofC(x:ChanV):ConV:=⟨x.src,x.dst,false⟩
def ConV.ofV(x:VlV):ConV:=⟨x.src,x.dst,true⟩
def connsV(x:CfgV):List ConV:=x.chans.l.map ConV.ofC++x.vls.l.map ConV.ofV
abbrev ConV.enc(x:ConV):Array Value:= #[x.val]
theorem take_next{α β:Type}(f:α→β){l:List α}{k:Nat}(h:k<l.length):(l.take (k+1)).map f=(l.take k).map f++ [f l[k]]:=by
 rw[List.take_succ_eq_append_getElem h,List.map_append];rfl
theorem connC_pre{x:CfgV}{k:Nat}(h:k≤x.chans.l.length):(x.chans.l.take k).map ConV.ofC <+: connsV x:=by
 unfold connsV;exact((List.take_prefix k x.chans.l).map ConV.ofC).trans (List.prefix_append _ _)
theorem connV_pre{x:CfgV}{k:Nat}(h:k≤x.vls.l.length):x.chans.l.map ConV.ofC++(x.vls.l.take k).map ConV.ofV <+: connsV x:=by
 unfold connsV;exact(List.prefix_append_right_inj _).2 ((List.take_prefix k x.vls.l).map ConV.ofV)
structure CkRd(w:World)(g Bl B:Nat)(x:CfgV):Prop where
 l:Blk w Bl 104 #[.pointer (some ⟨g,0,none⟩)]
 g:CkG w g x
 r:x.rd w B
 B:B≤w.heap.size
theorem CkRd.gr{X:Nat→Prop}{w w':World}{g Bl B:Nat}{x:CfgV}(h:CkRd w g Bl B x)(hX:∀k,X k→k≠Bl∧k≠g∧B≤k)(hg:Gr X w w'):CkRd w' g Bl B x:=
 ⟨hg.blk h.l fun hx=>(hX _ hx).1 rfl,h.g.gr hg fun hx=>(hX _ hx).2.1 rfl,h.r.to_ (Nat.le_refl _) (gr_cell hg h.B fun k hk=>(hX k hk).2.2),Nat.le_trans h.B hg.size⟩
set_option maxHeartbeats 2000000 in
theorem conn_g(x:CfgV)(g Bl B:Nat)(X:Nat→Prop)(w:World)(hX:∀k,X k→k≠Bl∧k≠g∧B≤k)(h:CkRd w g Bl B x)(hc1:x.chans.l.length≤9223372036854775807)(hc2:x.vls.l.length≤9223372036854775807):
 SeqG X 144 #[.pointer (some ⟨Bl,0,none⟩)] ConV.enc (connsV x) w:=by
 intro l W J Jx hW hJ hJx h0 hY;have HF:=lz (fun W (hG:Gr X w W)=>h.gr hX hG);have hGW:Gr X w W:=Gr.of_below hW;have c0:W.cell? ⟨Bl,0,none⟩=some (.pointer (some ⟨g,0,none⟩)):=(HF.out _ hGW).l.cell 0;have k1:W.cell? ⟨g,1,none⟩=some (.slice x.chans.a x.chans.l.length x.chans.c):=(HF.out _ hGW).g.cell 1;have HY:=lz hY;have HJ:=lz hJ;clear hY hJ hJx h hW;refine callsIn_of_wp Tryz.func144 rfl trivial ?_ rfl;simp only[Tryz.ntmps144,List.size_toArray,List.length_cons,List.length_nil,Nat.reduceAdd,Nat.reduceSub,Array.replicate_succ,Array.replicate_zero,List.push_toArray,List.append_toArray,List.nil_append,List.cons_append];gi_wp2;gi_loopw [13] (fun t wr=>∃k:Nat,k≤x.chans.l.length∧t= .int .i64 k∧J ((x.chans.l.take k).map ConV.ofC) wr∧Gr X w wr) (fun t wr=>x.chans.l.length-(intOf t).toNat)
 case atStart=>exact⟨0,Nat.zero_le _,rfl,by simpa using h0,hGW⟩
 case round=>
  clear h0 hGW c0 k1;obtain⟨k,hk,rfl,hJk,hG⟩:=hrel;by_cases hlt:k<x.chans.l.length
  ·have hf:=HF.out _ hG
   obtain⟨b,o,hA,hb,hc⟩:=hf.r.chans (by omega);obtain⟨d0,d1,d2,d3,_⟩:=hc k hlt;have hBr:=hf.B;have hlc:=hf.l.lt;have hnx:=take_next ConV.ofC hlt;have hpre:(x.chans.l.take k).map ConV.ofC++ [ConV.ofC x.chans.l[k]] <+: connsV x:=by
    have:=connC_pre (x:=x) (k:=k+1) (by omega);rw[hnx]at this;simpa [List.append_assoc]using this
   have hGb:∀v,Gr X w (wr.alloc (.cells v 85)):=fun v=>hG.trans (Gr.alloc _ _ _)
   have hJb:∀v,J ((x.chans.l.take k).map ConV.ofC) (wr.alloc (.cells v 85)):=fun v=>HJ.out _ _ _ hJk ((Below.refl _ wr).alloc (Nat.le_refl _) _)
   obtain⟨fn,tmps,assign,body,hy,hR⟩:=HY.out _ _ (wr.alloc (.cells #[.string x.chans.l[k].src.m,.string x.chans.l[k].src.p,.string x.chans.l[k].src.o,.slice x.chans.l[k].dst.a x.chans.l[k].dst.l.length x.chans.l[k].dst.c] 85)) hpre (hGb _) (hJb _);have Hnx:=lz (show(x.chans.l.take (k+1)).map ConV.ofC=(x.chans.l.take k).map ConV.ofC++ [ConV.ofC x.chans.l[k]]by rw[hnx]);have Hpre:=lz hpre;have HG:=lz hG;clear hpre hnx hJk hG hGb hJb hf hc;dsimp only[ConV.enc,ConV.val,ConV.ofC]at hy;rw[hA]at *;generalize hyk:x.chans.l[k]=y at *;gi_wp2;refine hR.mono ?_;rintro e' W3 (⟨rfl,hJ3,hG3⟩ | ⟨rfl,hJx3⟩)
   ·have HJ3:=lz hJ3
    have HG3:=lz hG3;clear hJ3 hG3;gi_wp2;go_roundw
    case rel=>exact⟨k+1,by omega,by go_num,by rw[Hnx.out];exact HJ3.out,(HG.out.trans (Gr.alloc _ _ _)).trans HG3.out⟩
    case measure=>simp[intOf];omega
   ·have HJx3:=lz hJx3
    clear hJx3;gi_wp2;refine bodyPost_ret (results_none rfl _ _ _) rfl ?_;exact⟨⟨_,rfl⟩,.inr ⟨_,Hpre.out,HJx3.out⟩⟩
  ·obtain rfl:k=x.chans.l.length:=by omega
   rw[List.take_length]at hJk;have hf:=HF.out _ hG;have c0:=hf.l.cell 0;have k4:=hf.g.cell 4;have hJE:=lz hJk;have HGE:=lz hG;clear hJk hG hf;gi_wp2;gi_loopw [32] (fun t wr=>∃k:Nat,k≤x.vls.l.length∧t= .int .i64 k∧J (x.chans.l.map ConV.ofC++(x.vls.l.take k).map ConV.ofV) wr∧Gr X w wr) (fun t wr=>x.vls.l.length-(intOf t).toNat)
   case atStart=>exact⟨0,Nat.zero_le _,rfl,by simpa using hJE.out,HGE.out⟩
   case round=>
    clear hJE HGE c0 k4;obtain⟨k,hk,rfl,hJk,hG⟩:=hrel;by_cases hlt:k<x.vls.l.length
    ·have hf:=HF.out _ hG
     obtain⟨b,o,hA,hb,hc⟩:=hf.r.vls (by omega);obtain⟨d0,d1,d2,d3,d4,d5,d6,_⟩:=hc k hlt;have hBr:=hf.B;have hlc:=hf.l.lt;have hnx:=take_next ConV.ofV hlt;have hpre:x.chans.l.map ConV.ofC++(x.vls.l.take k).map ConV.ofV++ [ConV.ofV x.vls.l[k]] <+: connsV x:=by
      have:=connV_pre (x:=x) (k:=k+1) (by omega);rw[hnx]at this;simpa [List.append_assoc]using this
     have hGb:∀v,Gr X w (wr.alloc (.cells v 88)):=fun v=>hG.trans (Gr.alloc _ _ _)
     have hJb:∀v,J (x.chans.l.map ConV.ofC++(x.vls.l.take k).map ConV.ofV) (wr.alloc (.cells v 88)):=fun v=>HJ.out _ _ _ hJk ((Below.refl _ wr).alloc (Nat.le_refl _) _)
     obtain⟨fn,tmps,assign,body,hy,hR⟩:=HY.out _ _ (wr.alloc (.cells #[.string x.vls.l[k].nm,.string x.vls.l[k].src.m,.string x.vls.l[k].src.p,.string x.vls.l[k].src.o,.int .i64 x.vls.l[k].bag,.int .i64 x.vls.l[k].mx,.slice x.vls.l[k].dst.a x.vls.l[k].dst.l.length x.vls.l[k].dst.c] 88)) hpre (hGb _) (hJb _);have Hnx:=lz (show x.chans.l.map ConV.ofC++(x.vls.l.take (k+1)).map ConV.ofV=x.chans.l.map ConV.ofC++(x.vls.l.take k).map ConV.ofV++ [ConV.ofV x.vls.l[k]]by rw[hnx];rw[List.append_assoc]);have Hpre:=lz hpre;have HG:=lz hG;clear hpre hnx hJk hG hGb hJb hf hc;dsimp only[ConV.enc,ConV.val,ConV.ofV]at hy;rw[hA]at *;generalize hyk:x.vls.l[k]=y at *;gi_wp2;refine hR.mono ?_;rintro e' W3 (⟨rfl,hJ3,hG3⟩ | ⟨rfl,hJx3⟩)
     ·have HJ3:=lz hJ3
      have HG3:=lz hG3;clear hJ3 hG3;gi_wp2;go_roundw
      case rel=>exact⟨k+1,by omega,by go_num,by rw[Hnx.out];exact HJ3.out,(HG.out.trans (Gr.alloc _ _ _)).trans HG3.out⟩
      case measure=>simp[intOf];omega
     ·have HJx3:=lz hJx3
      clear hJx3;gi_wp2;refine bodyPost_ret (results_none rfl _ _ _) rfl ?_;exact⟨⟨_,rfl⟩,.inr ⟨_,Hpre.out,HJx3.out⟩⟩
    ·obtain rfl:k=x.vls.l.length:=by omega
     rw[List.take_length]at hJk;have HJk:=lz (show J (connsV x) wr from hJk);clear hJk;gi_wp2;go_end0;exact⟨⟨_,rfl⟩,.inl HJk.out⟩
abbrev MpV:=ModV×PartV
abbrev mpEnc(y:MpV):Array Value:= #[y.1.val,y.2.val]
def mpOf(m:ModV):List MpV:=m.parts.l.map fun p=>(m,p)
def partsV(x:CfgV):List MpV:=x.mods.l.flatMap mpOf
theorem flat_next{α β:Type}(f:α→List β){l:List α}{k:Nat}(h:k<l.length):(l.take (k+1)).flatMap f=(l.take k).flatMap f++f l[k]:=by
 rw[List.take_succ_eq_append_getElem h,List.flatMap_append];simp
theorem flat_pre{α β:Type}(f:α→List β)(l:List α)(k:Nat):(l.take k).flatMap f <+: l.flatMap f:=by
 have:l.flatMap f=(l.take k).flatMap f++(l.drop k).flatMap f:=by rw[←List.flatMap_append,List.take_append_drop]
 rw[this];exact List.prefix_append _ _
theorem parts_pre{x:CfgV}{i j:Nat}(hi:i<x.mods.l.length)(hj:j<x.mods.l[i].parts.l.length):(x.mods.l.take i).flatMap mpOf++(x.mods.l[i].parts.l.take j).map (fun p=>(x.mods.l[i],p))++ [(x.mods.l[i],x.mods.l[i].parts.l[j])] <+: partsV x:=by
 have h1:=flat_pre mpOf x.mods.l (i+1);rw[flat_next mpOf hi]at h1;refine List.IsPrefix.trans ?_ h1;rw[List.append_assoc];refine(List.prefix_append_right_inj _).2 ?_;rw[←take_next (fun p=>(x.mods.l[i],p)) hj];exact(List.take_prefix _ _).map _
set_option maxHeartbeats 4000000 in
theorem parts_g(x:CfgV)(g Bl B:Nat)(X:Nat→Prop)(w:World)(hX:∀k,X k→k≠Bl∧k≠g∧B≤k)(hX2:∀k,X k→k<w.heap.size)(h:CkRd w g Bl B x)(hc1:x.mods.l.length≤9223372036854775807):
 SeqG X 152 #[.pointer (some ⟨Bl,0,none⟩)] mpEnc (partsV x) w:=by
 intro l W J Jx hW hJ hJx h0 hY;have HF:=lz (fun W (hG:Gr X w W)=>h.gr hX hG);have hGW:Gr X w W:=Gr.of_below hW;have c0:W.cell? ⟨Bl,0,none⟩=some (.pointer (some ⟨g,0,none⟩)):=(HF.out _ hGW).l.cell 0;have k0:W.cell? ⟨g,0,none⟩=some (.slice x.mods.a x.mods.l.length x.mods.c):=(HF.out _ hGW).g.cell 0;have HY:=lz hY;have HJ:=lz hJ;have HX2:=lz hX2;clear hY hJ hJx h hW hX2;refine callsIn_of_wp Tryz.func152 rfl trivial ?_ rfl;simp only[Tryz.ntmps152,List.size_toArray,List.length_cons,List.length_nil,Nat.reduceAdd,Nat.reduceSub,Array.replicate_succ,Array.replicate_zero,List.push_toArray,List.append_toArray,List.nil_append,List.cons_append];gi_wp2;gi_loopw [13] (fun t wr=>∃i:Nat,i≤x.mods.l.length∧t= .int .i64 i∧J ((x.mods.l.take i).flatMap mpOf) wr∧Gr X w wr) (fun t wr=>x.mods.l.length-(intOf t).toNat)
 case atStart=>exact⟨0,Nat.zero_le _,rfl,by simpa using h0,hGW⟩
 case round=>
  clear h0 hGW c0 k0;obtain⟨i,hi,rfl,hJi,hG⟩:=hrel;by_cases hlt:i<x.mods.l.length
  ·have hf:=HF.out _ hG
   obtain⟨b,o,hA,hb,hc⟩:=hf.r.mods (by omega);obtain⟨d0,d1,d2,d3,hmr⟩:=hc i hlt;have hBr:=hf.B;have hpre:=fun j hj=>parts_pre (x:=x) (i:=i) (j:=j) hlt hj
   have Hnxt:=lz (flat_next mpOf hlt);have Hpre:=lz hpre;clear hpre hf hc;rw[hA]at *;generalize x.mods.l[i]=m at *;obtain⟨w1,hw1⟩:∃w1,w1=wr.alloc (.cells #[.string m.nm,.int .i64 m.mem,.int .i64 m.fr,.slice m.parts.a m.parts.l.length m.parts.c] 70):=⟨_,rfl⟩;have hb1:Blk w1 wr.heap.size 70 #[.string m.nm,.int .i64 m.mem,.int .i64 m.fr,.slice m.parts.a m.parts.l.length m.parts.c]:=by rw[hw1];exact Blk.new _ _ _
   have hB1:Below wr.heap.size wr w1:=by rw[hw1];exact(Below.refl _ _).alloc (Nat.le_refl _) _
   have k3:=hw1▸hb1.cell 3;have hGw:=hG.trans (Gr.of_below hB1);have hJw:=HJ.out _ _ _ hJi hB1;have hsz:=hG.size;have Hmr:=lz (show m.rd w1 B from hmr.to_ (Nat.le_refl _) (fun b o hb=>hB1.cell (p:=⟨b,o,none⟩) (Nat.lt_of_lt_of_le hb hBr)));have hB1r:B≤w1.heap.size:=Nat.le_trans hBr hB1.size;obtain⟨nb,hnb⟩:∃nb,nb=wr.heap.size:=⟨_,rfl⟩;have hnbX:∀k,X k→¬k=nb:=fun k hx e=>by have:=HX2.out k hx;have:=hsz;omega
   rw[←hnb]at hb1;have Hb1:=lz hb1;have Hw1:=lz hw1;have hG':=lz hG;have hml:m.parts.l.length≤9223372036854775807:=Nat.le_trans hmr.parts1 (Nat.le_trans hmr.parts2 (by decide));clear hmr hb1 hw1 hB1 hJi hG;gi_wp2;rw[←Hw1.out,←hnb];clear hnb;gi_loopw [20] (fun t wr'=>∃j:Nat,j≤m.parts.l.length∧t= .int .i64 j∧J ((x.mods.l.take i).flatMap mpOf++(m.parts.l.take j).map fun p=>(m,p)) wr'∧Gr X w1 wr'∧Gr X w wr') (fun t wr'=>m.parts.l.length-(intOf t).toNat)
   case atStart=>exact⟨0,Nat.zero_le _,rfl,by simpa using hJw,Gr.refl _ _,hGw⟩
   case round=>
    clear hJw hGw k3 d0 d1 d2 d3;obtain⟨j,hj,rfl,hJj,hG1,hG2⟩:=hrel;have HW:=lz hG2;by_cases hltj:j<m.parts.l.length
    ·have hf:=HF.out _ hG2
     have hmb:=hG1.blk Hb1.out (fun hx=>hnbX _ hx rfl);have hrd2:=Hmr.out.to_ (Nat.le_refl _) (gr_cell hG1 hB1r (fun k hk=>(hX k hk).2.2));obtain⟨b2,o2,hA2,hb2,hc2⟩:=hrd2.parts (by omega);have hcj:=hc2 j hltj;have hnx:=take_next (fun p=>(m,p)) hltj;have hpr:=Hpre.out j hltj;have hBr2:=hf.B;have hmlt:=hmb.lt;have e0:=hmb.cell 0;have e1:=hmb.cell 1;have e2:=hmb.cell 2;have e3:=hmb.cell 3;have hGb:∀v,Gr X w (wr.alloc (.cells v 75)):=fun v=>hG2.trans (Gr.alloc _ _ _)
     have hJb:∀v,J ((x.mods.l.take i).flatMap mpOf++(m.parts.l.take j).map fun p=>(m,p)) (wr.alloc (.cells v 75)):=fun v=>HJ.out _ _ _ hJj ((Below.refl _ wr).alloc (Nat.le_refl _) _)
     obtain⟨fn,tmps,assign,body,hy,hR⟩:=HY.out _ _ (wr.alloc (.cells #[.string m.parts.l[j].nm,.int .i64 m.parts.l[j].pe,.int .i64 m.parts.l[j].le,.int .i64 m.parts.l[j].mem,.slice m.parts.l[j].semas.a m.parts.l[j].semas.l.length m.parts.l[j].semas.c,.int .i64 m.parts.l[j].ev,.int .i64 m.parts.l[j].bo,.slice m.parts.l[j].bufs.a m.parts.l[j].bufs.l.length m.parts.l[j].bufs.c,.slice m.parts.l[j].ports.a m.parts.l[j].ports.l.length m.parts.l[j].ports.c,.slice m.parts.l[j].procs.a m.parts.l[j].procs.l.length m.parts.l[j].procs.c] 75)) hpr (hGb _) (hJb _);have Hnx:=lz (show(x.mods.l.take i).flatMap mpOf++(m.parts.l.take (j+1)).map (fun p=>(m,p))=(x.mods.l.take i).flatMap mpOf++(m.parts.l.take j).map (fun p=>(m,p))++ [(m,m.parts.l[j])]by rw[hnx,List.append_assoc]);have Hpr:=lz hpr;have HG1:=lz hG1;clear hpr hnx hJj hG1 hG2 hGb hJb hf hc2 hrd2 hmb;dsimp only[mpEnc,ModV.val,PartV.val,Sl.val]at hy;rw[hA2]at *;generalize m.parts.l[j]=p at *;obtain⟨q0,q1,q2,q3,q4,q5,q6,q7,q8,q9,_⟩:=hcj;gi_wp2;refine hR.mono ?_;rintro e' W3 (⟨rfl,hJ3,hG3⟩ | ⟨rfl,hJx3⟩)
     ·have HJ3:=lz hJ3
      have HG3:=lz hG3;clear hJ3 hG3;gi_wp2;go_roundw
      case rel=>exact⟨j+1,by omega,by go_num,by rw[Hnx.out];exact HJ3.out,(HG1.out.trans (Gr.alloc _ _ _)).trans HG3.out,(HW.out.trans (Gr.alloc _ _ _)).trans HG3.out⟩
      case measure=>simp[intOf];omega
     ·have HJx3:=lz hJx3
      clear hJx3;gi_wp2;refine bodyPost_ret (results_none rfl _ _ _) rfl ?_;exact⟨⟨_,rfl⟩,.inr ⟨_,Hpr.out,HJx3.out⟩⟩
    ·obtain rfl:j=m.parts.l.length:=by omega
     rw[List.take_length]at hJj;have HJj:=lz (show J ((x.mods.l.take (i+1)).flatMap mpOf) wr by rw[Hnxt.out];exact hJj);clear hJj;gi_wp2;go_roundw
     case rel=>exact⟨i+1,by omega,by go_num,HJj.out,HW.out⟩
     case measure=>simp[intOf];omega
  ·obtain rfl:i=x.mods.l.length:=by omega
   rw[List.take_length]at hJi;have HJi:=lz (show J (partsV x) wr from hJi);clear hJi;gi_wp2;go_end0;exact⟨⟨_,rfl⟩,.inl HJi.out⟩
end Go.Proofs.YtchfcgilpjkmhaaGreatDoor
