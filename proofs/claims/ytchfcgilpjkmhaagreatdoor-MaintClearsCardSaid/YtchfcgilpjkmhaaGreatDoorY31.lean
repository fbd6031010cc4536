import Derived.Test.YtchfcgilpjkmhaaGreatDoorY29
import Derived.Test.YtchfcgilpjkmhaaGreatDoorY30
import Derived.Test.YtchfcgilpjkmhaaGreatDoorY1
import Derived.Test.YtchfcgilpjkmhaaGreatDoorY0
set_option maxRecDepth 100000
set_option linter.unusedSimpArgs false
set_option linter.unusedVariables false
set_option linter.unusedSectionVars false
namespace Go.Proofs.YtchfcgilpjkmhaaGreatDoor
open Go.ChangeShapes Go.WideShapes Go.ChangeAt Go.RowKit
attribute [local go_sem] Oper.semAt_some
open Go.Act renaming put → zP
open List renaming setIfInBounds_toArray → zA, set_cons_zero → zB, set_cons_succ → zC
def dstS(x:CfgV)(q:PortV)(m:Int)(vl:Bool)(used:List RefV)(r:RefV):Option (List RefV):=
 if (cport x r).2<0 then none else if (cport x r).1.out=true then none else if¬(cport x r).1.kd=q.kd then none else if¬(cport x r).1.sz=q.sz then none
 else if¬(!((cport x r).2==m))=vl then none else if memB r used=true then none else some (used++ [r])
def dstsS(x:CfgV)(q:PortV)(m:Int)(vl:Bool):List RefV→List RefV→Option (List RefV)
 | [],used=>some used
 | r :: t,used=>(dstS x q m vl used r).bind (dstsS x q m vl t)
def conS(x:CfgV)(used:List RefV)(y:ConV):Option (List RefV):=
 if (cport x y.src).2<0 then none else if (cport x y.src).1.out=false then none else if memB y.src used=true then none
 else dstsS x (cport x y.src).1 (cport x y.src).2 y.vl y.dst.l (used++ [y.src])
def consS(x:CfgV):List ConV→List RefV→Option (List RefV)
 | [],used=>some used
 | y :: t,used=>(conS x used y).bind (consS x t)
def portsP(x:CfgV):Bool:=(consS x (connsV x) []).isSome
theorem dstsS_snoc(x:CfgV)(q:PortV)(m:Int)(vl:Bool)(r:RefV):∀(l:List RefV) (u:List RefV),dstsS x q m vl (l++ [r]) u=(dstsS x q m vl l u).bind fun v=>dstS x q m vl v r
 | [],u=>by
  show(dstS x q m vl u r).bind (dstsS x q m vl [])=dstS x q m vl u r
  cases dstS x q m vl u r<;>rfl
 | z :: t,u=>by
  show(dstS x q m vl u z).bind (dstsS x q m vl (t++ [r]))=((dstS x q m vl u z).bind (dstsS x q m vl t)).bind fun v=>dstS x q m vl v r
  cases dstS x q m vl u z with
  | none=>rfl
  | some v=>exact dstsS_snoc x q m vl r t v
theorem dstsS_none{x:CfgV}{q:PortV}{m:Int}{vl:Bool}{l:List RefV}{u:List RefV}{k:Nat}(hk:k≤l.length)(h:dstsS x q m vl (l.take k) u=none):dstsS x q m vl l u=none:=by
 obtain⟨d,hd⟩:∃d,d=l.length-k:=⟨_,rfl⟩
 induction d generalizing k with
 | zero=>rwa[List.take_of_length_le (by omega)]at h
 | succ d ih=>
  refine ih (k:=k+1) (by omega) ?_ (by omega);rw[take_snoc (by omega),dstsS_snoc,h];rfl
theorem consS_snoc(x:CfgV)(y:ConV):∀(l:List ConV) (u:List RefV),consS x (l++ [y]) u=(consS x l u).bind fun v=>conS x v y
 | [],u=>by
  show(conS x u y).bind (consS x [])=conS x u y
  cases conS x u y<;>rfl
 | z :: t,u=>by
  show(conS x u z).bind (consS x (t++ [y]))=((conS x u z).bind (consS x t)).bind fun v=>conS x v y
  cases conS x u z with
  | none=>rfl
  | some v=>exact consS_snoc x y t v
theorem consS_pre(x:CfgV){T:List ConV}(xs:List ConV)(h:T <+: xs)(hn:consS x T []=none):consS x xs []=none:=by
 obtain⟨t,rfl⟩:=h;have:∀(l:List ConV) (u:List RefV),consS x l u=none→consS x (l++t) u=none:=by
  intro l
  induction l with
  | nil=>intro u h;cases h
  | cons z r ih=>
   intro u h;have h:(conS x u z).bind (consS x r)=none:=h;show(conS x u z).bind (consS x (r++t))=none
   cases hz:conS x u z with
   | none=>rfl
   | some v=>rw[hz]at h;exact ih v h
 exact this T [] hn
def ConAt(x:CfgV)(T:List ConV)(o:Option (List RefV)):Prop:=consS x T []=o
theorem conn_rd{x:CfgV}{w:World}{B:Nat}(h:x.rd w B){y:ConV}(hy:y∈connsV x):RdRef w B y.dst.a y.dst.l:=by
 unfold connsV at hy;rcases List.mem_append.1 hy with hy | hy
 ·obtain⟨z,hz,rfl⟩:=List.mem_map.1 hy
  obtain⟨i,hi,rfl⟩:=List.mem_iff_getElem.1 hz;obtain⟨b,o,_,_,hc⟩:=h.chans (by omega);exact(hc i hi).2.2.2.2.dst
 ·obtain⟨z,hz,rfl⟩:=List.mem_map.1 hy
  obtain⟨i,hi,rfl⟩:=List.mem_iff_getElem.1 hz;obtain⟨b,o,_,_,hc⟩:=h.vls (by omega);exact(hc i hi).2.2.2.2.2.2.2.dst
structure RfOk(x:CfgV):Prop where
 n:(connsV x).length≤1000
 r:∀y∈connsV x,y.src.ok∧y.dst.l.length≤1000∧∀r∈y.dst.l,r.ok
theorem dstS_len{x:CfgV}{q:PortV}{m:Int}{vl:Bool}{u v:List RefV}{r:RefV}(h:dstS x q m vl u r=some v):v.length≤u.length+1:=by
 unfold dstS at h;repeat (split at h;·cases h)
 injection h with h
 subst h;simp
theorem dstsS_len{x:CfgV}{q:PortV}{m:Int}{vl:Bool}:∀{l u v:List RefV},dstsS x q m vl l u=some v→v.length≤u.length+l.length
 | [],u,v,h=>by injection h with h;subst h;simp
 | r :: t,u,v,h=>by
  have h:(dstS x q m vl u r).bind (dstsS x q m vl t)=some v:=h
  cases hz:dstS x q m vl u r with
  | none=>rw[hz]at h;cases h
  | some z=>
   rw[hz]at h;have h1:=dstsS_len (l:=t) (u:=z) h;have h2:=dstS_len hz;simp only[List.length_cons];omega
set_option maxHeartbeats 8000000 in
theorem ports_g(x:CfgV)(g:Nat)(w:World)(h:CkG w g x)(hr:x.rd w w.heap.size)(hok:RfOk x):CU 29 #[.pointer (some ⟨g,0,none⟩)] w (.bool (portsP x)):=by
 obtain⟨w1,hw1⟩:∃w1,w1=(((((w.alloc (.cells #[.pointer (some ⟨g,0,none⟩)] 104)).alloc (.cells #[.bool false] 4)).alloc (.map #[] 0)).alloc (.cells #[.map (some (w.heap.size+1+1))] 174)).alloc (.cells #[.pointer (some ⟨g,0,none⟩)] 104)):=⟨_,rfl⟩;have hb1:Below w.heap.size w w1:=by rw[hw1];exact((((((Below.refl _ w).alloc (Nat.le_refl _) _).alloc (by simp) _).alloc (by simp;omega) _).alloc (by simp;omega) _).alloc (by simp;omega) _)
 have hbk:Blk w1 (w.heap.size) 104 #[.pointer (some ⟨g,0,none⟩)]:=by
  rw[hw1];have:=Blk.new w 104 #[.pointer (some ⟨g,0,none⟩)];try simp only[World.size_alloc]at this
  exact((((this).alloc _).alloc _).alloc _).alloc _
 have hr0:Blk w1 (w.heap.size+1) 4 #[.bool false]:=by
  rw[hw1];have:=Blk.new (w.alloc (.cells #[.pointer (some ⟨g,0,none⟩)] 104)) 4 #[.bool false];try simp only[World.size_alloc]at this
  exact(((this).alloc _).alloc _).alloc _
 have hbu:Blk w1 (w.heap.size+1+1+1) 174 #[.map (some (w.heap.size+1+1))]:=by
  rw[hw1];have:=Blk.new (((w.alloc (.cells #[.pointer (some ⟨g,0,none⟩)] 104)).alloc (.cells #[.bool false] 4)).alloc (.map #[] 0)) 174 #[.map (some (w.heap.size+1+1))];try simp only[World.size_alloc]at this
  exact(this).alloc _
 have hbx:Blk w1 (w.heap.size+1+1+1+1) 104 #[.pointer (some ⟨g,0,none⟩)]:=by
  rw[hw1];have:=Blk.new ((((w.alloc (.cells #[.pointer (some ⟨g,0,none⟩)] 104)).alloc (.cells #[.bool false] 4)).alloc (.map #[] 0)).alloc (.cells #[.map (some (w.heap.size+1+1))] 174)) 104 #[.pointer (some ⟨g,0,none⟩)];try simp only[World.size_alloc]at this
  exact this
 have hcm0:CntMap KF w1 (w.heap.size+1+1) []:=by
  rw[hw1];have:=CntMap.made (M:=KF) ((w.alloc (.cells #[.pointer (some ⟨g,0,none⟩)] 104)).alloc (.cells #[.bool false] 4));simp only[World.size_alloc]at this;exact(this.alloc _).alloc _
 have hz:w1.heap.size=w.heap.size+5:=by rw[hw1];simp
 have hck:CkRd w1 g (w.heap.size+1+1+1+1) w.heap.size x:=⟨hbx,h.below hb1,hr.to_ (Nat.le_refl _) (bcell hb1),by omega⟩;have hgl:=Blk.lt h;have Hseq:=lz (conn_g x g (w.heap.size+1+1+1+1) w.heap.size (fun k=>k=w.heap.size+1+1) w1 (fun k e=>by subst e;exact⟨by omega,by omega,by omega⟩) hck (Nat.le_trans hr.chans1 (Nat.le_trans hr.chans2 (by decide))) (Nat.le_trans hr.vls1 (Nat.le_trans hr.vls2 (by decide))));have Hck:=lz hck;have Hw1:=lz hw1;have Hb1:=lz hb1;have Hr0:=lz hr0;have Hbk:=lz hbk;have Hbu:=lz hbu;have Hcm0:=lz hcm0;have Hz:=lz hz;have Hok:=lz hok;have hmk:= @run_makeMap Tryz.prog;have c00:((((w.alloc (.cells #[.pointer (some ⟨g,0,none⟩)] 104)).alloc (.cells #[.bool false] 4)).alloc (.map #[] 0)).alloc (.cells #[.map (some (w.heap.size+1+1))] 174)).cell? ⟨w.heap.size,0,none⟩=some (.pointer (some ⟨g,0,none⟩)):=((((Blk.new w 104 #[.pointer (some ⟨g,0,none⟩)]).alloc _).alloc _).alloc _).cell 0;clear h hr hw1 hb1 hr0 hbx hz hck hok hbk hbu hcm0;refine(callsIn_wide (n:=9)).1 ?_;refine callsIn_of_wp_marks Tryz.func29 rfl trivial ?_ rfl;simp only[Tryz.ntmps29,List.size_toArray,List.length_cons,List.length_nil,Nat.reduceAdd,Nat.reduceSub,Array.replicate_succ,Array.replicate_zero,List.push_toArray,List.append_toArray,List.nil_append,List.cons_append];refine wpIn_wide.2 ?_;go_wp2_with (go_at_call 60;refine(conns91 _ _).mono ?_;rintro e w' ⟨rfl,hw'⟩);rw[←Hw1.out];clear hw' c00;refine(wpIn_wide (n:=9)).1 ?_;have hz1:w.heap.size+5≤w1.heap.size:=Nat.le_of_eq Hz.out.symm;have hz1b:w1.heap.size≤w.heap.size+5:=Nat.le_of_eq Hz.out;refine range_s (gf:=144) (lb:= #[.pointer (some ⟨w.heap.size+1+1+1+1,0,none⟩)]) (encs:=ConV.enc) (xs:=connsV x) (X:=fun k=>k=w.heap.size+1+1) (XE:=fun k=>k=w.heap.size+1+1∨k=w.heap.size+1) rfl (enters_of Tryz.func144 kz rfl) (fun _=>rfl) (fun k e=>by omega) (fun k e=>by omega) Hseq.out
  (fun T W=>∃used,ConAt x T (some used)∧used.length≤1001*T.length∧CntMap KF W (w.heap.size+1+1) used∧Gr (fun k=>k=w.heap.size+1+1) w1 W)
  (fun T W=>Blk W (w.heap.size+1) 4 #[.bool false]∧Below w.heap.size w W∧ConAt x T none) ?hI ?hIE ?hI0
  (fun y a' W=>∃Bc,w1.heap.size≤Bc∧Blk W Bc 144 #[.string y.src.m,.string y.src.p,.string y.src.o,.slice y.dst.a y.dst.l.length y.dst.c,.bool y.vl]∧a'={tmps:= #[.pointer (some ⟨g,0,none⟩),.pointer (some ⟨w.heap.size,0,none⟩),.pointer (some ⟨w.heap.size+1,0,none⟩),.pointer (some ⟨w.heap.size+1+1+1,0,none⟩),.pointer (some ⟨Bc,0,none⟩),undef,undef,undef,undef,undef,undef,.map (some (w.heap.size+1+1)),.pointer (some ⟨g,0,none⟩),.func (.func 144) #[] #[.pointer (some ⟨w.heap.size+1+1+1+1,0,none⟩)],y.val,undef,undef,undef,undef,undef,undef,undef,undef,undef,undef,undef,undef,undef,undef,undef,undef,undef,undef,undef,undef,undef,undef,undef,undef,undef,undef,undef,undef,undef,undef,undef,undef,undef,undef,undef,undef,undef,undef,undef,undef,undef,undef,undef,undef,undef,undef,undef,undef,undef,undef,undef,undef,undef,undef,undef,undef,undef,undef,undef,undef,undef,undef,undef,undef,undef,undef,undef,undef,undef,undef,undef,undef,undef,undef,undef,undef,undef,undef,undef,undef,undef,undef],defers:= []}) ?hAx ?assign ?body ?done ?ret
 case hI=>
  rintro T W W' ⟨used,h1,h2,h3,h4⟩ hb;exact⟨used,h1,h2,h3.below hb (by omega),gr_low h4 hb⟩
 case hIE=>exact fun T W W' h hb=>⟨Blk.below h.1 hb (by omega),h.2.1.trans (hb.mono (by omega)),h.2.2⟩
 case hI0=>exact⟨[],rfl,by simp,Hcm0.out,Gr.refl _ _⟩
 case hAx=>
  rintro y l a' W o o' hl ho hc ⟨Bc,h1,h3,h5⟩;exact⟨Bc,h1,blk_put h3 ho hc,h5⟩
 case assign=>
  intro l T y W K hT hsz hK;gi_wp2;exact hK _ _ ((Below.refl _ W).alloc (Nat.le_refl _) _) ⟨W.heap.size,by omega,Blk.new W _ _,rfl⟩
 case ret=>
  rintro D T W3 hD hs hT ⟨h1,h2,h3⟩ hk;have HF:=lz (show portsP x=false by unfold portsP;rw[consS_pre x _ hT h3];rfl);have hDlt:D<W3.heap.size:=(Array.getElem?_eq_some_iff.1 hk).1;refine leaves_marks [D] W3 D (by simp) (fun E hE=>by simp at hE;subst hE;exact⟨Nat.le_refl _,hk⟩) fun W' hSh=> ?_
  have z0:=(Blk.below h1 hSh.below (by omega)).cell 0;exact⟨.bool false,by simp[results,Tryz.f29,go_sem,z0],by rw[HF.out],h2.trans (hSh.below.mono (by omega))⟩
 case done=>
  rintro D W hD hs ⟨used,h1,h2,h3,hgr⟩ hk;have HF:=lz (show portsP x=true by unfold portsP;rw[show consS x (connsV x) []=some used from h1];rfl);have hr0W:=hgr.blk Hr0.out (by omega);have HB:Hid (Below w.heap.size w W):=lz (⟨hgr.os.trans Hb1.out.os,hgr.tape.trans Hb1.out.tape,hgr.output.trans Hb1.out.output,Nat.le_trans Hb1.out.size hgr.size,fun k hk=>(hgr.block k (by omega) (by omega)).trans (Hb1.out.block k hk)⟩);have r0:=hr0W.cell 0;have f0:=hr0W.frozen 0;have HR:=lz hr0W;have Hk:=lz hk;clear h1 h2 h3 hgr hr0W hk;go_wp2_with fail;refine fin1 D (w.heap.size+1) w.heap.size true false w W HR.out Hk.out (by omega) HB.out (by omega) (fun W' z0=>by simp[results,Tryz.f29,go_sem,z0]) (fun W' hB=>⟨by rw[HF.out]<;>rfl,hB⟩)
 case body=>
  rintro l T ⟨src,dst,vl⟩ a' W hT hsz hG ⟨used,hu,hul,hcm,hgr⟩ ⟨Bc,hBc1,hbc,rfl⟩;dsimp only at hbc;have hmem:=mem_pre hT;obtain⟨hsok,hdl,hrok⟩:=Hok.out.r _ hmem;dsimp only at hsok hdl hrok;have hTl:T.length≤1000:=by
   have h1:=hT.length_le;have h2:=Hok.out.n;simp at h1;omega
  have hu1:used.length≤1001000:=Nat.le_trans hul (by omega);have HUL:=lz hul;have hF:∀W',Gr (fun k=>k=w.heap.size+1+1) W W'→Blk W' w.heap.size 104 #[.pointer (some ⟨g,0,none⟩)]∧CkG W' g x∧x.rd W' W'.heap.size∧Blk W' (w.heap.size+1) 4 #[.bool false]∧Blk W' (w.heap.size+1+1+1) 174 #[.map (some (w.heap.size+1+1))]∧Blk W' Bc 144 #[.string src.m,.string src.p,.string src.o,.slice dst.a dst.l.length dst.c,.bool vl]∧RdRef W' W'.heap.size dst.a dst.l:=fun W' hW=>by
   have h1:=hgr.trans hW;have hc:=Hck.out.gr (X:=fun k=>k=w.heap.size+1+1) (fun k e=>by subst e;exact⟨by omega,by omega,by omega⟩) h1;exact⟨h1.blk Hbk.out (by omega),hc.g,hc.r.more hc.B,h1.blk Hr0.out (by omega),h1.blk Hbu.out (by omega),hW.blk hbc (by omega),(conn_rd hc.r hmem).more hc.B⟩
  have hbad:∀W',Gr (fun k=>k=w.heap.size+1+1) W W'→conS x used ⟨src,dst,vl⟩=none→(Gr (fun k=>k=w.heap.size+1+1∨k=w.heap.size+1) W (W'.setCell ⟨w.heap.size+1,0,none⟩ (.bool false))∧Blk (W'.setCell ⟨w.heap.size+1,0,none⟩ (.bool false)) (w.heap.size+1) 4 #[.bool false]∧Below w.heap.size w (W'.setCell ⟨w.heap.size+1,0,none⟩ (.bool false))∧ConAt x (T++ [⟨src,dst,vl⟩]) none)∧W'.cell? ⟨w.heap.size+1,0,none⟩=some (.bool false)∧W'.frozen? ⟨w.heap.size+1,0,none⟩=false:=fun W' hW hn=>by
   have h4:=(hF W' hW).2.2.2.1;have h1:=hgr.trans hW;have hBel:Below w.heap.size w W':=⟨h1.os.trans Hb1.out.os,h1.tape.trans Hb1.out.tape,h1.output.trans Hb1.out.output,Nat.le_trans Hb1.out.size h1.size,fun k hk=>(h1.block k (by omega) (by omega)).trans (Hb1.out.block k hk)⟩;refine⟨⟨(hW.mono fun k _ e=> .inl e).trans (Gr.setCell W' ⟨w.heap.size+1,0,none⟩ _ (.inr rfl)),by simpa using h4.set_ 0 (.bool false),hBel.setCell (p:=⟨w.heap.size+1,0,none⟩) (by show w.heap.size≤w.heap.size+1;omega) _,?_⟩,h4.cell 0,h4.frozen 0⟩;unfold ConAt at *;rw[consS_snoc,hu];exact hn
  have hgood:∀v,conS x used ⟨src,dst,vl⟩=some v→ConAt x (T++ [⟨src,dst,vl⟩]) (some v):=fun v hv=>by
   unfold ConAt at *;rw[consS_snoc,hu];exact hv
  obtain⟨⟨q,m⟩,hq⟩:∃q,q=cport x src:=⟨_,rfl⟩;have hW0:=hF W (Gr.refl _ _);have hcp:=cport_c x src g W hW0.2.1 hW0.2.2.1;rw[←hq]at hcp;have hcon:conS x used ⟨src,dst,vl⟩=if m<0 then none else if q.out=false then none else if memB src used=true then none else dstsS x q m vl dst.l (used++ [src]):=by
   unfold conS;rw[show cport x (ConV.mk src dst vl).src=(q,m)from hq.symm]
  have c0:=hW0.1.cell 0;have d0:=hbc.cell 0;have d1:=hbc.cell 1;have d2:=hbc.cell 2;have hlc:=hbc.lt;have Hcp:=lz hcp;have Hcon:=lz hcon;have HF:=lz hF;have Hbad:=lz hbad;have Hgood:=lz hgood;have Hcm:=lz hcm;have Hgr:=lz hgr;have Hrok:=lz hrok;have Hsok:=lz hsok;clear hcp hcon hF hbad hgood hcm hgr hrok hsok hu hW0 hq hG hbc hmem hT hul;gi_wp2;refine round_call Hcp.out ?_;rintro e W2 ⟨rfl,hb2⟩;dsimp only;obtain⟨W3,hW3⟩:∃W3,W3=W2.alloc (.cells #[.string q.nm,.int .u8 q.kd,.bool q.out,.int .i64 q.sz,.int .i64 q.dp,.int .i64 q.rf] 77):=⟨_,rfl⟩;have hB3:Below W.heap.size W W3:=by rw[hW3];exact hb2.alloc hb2.size _
  have hqb:Blk W3 W2.heap.size 77 #[.string q.nm,.int .u8 q.kd,.bool q.out,.int .i64 q.sz,.int .i64 q.dp,.int .i64 q.rf]:=by rw[hW3];exact Blk.new W2 _ _
  have hg3:Gr (fun k=>k=w.heap.size+1+1) W W3:=Gr.of_below hB3;have hcmK:CntMap KF W3 (w.heap.size+1+1) used:=Hcm.out.next hB3
  have hokK:=Hsok.out;have hF3:=HF.out W3 hg3;have hkU:=hF3.2.2.2.2.1.cell 0;have hk0:=hF3.2.2.2.2.2.1.cell 0;have hk1:=hF3.2.2.2.2.2.1.cell 1;have hk2:=hF3.2.2.2.2.2.1.cell 2;have hbW:=hb2.size;obtain⟨Bf,hBf⟩:∃Bf,Bf=W2.heap.size:=⟨_,rfl⟩;rw[←hBf]at hqb hbW;have HW3:=lz hW3;have HBf:=lz hBf;have Hqb:=lz hqb;have Hg3:=lz hg3;clear hW3 hB3 hqb hg3 hF3 hb2 c0 d0 d1 d2 hBf Hcp;obtain⟨v0,stq,W1,W2,hE,hL,hSt,hC2,hg2,hcell⟩:=(CntMap.drew hcmK).entryK (M:=KF) lawF KF.und (by unfold maxLen;omega) (y:=src) hokK;have hcl':=cnt_le src used;have hcb:(cntB src used:Int)≤9223372036854775806:=by omega
  have hc0:(0:Int)≤(cntB src used:Int):=by omega
  have hwr:IntKind.i64.wrap ((cntB src used:Int)+1)=(cntB src used:Int)+1:=IntWalk.i64_in _ (by omega);have HSt:=lz (show(Instr.entryStore 174 (.map (some (w.heap.size+1+1))) (.int .i64 ((stq:Nat):Int)) (.int .i64 ((cntB src used:Int)+1))).run Tryz.prog W1= .ok () W2 from hSt);have HE:=lz (show(Instr.mapEntry 174 (.map (some (w.heap.size+1+1))) (.agg #[.string src.m,.string src.p,.string src.o])).run Tryz.prog W3.drew= .ok (.tuple #[v0,.int .i64 ((stq:Nat):Int)]) W1 from hE);have hHeld:(fun W=>W.cell? ⟨w.heap.size+1+1+1,0,none⟩=some (.map (some (w.heap.size+1+1)))∧W.cell? ⟨Bc,0,none⟩=some (.string src.m)∧W.cell? ⟨Bc,1,none⟩=some (.string src.p)∧W.cell? ⟨Bc,2,none⟩=some (.string src.o)∧(Instr.lookup 174 (.map (some (w.heap.size+1+1))) (.agg #[.string src.m,.string src.p,.string src.o]) false).run Tryz.prog W= .ok (.int .i64 (cntB src used)) W) W3.drew:=⟨hkU,hk0,hk1,hk2,(CntMap.drew hcmK).run_look (M:=KF) (y:=src) hokK⟩;have HH1:Hid ((fun W=>W.cell? ⟨w.heap.size+1+1+1,0,none⟩=some (.map (some (w.heap.size+1+1)))∧W.cell? ⟨Bc,0,none⟩=some (.string src.m)∧W.cell? ⟨Bc,1,none⟩=some (.string src.p)∧W.cell? ⟨Bc,2,none⟩=some (.string src.o)∧(Instr.lookup 174 (.map (some (w.heap.size+1+1))) (.agg #[.string src.m,.string src.p,.string src.o]) false).run Tryz.prog W= .ok (.int .i64 (cntB src used)) W) W1):=lz (⟨(hcell ⟨w.heap.size+1+1+1,0,none⟩ (by show¬w.heap.size+1+1+1=w.heap.size+1+1;omega)).trans hkU,(hcell ⟨Bc,0,none⟩ (by show¬Bc=w.heap.size+1+1;omega)).trans hk0,(hcell ⟨Bc,1,none⟩ (by show¬Bc=w.heap.size+1+1;omega)).trans hk1,(hcell ⟨Bc,2,none⟩ (by show¬Bc=w.heap.size+1+1;omega)).trans hk2,hL⟩);have HC2:=lz hC2;have HG2:=lz (show Gr (fun k=>k=w.heap.size+1+1) W3 W2 from⟨hg2.os,hg2.tape,hg2.output,hg2.size,fun i hi hne=>hg2.block i hi (fun e=>hne (Option.some.inj e))⟩);clear hE hL hSt hC2 hg2 hcell hcl' hcb hkU hk0 hk1 hk2;gi_wp2_with fail;rw[←HW3.out,←HBf.out];refine wpIn_region_roundS (fun W=>W.cell? ⟨w.heap.size+1+1+1,0,none⟩=some (.map (some (w.heap.size+1+1)))∧W.cell? ⟨Bc,0,none⟩=some (.string src.m)∧W.cell? ⟨Bc,1,none⟩=some (.string src.p)∧W.cell? ⟨Bc,2,none⟩=some (.string src.o)∧(Instr.lookup 174 (.map (some (w.heap.size+1+1))) (.agg #[.string src.m,.string src.p,.string src.o]) false).run Tryz.prog W= .ok (.int .i64 (cntB src used)) W) 7 kz kz ?hq hHeld (fun hHeld=> ?_)
  case hq=>rintro⟨_,_,h⟩;rcases h with⟨h,-⟩ | ⟨h,-⟩<;>cases h
  refine TS 0 rfl hHeld ?_
  simp only[zP,zA,zB,zC];refine TS 1 rfl hHeld ?_
  simp only[zP,zA,zB,zC];refine TS 2 rfl hHeld ?_
  simp only[zP,zA,zB,zC];refine TS 3 rfl hHeld ?_
  simp only[zP,zA,zB,zC];refine TS 4 rfl hHeld ?_
  simp only[zP,zA,zB,zC];refine RQ 5 rfl fun K hK=> ?_;have hfx:=HE.out;go_simp;refine hK.out _ _ (fun _=>HH1.out) ?_;clear hK hfx;have hHeld:=HH1.out;refine TS 6 rfl hHeld ?_
  simp only[zP,zA,zB,zC];refine RQ 7 rfl fun K hK=> ?_;have hfx:=HSt.out;go_simp;refine hK.out _ _ (fun h=>absurd h (by decide)) ?_;clear hK hfx;clear hHeld HH1 HE HSt hwr hc0;refine wpAnyS_done kz ?_ _;have HGW:=lz (show Gr (fun k=>k=w.heap.size+1+1) W W2 from Hg3.out.trans HG2.out);have hF2:=HF.out W2 HGW.out;have hq2:=HG2.out.blk Hqb.out (by omega);have f2:=hq2.cell 2;have u0:=hF2.2.2.2.2.1.cell 0;have d0:=hF2.2.2.2.2.2.1.cell 0;have d1:=hF2.2.2.2.2.2.1.cell 1;have d2:=hF2.2.2.2.2.2.1.cell 2;have d3:=hF2.2.2.2.2.2.1.cell 3;have d4:=hF2.2.2.2.2.2.1.cell 4;have hlk2:(Instr.lookup 174 (.map (some (w.heap.size+1+1))) (.agg #[.string src.m,.string src.p,.string src.o]) false).run Tryz.prog W2= .ok (.int .i64 (cntB src (used++ [src]))) W2:=HC2.out.run_look (M:=KF) (y:=src) Hsok.out;have hpush:=cnt_push src src used;rw[if_pos rfl]at hpush;have hgt:=cnt_gt src used;obtain⟨cn,hcn⟩:∃c,c=cntB src used:=⟨_,rfl⟩;rw[hpush,←hcn]at hlk2;rw[←hcn]at hgt;have lBf:=hq2.lt;have lBc:=hF2.2.2.2.2.2.1.lt;clear hpush hcn hF2 hq2 hokK hcmK HW3 HBf;by_cases hm0:m<0
  ·have e1:decide (m<0)=true:=decide_eq_true hm0
   have hb:=Hbad.out W2 HGW.out (by rw[Hcon.out,if_pos hm0]);have r0:=hb.2.1;have f0:=hb.2.2;have HBB:=lz hb.1;clear hb hgt;gi_wp2;exact HBB.out
  ·have e1:decide (m<0)=false:=decide_eq_false hm0
   cases ho:q.out with
   | false=>
    rw[ho]at f2;have hb:=Hbad.out W2 HGW.out (by rw[Hcon.out,if_neg hm0,if_pos ho]);have r0:=hb.2.1;have f0:=hb.2.2;have HBB:=lz hb.1;clear hb hgt ho;gi_wp2;exact HBB.out
   | true=>
    rw[ho]at f2
    cases hmem:memB src used with
    | true=>
     rw[hmem]at hgt;have h9:0<cn:=of_decide_eq_true hgt;have h8:decide (1<cn+1)=true:=decide_eq_true (by omega);have hb:=Hbad.out W2 HGW.out (by rw[Hcon.out,if_neg hm0,if_neg (by rw[ho];decide),if_pos hmem]);have r0:=hb.2.1;have f0:=hb.2.2;have HBB:=lz hb.1;clear hb hgt ho hmem;gi_wp2;exact HBB.out
    | false=>
     rw[hmem]at hgt;have h9:¬0<cn:=of_decide_eq_false hgt;have h8:decide (1<cn+1)=false:=decide_eq_false (by omega);have HD:=lz (show conS x used ⟨src,dst,vl⟩=dstsS x q m vl dst.l (used++ [src])by rw[Hcon.out,if_neg hm0,if_neg (by rw[ho];decide),if_neg (by rw[hmem];decide)]);have hdl9:(dst.l.length:Int)≤1000:=by omega
     clear hgt ho hmem Hcon;gi_wp2;gi_loopw [46] (fun t wr=>∃(k:Nat) (u:List RefV),k≤dst.l.length∧t= .int .i64 k∧Hid (dstsS x q m vl (dst.l.take k) (used++ [src])=some u)∧CntMap KF wr (w.heap.size+1+1) u∧Gr (fun k=>k=w.heap.size+1+1) W2 wr) (fun t wr=>dst.l.length-(intOf t).toNat)
     case atStart=>exact⟨0,used++ [src],Nat.zero_le _,rfl,lz rfl,HC2.out,Gr.refl _ _⟩
     case round=>
      clear f2 u0 d0 d1 d2 d3 d4 hlk2;obtain⟨k,u,hk,rfl,hus,hcmu,hg4⟩:=hrel;have HG4:=lz hg4;have hGw:Gr (fun k=>k=w.heap.size+1+1) W wr:=HGW.out.trans hg4;have hF4:=HF.out wr hGw;by_cases hlt:k<dst.l.length
      ·obtain⟨b',o,hA,hbb,hcc⟩:=hF4.2.2.2.2.2.2 (by omega)
       obtain⟨e0,e1,e2⟩:=hcc k hlt;have hrk:=Hrok.out _ (List.getElem_mem hlt);have hsn:dstsS x q m vl (dst.l.take (k+1)) (used++ [src])=dstS x q m vl u dst.l[k]:=by rw[take_snoc hlt,dstsS_snoc,hus.out];rfl
       obtain⟨r,hr⟩:∃r,r=dst.l[k]:=⟨_,rfl⟩;rw[←hr]at e0 e1 e2 hrk hsn;have hul:u.length≤1002001:=by
        have h1:=dstsS_len hus.out;simp at h1;omega
       obtain⟨⟨t,n⟩,ht⟩:∃q,q=cport x r:=⟨_,rfl⟩;have hds:dstS x q m vl u r=if n<0 then none else if t.out=true then none else if¬t.kd=q.kd then none else if¬t.sz=q.sz then none else if¬(!(n==m))=vl then none else if memB r u=true then none else some (u++ [r]):=by
        unfold dstS;rw[←ht]
       have hnone:dstS x q m vl u r=none→conS x used ⟨src,dst,vl⟩=none:=fun h=>by
        rw[HD.out];exact dstsS_none (k:=k+1) (by omega) (by rw[hsn];exact h)
       have hG5:Gr (fun k=>k=w.heap.size+1+1) W (wr.alloc (.cells #[.string r.m,.string r.p,.string r.o] 82)):=hGw.trans (Gr.alloc _ _ _);have hF5:=HF.out _ hG5;have hcp:=cport_c x r g (wr.alloc (.cells #[.string r.m,.string r.p,.string r.o] 82)) hF5.2.1 hF5.2.2.1;rw[←ht]at hcp;have c0:=hF4.1.cell 0;have lk0:=hF4.1.lt;have lb0:b'<wr.heap.size:=hbb;have i0:(0:Int)≤(k:Int):=by omega
       have i1:(k:Int)<(dst.l.length:Int):=by omega
       have Hcp:=lz hcp;have Hds:=lz hds;have HN:=lz hnone;have Hsn:=lz hsn;have HGw:=lz hGw;have Hcmu:=lz hcmu;have hszw:=hGw.size;have hsz4:=hg4.size;clear hcp hds hnone hsn hcc hF4 hF5 hG5 hGw hus hcmu ht hg4 hr HD;rw[hA]at *;gi_wp2;refine round_call Hcp.out ?_;rintro e W6 ⟨rfl,hb6⟩;dsimp only;obtain⟨Br,hBr⟩:∃Br,Br=wr.heap.size:=⟨_,rfl⟩;obtain⟨W7,hW7⟩:∃W7,W7=W6.alloc (.cells #[.string t.nm,.int .u8 t.kd,.bool t.out,.int .i64 t.sz,.int .i64 t.dp,.int .i64 t.rf] 77):=⟨_,rfl⟩;have hB5:Below wr.heap.size wr (wr.alloc (.cells #[.string r.m,.string r.p,.string r.o] 82)):=(Below.refl _ _).alloc (Nat.le_refl _) _;have hB7:Below wr.heap.size wr W7:=by rw[hW7];exact(hB5.trans (hb6.mono hB5.size)).alloc (Nat.le_trans hB5.size hb6.size) _
       have hrb:Blk W7 wr.heap.size 82 #[.string r.m,.string r.p,.string r.o]:=by rw[hW7];exact((Blk.new wr 82 #[.string r.m,.string r.p,.string r.o]).below hb6 (by simp)).alloc _
       have htb:Blk W7 W6.heap.size 77 #[.string t.nm,.int .u8 t.kd,.bool t.out,.int .i64 t.sz,.int .i64 t.dp,.int .i64 t.rf]:=by rw[hW7];exact Blk.new W6 _ _
       have hs6:wr.heap.size<W6.heap.size:=by have:=hb6.size;simp at this;omega
       obtain⟨Bt,hBt⟩:∃Bt,Bt=W6.heap.size:=⟨_,rfl⟩;rw[←hBt]at htb hs6;have hg7:Gr (fun k=>k=w.heap.size+1+1) W W7:=HGw.out.trans (Gr.of_below hB7);have hcmK:CntMap KF W7 (w.heap.size+1+1) u:=Hcmu.out.next hB7
       have hokK:=hrk;have hF7:=HF.out W7 hg7;rw[←hBr]at hrb hs6 ⊢;have hbr2:Br<W7.heap.size:=hrb.lt;have hkU:=hF7.2.2.2.2.1.cell 0;have hk0:=hrb.cell 0;have hk1:=hrb.cell 1;have hk2:=hrb.cell 2;have HW7:=lz hW7;have HBt:=lz hBt;have Htb:=lz htb;have Hrb:=lz hrb;have Hg7:=lz hg7;have H4b:=lz (show Gr (fun k=>k=w.heap.size+1+1) W2 W7 from HG4.out.trans (Gr.of_below hB7));have Hqb7:=lz ((H4b.out.blk (HG2.out.blk Hqb.out (by omega)) (by omega)));have hbrw:w.heap.size+1+1<Br:=by omega
       clear hW7 hB5 hB7 hrb htb hg7 hF7 hb6 hBt hBr Hcp c0 e0 e1 e2 Hcmu;obtain⟨v0,stq,W1,W2,hE,hL,hSt,hC2,hg2,hcell⟩:=(CntMap.drew hcmK).entryK (M:=KF) lawF KF.und (by unfold maxLen;omega) (y:=r) hokK;have hcl':=cnt_le r u;have hcb:(cntB r u:Int)≤9223372036854775806:=by omega
       have hc0:(0:Int)≤(cntB r u:Int):=by omega
       have hwr:IntKind.i64.wrap ((cntB r u:Int)+1)=(cntB r u:Int)+1:=IntWalk.i64_in _ (by omega);have HSt:=lz (show(Instr.entryStore 174 (.map (some (w.heap.size+1+1))) (.int .i64 ((stq:Nat):Int)) (.int .i64 ((cntB r u:Int)+1))).run Tryz.prog W1= .ok () W2 from hSt);have HE:=lz (show(Instr.mapEntry 174 (.map (some (w.heap.size+1+1))) (.agg #[.string r.m,.string r.p,.string r.o])).run Tryz.prog W7.drew= .ok (.tuple #[v0,.int .i64 ((stq:Nat):Int)]) W1 from hE);have hHeld:(fun W=>W.cell? ⟨w.heap.size+1+1+1,0,none⟩=some (.map (some (w.heap.size+1+1)))∧W.cell? ⟨Br,0,none⟩=some (.string r.m)∧W.cell? ⟨Br,1,none⟩=some (.string r.p)∧W.cell? ⟨Br,2,none⟩=some (.string r.o)∧(Instr.lookup 174 (.map (some (w.heap.size+1+1))) (.agg #[.string r.m,.string r.p,.string r.o]) false).run Tryz.prog W= .ok (.int .i64 (cntB r u)) W) W7.drew:=⟨hkU,hk0,hk1,hk2,(CntMap.drew hcmK).run_look (M:=KF) (y:=r) hokK⟩;have HH1:Hid ((fun W=>W.cell? ⟨w.heap.size+1+1+1,0,none⟩=some (.map (some (w.heap.size+1+1)))∧W.cell? ⟨Br,0,none⟩=some (.string r.m)∧W.cell? ⟨Br,1,none⟩=some (.string r.p)∧W.cell? ⟨Br,2,none⟩=some (.string r.o)∧(Instr.lookup 174 (.map (some (w.heap.size+1+1))) (.agg #[.string r.m,.string r.p,.string r.o]) false).run Tryz.prog W= .ok (.int .i64 (cntB r u)) W) W1):=lz (⟨(hcell ⟨w.heap.size+1+1+1,0,none⟩ (by show¬w.heap.size+1+1+1=w.heap.size+1+1;omega)).trans hkU,(hcell ⟨Br,0,none⟩ (by show¬Br=w.heap.size+1+1;omega)).trans hk0,(hcell ⟨Br,1,none⟩ (by show¬Br=w.heap.size+1+1;omega)).trans hk1,(hcell ⟨Br,2,none⟩ (by show¬Br=w.heap.size+1+1;omega)).trans hk2,hL⟩);have HC2:=lz hC2;have HG2:=lz (show Gr (fun k=>k=w.heap.size+1+1) W7 W2 from⟨hg2.os,hg2.tape,hg2.output,hg2.size,fun i hi hne=>hg2.block i hi (fun e=>hne (Option.some.inj e))⟩);clear hE hL hSt hC2 hg2 hcell hcl' hcb hkU hk0 hk1 hk2;gi_wp2_with fail;rw[←HW7.out,←HBt.out];refine wpIn_region_roundS (fun W=>W.cell? ⟨w.heap.size+1+1+1,0,none⟩=some (.map (some (w.heap.size+1+1)))∧W.cell? ⟨Br,0,none⟩=some (.string r.m)∧W.cell? ⟨Br,1,none⟩=some (.string r.p)∧W.cell? ⟨Br,2,none⟩=some (.string r.o)∧(Instr.lookup 174 (.map (some (w.heap.size+1+1))) (.agg #[.string r.m,.string r.p,.string r.o]) false).run Tryz.prog W= .ok (.int .i64 (cntB r u)) W) 6 kz kz ?hq hHeld (fun hHeld=> ?_)
       case hq=>rintro⟨_,_,h⟩;rcases h with⟨h,-⟩ | ⟨h,-⟩<;>cases h
       refine TS 0 rfl hHeld ?_
       simp only[zP,zA,zB,zC];refine TS 1 rfl hHeld ?_
       simp only[zP,zA,zB,zC];refine TS 2 rfl hHeld ?_
       simp only[zP,zA,zB,zC];refine TS 3 rfl hHeld ?_
       simp only[zP,zA,zB,zC];refine RQ 4 rfl fun K hK=> ?_;have hfx:=HE.out;go_simp;refine hK.out _ _ (fun _=>HH1.out) ?_;clear hK hfx;have hHeld:=HH1.out;refine TS 5 rfl hHeld ?_
       simp only[zP,zA,zB,zC];refine RQ 6 rfl fun K hK=> ?_;have hfx:=HSt.out;go_simp;refine hK.out _ _ (fun h=>absurd h (by decide)) ?_;clear hK hfx;clear hHeld HH1 HE HSt hwr hc0;refine wpAnyS_done kz ?_ _;have HG9:=lz (show Gr (fun k=>k=w.heap.size+1+1) W W2 from Hg7.out.trans HG2.out);have HG10:=lz (H4b.out.trans HG2.out);have hF9:=HF.out W2 HG9.out;have hq9:=HG2.out.blk Hqb7.out (by omega);have ht9:=HG2.out.blk Htb.out (by omega);have hr9:=HG2.out.blk Hrb.out (by omega);have q1:=hq9.cell 1;have q3:=hq9.cell 3;have t1:=ht9.cell 1;have t2:=ht9.cell 2;have t3:=ht9.cell 3;have d4:=hF9.2.2.2.2.2.1.cell 4;have u0:=hF9.2.2.2.2.1.cell 0;have r1:=hr9.cell 0;have r2:=hr9.cell 1;have r3:=hr9.cell 2;have hlk9:(Instr.lookup 174 (.map (some (w.heap.size+1+1))) (.agg #[.string r.m,.string r.p,.string r.o]) false).run Tryz.prog W2= .ok (.int .i64 (cntB r (u++ [r]))) W2:=HC2.out.run_look (M:=KF) (y:=r) hrk;have hpush:=cnt_push r r u;rw[if_pos rfl]at hpush;have hgt:=cnt_gt r u;obtain⟨cn2,hcn⟩:∃c,c=cntB r u:=⟨_,rfl⟩;rw[hpush,←hcn]at hlk9;rw[←hcn]at hgt;clear hpush hcn hF9 hq9 ht9 hr9 hokK hcmK HW7 HBt hrk;by_cases hn0:n<0
       ·have e1:decide (n<0)=true:=decide_eq_true hn0
        have hb:=Hbad.out W2 HG9.out (HN.out (by rw[Hds.out,if_pos hn0]));have r0:=hb.2.1;have f0:=hb.2.2;have HBB:=lz hb.1;clear hb hgt;gi_wp2;exact HBB.out
       ·have e1:decide (n<0)=false:=decide_eq_false hn0
        cases hto:t.out with
        | true=>
         rw[hto]at t2;have hb:=Hbad.out W2 HG9.out (HN.out (by rw[Hds.out,if_neg hn0,if_pos hto]));have r0:=hb.2.1;have f0:=hb.2.2;have HBB:=lz hb.1;clear hb hgt hto;gi_wp2;exact HBB.out
        | false=>
         rw[hto]at t2;by_cases hkd:t.kd=q.kd;rotate_left
         ·have e2:(t.kd==q.kd)=false:=by simpa using hkd
          have hb:=Hbad.out W2 HG9.out (HN.out (by rw[Hds.out,if_neg hn0,if_neg (by rw[hto];decide),if_pos hkd]));have r0:=hb.2.1;have f0:=hb.2.2;have HBB:=lz hb.1;clear hb hgt hto;gi_wp2;exact HBB.out
         ·have e2:(t.kd==q.kd)=true:=by simpa using hkd
          by_cases hsz:t.sz=q.sz;rotate_left
          ·have e3:(t.sz==q.sz)=false:=by simpa using hsz
           have hb:=Hbad.out W2 HG9.out (HN.out (by rw[Hds.out,if_neg hn0,if_neg (by rw[hto];decide),if_neg (fun h=>h hkd),if_pos hsz]));have r0:=hb.2.1;have f0:=hb.2.2;have HBB:=lz hb.1;clear hb hgt hto;gi_wp2;exact HBB.out
          ·have e3:(t.sz==q.sz)=true:=by simpa using hsz
           by_cases hvl:(!(n==m))=vl;rotate_left
           ·by_cases hnm:n=m
            ·have e4:(n==m)=true:=by simpa using hnm
             have e5:vl=true:=by rw[e4]at hvl;cases vl<;>simp_all
             subst e5;have hb:=Hbad.out W2 HG9.out (HN.out (by rw[Hds.out,if_neg hn0,if_neg (by rw[hto];decide),if_neg (fun h=>h hkd),if_neg (fun h=>h hsz),if_pos hvl]));have r0:=hb.2.1;have f0:=hb.2.2;have HBB:=lz hb.1;clear hb hgt hto hvl;gi_wp2;exact HBB.out
            ·have e4:(n==m)=false:=by simpa using hnm
             have e6:(n !=m)=true:=by simp[bne,e4]
             have e5:vl=false:=by rw[e4]at hvl;cases vl<;>simp_all
             subst e5;have hb:=Hbad.out W2 HG9.out (HN.out (by rw[Hds.out,if_neg hn0,if_neg (by rw[hto];decide),if_neg (fun h=>h hkd),if_neg (fun h=>h hsz),if_pos hvl]));have r0:=hb.2.1;have f0:=hb.2.2;have HBB:=lz hb.1;clear hb hgt hto hvl;gi_wp2;exact HBB.out
           ·have Hvl:=lz hvl
            clear hvl
            cases hme:memB r u with
            | true=>
             rw[hme]at hgt;have h19:0<cn2:=of_decide_eq_true hgt;have h18:decide (1<cn2+1)=true:=decide_eq_true (by omega);by_cases hnm:n=m
             ·have e4:(n==m)=true:=by simpa using hnm
              have e5:vl=false:=by rw[←Hvl.out,e4];rfl
              subst e5;have hb:=Hbad.out W2 HG9.out (HN.out (by rw[Hds.out,if_neg hn0,if_neg (by rw[hto];decide),if_neg (fun h=>h hkd),if_neg (fun h=>h hsz),if_neg (fun h=>h Hvl.out),if_pos hme]));have r0:=hb.2.1;have f0:=hb.2.2;have HBB:=lz hb.1;clear hb hgt hto hme;gi_wp2;exact HBB.out
             ·have e4:(n==m)=false:=by simpa using hnm
              have e6:(n !=m)=true:=by simp[bne,e4]
              have e5:vl=true:=by rw[←Hvl.out,e4];rfl
              subst e5;have hb:=Hbad.out W2 HG9.out (HN.out (by rw[Hds.out,if_neg hn0,if_neg (by rw[hto];decide),if_neg (fun h=>h hkd),if_neg (fun h=>h hsz),if_neg (fun h=>h Hvl.out),if_pos hme]));have r0:=hb.2.1;have f0:=hb.2.2;have HBB:=lz hb.1;clear hb hgt hto hme;gi_wp2;exact HBB.out
            | false=>
             rw[hme]at hgt;have h19:¬0<cn2:=of_decide_eq_false hgt;have h18:decide (1<cn2+1)=false:=decide_eq_false (by omega);have Hgo:=lz (show dstsS x q m vl (dst.l.take (k+1)) (used++ [src])=some (u++ [r])by rw[Hsn.out,Hds.out,if_neg hn0,if_neg (by rw[hto];decide),if_neg (fun h=>h hkd),if_neg (fun h=>h hsz),if_neg (fun h=>h Hvl.out),if_neg (by rw[hme];decide)]);clear hgt hto hme;by_cases hnm:n=m
             ·have e4:(n==m)=true:=by simpa using hnm
              have e5:vl=false:=by rw[←Hvl.out,e4];rfl
              subst e5;gi_wp2;go_roundw
              case rel=>exact⟨k+1,u++ [r],by omega,by go_num,lz Hgo.out,HC2.out,HG10.out⟩
              case measure=>simp[intOf];omega
             ·have e4:(n==m)=false:=by simpa using hnm
              have e6:(n !=m)=true:=by simp[bne,e4]
              have e5:vl=true:=by rw[←Hvl.out,e4];rfl
              subst e5;gi_wp2;go_roundw
              case rel=>exact⟨k+1,u++ [r],by omega,by go_num,lz Hgo.out,HC2.out,HG10.out⟩
              case measure=>simp[intOf];omega
      ·obtain rfl:k=dst.l.length:=by omega
       have hus2:=hus.out;rw[List.take_length]at hus2;have Hnd:Hid (ConAt x (T++ [⟨src,dst,vl⟩]) (some u)):=lz (Hgood.out u (by rw[HD.out];exact hus2));have hul:=dstsS_len hus2;have Hcu:=lz hcmu;have HGw:=lz hGw;have HTl:=lz (show u.length≤1001*(T.length+1)by have h1:=HUL.out;simp at hul;omega);clear hcmu hGw hus2 hul hus hF4 hg4;gi_wp2;exact⟨HGw.out,u,Hnd.out,HTl.out,Hcu.out,Hgr.out.trans HGw.out⟩
end Go.Proofs.YtchfcgilpjkmhaaGreatDoor
namespace Go.Proofs.YtchfcgilpjkmhaaGreatDoor
open Go.ChangeShapes Go.WideShapes Go.ChangeAt Go.RowKit
def backB(ops:Array Oper):Bool:=(List.range ops.size).all fun i=>match ops[i]? with | some o=>o.after.all fun e=>decide (e.on<i) | none=>true
theorem backB_spec{ops:Array Oper}(h:backB ops=true){i:Nat}{o:Oper}(ho:ops[i]?=some o):∀e∈o.after,e.on<i:=by
 have hi:i<ops.size:=(Array.getElem?_eq_some_iff.1 ho).1;simp only[backB,List.all_eq_true,List.mem_range]at h;have h1:=h i hi;rw[ho]at h1;intro e he;have h2:=(Array.all_eq_true'.1 h1) e he;exact of_decide_eq_true h2
theorem ready_of{md:Region.Mode}{ops:Array Oper}{listed:Array Bool}(hb:backB ops=true):∀(i:Nat),i<ops.size→listed.getD i true=false→Region.ready md ops listed≠ []:=by
 intro i
 induction i using Nat.strongRecOn with
 | ind i ih=>
  intro hi hl h0;have ho:ops[i]?=some ops[i]:=by simp[hi]
  have hr:i∈Region.ready md ops listed:=mem_ready.2 ⟨hl,ops[i],ho,fun e he hbi=>by
   have hlt:=backB_spec hb ho e he
   cases hd:listed.getD e.on true with
   | false=>exact absurd h0 (ih e.on hlt (by omega) hd)
   | true=>
    rcases Nat.lt_or_ge e.on listed.size with h' | h'
    ·simp[h']at hd ⊢;exact hd
    ·rcases Nat.lt_or_ge i listed.size with h2 | h2
     ·omega
     ·simp[Array.getElem?_eq_none h2]at hl⟩
  rw[h0]at hr
  cases hr
def depB(md:Region.Mode)(ops:Array Oper)(i j:Nat):Bool:=match ops[i]? with | some o=>o.after.any (fun e=>Region.binds md e&&e.on==j) | none=>false
def Shuts(md:Region.Mode)(ops:Array Oper)(listed:Array Bool):Prop:=∀i j,depB md ops i j=true→listed.getD i false=true→listed.getD j false=true
theorem depB_mem{md:Region.Mode}{ops:Array Oper}{i j:Nat}{o:Oper}(ho:ops[i]?=some o)(h:depB md ops i j=true):∃e∈o.after,Region.binds md e=true∧e.on=j:=by
 unfold depB at h;rw[ho]at h;simp only[Array.any_eq_true']at h;obtain⟨e,he,hb⟩:=h;simp only[Bool.and_eq_true,beq_iff_eq]at hb;exact⟨e,he,hb⟩
theorem getD_set_true{listed:Array Bool}{i j:Nat}(h:listed.getD j false=true):(listed.setIfInBounds i true).getD j false=true:=by
 by_cases e:i=j
 ·subst e
  rcases Nat.lt_or_ge i listed.size with h' | h'
  ·simp[h']
  ·simp[Array.getElem?_eq_none h']at h
 ·rw[getD_set_ne false e];exact h
theorem Shuts.set{md:Region.Mode}{ops:Array Oper}{listed:Array Bool}(h:Shuts md ops listed){i:Nat}{o:Oper}(ho:ops[i]?=some o)(hall:∀e∈o.after,Region.binds md e=true→listed.getD e.on false=true):Shuts md ops (listed.setIfInBounds i true):=fun k j hd hk=>by
 by_cases e:i=k
 ·subst e
  obtain⟨e,he,hb,rfl⟩:=depB_mem ho hd;exact getD_set_true (hall e he hb)
 ·rw[getD_set_ne false e]at hk
  exact getD_set_true (h k j hd hk)
section
variable {P:Program} {md:Region.Mode} {ops:Array Oper} {Q:Exit→Act→World→Prop}
theorem wpAny_of_inv(hb:backB ops=true)(Inv:Array Bool→Act→World→Prop)
 (hstep:∀listed a w i o,Inv listed a w→Shuts md ops listed→listed.size=ops.size→ops[i]?=some o→listed.getD i true=false→(∀e∈o.after,Region.binds md e=true→listed.getD e.on false=true)→wpOp P ops Q i (Inv (listed.setIfInBounds i true)) a w)
 (hend:∀listed a w,Inv listed a w→(∀i,i<ops.size→listed.getD i true=true)→Q .normal a w):
 ∀(fuel:Nat) (listed:Array Bool) (a:Act) (w:World),listed.size=ops.size→listed.toList.count false≤fuel→Shuts md ops listed→Inv listed a w→wpAny P md ops Q fuel listed a w:=by
 have hdone:∀listed a w,Inv listed a w→Region.ready md ops listed= []→Q .normal a w:=fun listed a w hI h0=>hend listed a w hI fun i hi=>by
  cases hd:listed.getD i true with
  | true=>rfl
  | false=>exact absurd h0 (ready_of hb i hi hd)
 intro fuel
 induction fuel with
 | zero=>
  intro listed a w hs hc hcl hI;have h0:Region.ready md ops listed= []:=by
   cases hr:Region.ready md ops listed with
   | nil=>rfl
   | cons i l=>
    have hi:=(mem_ready.1 (by rw[hr];simp:i∈Region.ready md ops listed)).1;have hlt:i<listed.size:=by
     rcases Nat.lt_or_ge i listed.size with h' | h'
     ·exact h'
     ·simp[Array.getElem?_eq_none h']at hi
    have h2:false∈listed.toList:=by
     simp[hlt]at hi;rw[←hi];simp
    have h3:=List.count_pos_iff.2 h2;omega
  exact⟨h0,hdone _ _ _ hI h0⟩
 | succ fuel ih=>
  intro listed a w hs hc hcl hI;refine⟨hdone _ _ _ hI,fun i hi=> ?_⟩;obtain⟨hl,o,ho,hall⟩:=mem_ready.1 hi;refine wpOp_mono (fun a' w' hI'=>ih _ _ _ (by simpa using hs) ?_ (hcl.set ho hall) hI') (hstep listed a w i o hI hcl hs ho hl hall);have hlt:i<listed.size:=by
   rcases Nat.lt_or_ge i listed.size with h' | h'
   ·exact h'
   ·simp[Array.getElem?_eq_none h']at hl
  have hv:listed.toList[i]'(by simpa using hlt)=false:=by simpa [hlt]using hl
  have h2:false∈listed.toList:=by rw[←hv];exact List.getElem_mem _
  have h3:=List.count_pos_iff.2 h2;rw[Array.toList_setIfInBounds,List.count_set (by simpa using hlt),hv];rw[if_pos (by rfl),if_neg (by decide)];omega
end
end Go.Proofs.YtchfcgilpjkmhaaGreatDoor
