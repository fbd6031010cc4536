import Derived.StillTailTactics
import Derived.DeepKeys4
import Derived.WideKeyEntry
import Derived.RegionTactic
import Derived.ChangeAlike
import Derived.Test.YtmdgooofdmpcjaaGreatDoorY13
import Derived.Test.YtmdgooofdmpcjaaGreatDoorY7
import Derived.Test.YtmdgooofdmpcjaaGreatDoorY10
import Derived.Test.YtmdgooofdmpcjaaGreatDoorY1
import Derived.Test.YtmdgooofdmpcjaaGreatDoorY0
set_option maxRecDepth 100000
set_option maxHeartbeats 8000000
set_option linter.unusedSimpArgs false
set_option linter.unusedVariables false
set_option linter.unusedSectionVars false
open Go.Proofs.Tryz renaming prog → pG
namespace Go.Proofs.YtmdgooofdmpcjaaGreatDoor
section
open Go.ChangeShapes Go.WideShapes Go.ChangeAt Go.RowKit
attribute [local go_sem] Oper.semAt_some
def tmP(p:aC)(x:cT):Bool:=(x.pe.tmod p.pe==0)&&(x.pe==0||decide (x.li≤x.pe))
theorem Xl(p:aC)(x:cT)(Bp:Nat)(w:World)(hr:x.rd w w.heap.size)(Ea:ah w Bp 71 #[.string p.nm,.int .i64 p.pe,.int .i64 p.le,.int .i64 p.mem,.slice p.aG.a p.aG.l.length p.aG.c,.int .i64 p.ev,.int .i64 p.bo,.slice p.aX.a p.aX.l.length p.aX.c,.slice p.aq.a p.aq.l.length p.aq.c,.slice p.procs.a p.procs.l.length p.procs.c])(hp:¬p.pe=0):CU 82 #[x.val,.pointer (some ⟨Bp,0,none⟩)] w (.bool (tmP p x)):=by
 obtain⟨y0,dV,aV,Hf,jH,qU,kk⟩:=gJ w 76 #[.string x.nm,.int .i64 x.pr,.int .i64 x.pe,.int .i64 x.li,.slice x.code.a x.code.l.length x.code.c];obtain⟨k0,k1,k2,k3,k4⟩:=cT.kl kk;have Kx:=xX dV aV Ea;have lZ:=(Ea.alloc (.cells #[.string x.nm,.int .i64 x.pr,.int .i64 x.pe,.int .i64 x.li,.slice x.code.a x.code.l.length x.code.c] 76)).cell 0;have aRX:=(Ea.alloc (.cells #[.string x.nm,.int .i64 x.pr,.int .i64 x.pe,.int .i64 x.li,.slice x.code.a x.code.l.length x.code.c] 76)).cell 1;have aRY:=(Ea.alloc (.cells #[.string x.nm,.int .i64 x.pr,.int .i64 x.pe,.int .i64 x.li,.slice x.code.a x.code.l.length x.code.c] 76)).cell 2;have aRZ:=(Ea.alloc (.cells #[.string x.nm,.int .i64 x.pr,.int .i64 x.pe,.int .i64 x.li,.slice x.code.a x.code.l.length x.code.c] 76)).cell 3;have aRa:=(Ea.alloc (.cells #[.string x.nm,.int .i64 x.pr,.int .i64 x.pe,.int .i64 x.li,.slice x.code.a x.code.l.length x.code.c] 76)).cell 4;have aRb:=(Ea.alloc (.cells #[.string x.nm,.int .i64 x.pr,.int .i64 x.pe,.int .i64 x.li,.slice x.code.a x.code.l.length x.code.c] 76)).cell 5;have aRc:=(Ea.alloc (.cells #[.string x.nm,.int .i64 x.pr,.int .i64 x.pe,.int .i64 x.li,.slice x.code.a x.code.l.length x.code.c] 76)).cell 6;have aRd:=(Ea.alloc (.cells #[.string x.nm,.int .i64 x.pr,.int .i64 x.pe,.int .i64 x.li,.slice x.code.a x.code.l.length x.code.c] 76)).cell 7;have aRe:=(Ea.alloc (.cells #[.string x.nm,.int .i64 x.pr,.int .i64 x.pe,.int .i64 x.li,.slice x.code.a x.code.l.length x.code.c] 76)).cell 8;have aRf:=(Ea.alloc (.cells #[.string x.nm,.int .i64 x.pr,.int .i64 x.pe,.int .i64 x.li,.slice x.code.a x.code.l.length x.code.c] 76)).cell 9;have aNx:=Ea.lt;have HF:=lz (show tmP p x=((x.pe.tmod p.pe==0)&&(x.pe==0||decide (x.li≤x.pe)))from rfl);have HR:=lz hr;clear kk hr Ea;go_enter Tryz.func82,Tryz.ntmps82
 cases a1:(x.pe.tmod p.pe==0)with
 | false=>
  rw[a1]at HF;exact e0
 | true=>
  rw[a1]at HF
  cases a2:(x.pe==0)with
  | false=>
   rw[a2]at HF
   cases a3:decide (x.li≤x.pe)with
   | false=>
    rw[a3]at HF;exact e0
   | true=>
    rw[a3]at HF;exact e0
  | true=>
   rw[a2]at HF;exact e0
def qG{α:Type}(p:α→Bool)(T:List α)(b:Bool):Prop:=T.all p=b
def Bw(y:WM):Bool:=(y.1.fr.tmod y.2.pe==0)&&(decide (y.2.le≤y.2.pe)&&y.2.procs.l.all (tmP y.2))
def KG(x:ay):Bool:=(fE x).all Bw
theorem KH{x:ay}{w:World}{B:Nat}(h:x.rd w B){y:WM}(hy:y∈fE x):y.1.rd w B∧y.2.rd w B:=by
 unfold fE at hy;obtain⟨m,hm,hy⟩:=List.mem_flatMap.1 hy;obtain⟨p,hp,rfl⟩:=List.mem_map.1 hy;obtain⟨i,hi,rfl⟩:=List.mem_iff_getElem.1 hm;obtain⟨b,o,_,_,hc⟩:=h.mods oz;have Gg:=(hc i hi).2.2.2.2;obtain⟨j,hj,rfl⟩:=List.mem_iff_getElem.1 hp;obtain⟨b2,o2,_,_,qc⟩:=Gg.parts oz;exact⟨Gg,(qc j hj).2.2.2.2.2.2.2.2.2.2⟩
theorem yd{α:Type}(p:α→Bool)(l:List α)(x:α):(l++ [x]).all p=(l.all p&&p x):=by simp
theorem pW{α:Type}{p:α→Bool}{l k:List α}(h:l <+: k)(hn:l.all p=false):k.all p=false:=by
 obtain⟨t,rfl⟩:=h;rw[List.all_append,hn];rfl
theorem CW{α:Type}{l k:List α}{x:α}(h:l++ [x] <+: k):x∈k:=h.subset qz
theorem aBf(x:ay)(g:Nat)(w:World)(h:tU w g x)(hr:x.rd w w.heap.size)(hpe:∀y∈fE x,¬y.2.pe=0):CU 25 #[.pointer (some ⟨g,0,none⟩)] w (.bool (KG x)):=by
 obtain⟨w1,cN⟩:=ez ((w.alloc (.cells #[.bool false] 4)).alloc (.cells #[.pointer (some ⟨g,0,none⟩)] 92));have aU:Below w.heap.size w w1:=by rw[cN];exact(bN).alloc qz _
 have jy:ah w1 w.heap.size 4 #[.bool false]:=by rw[cN];exact(ah.new w _ _).alloc _
 have gP:ah w1 (w.heap.size+1) 92 #[.pointer (some ⟨g,0,none⟩)]:=by rw[cN];have:=ah.new (w.alloc (.cells #[.bool false] 4)) 92 #[.pointer (some ⟨g,0,none⟩)];rwa[World.size_alloc]at this
 have hz:w1.heap.size=w.heap.size+2:=by rw[cN];simp
 have gH:D6 w1 g (w.heap.size+1) w.heap.size x:=⟨gP,h.below aU,hr.dn nL (cZ aU),oz⟩;have IK:x.mods.l.length≤9223372036854775807:=nT hr.AU (nT hr.AV dz);have um:=lz (CQ x g (w.heap.size+1) w.heap.size (fun _=>False) w1 (fun _ h=>h.elim) (fun _ h=>h.elim) gH IK);have wu:=ah.lt h;have Mk:=lz gH;have lH:=lz cN;have gh:=lz aU;have rT:=lz jy;have Hz:=lz hz;have Hpe:=lz hpe;clear h hr cN aU jy gP hz gH hpe;refine(callsIn_wide (n:=9)).1 ?_;refine callsIn_of_wp_marks Tryz.func25 rfl trivial ?_ rfl;simp only[Tryz.ntmps25,List.size_toArray,List.length_cons,List.length_nil,Nat.reduceAdd,Nat.reduceSub,Array.replicate_succ,Array.replicate_zero,List.push_toArray,List.append_toArray,List.nil_append,List.cons_append];refine wpIn_wide.2 ?_;go_wp2_with (go_at_call 70;refine(CX _ _).mono ?_;rintro e w' ⟨rfl,hw'⟩);rw[←lH.out];clear hw';refine(wpIn_wide (n:=9)).1 ?_;have hz1:w.heap.size+2≤w1.heap.size:=Nat.le_of_eq Hz.out.symm;have Xm:w1.heap.size≤w.heap.size+2:=Nat.le_of_eq Hz.out;refine tQ (gf:=151) (lb:= #[.pointer (some ⟨w.heap.size+1,0,none⟩)]) (encs:=II) (xs:=fE x) (X:=fun _=>False) (XE:=fun k=>k=w.heap.size) rfl (enters_of Tryz.func151 kz rfl) (fun _=>rfl) (fun _ h=>h.elim) (fun k e=>by omega) um.out
  (fun T W=>Below w1.heap.size w1 W∧qG Bw T true)
  (fun T W=>ah W w.heap.size 4 #[.bool false]∧Below w.heap.size w W∧qG Bw T false) ?hI ?RU ?TG
  (fun y a' W=>∃m p Bm Bp,y=(m,p)∧w1.heap.size≤Bm∧w1.heap.size≤Bp∧ah W Bm 67 #[.string m.nm,.int .i64 m.mem,.int .i64 m.fr,.slice m.parts.a m.parts.l.length m.parts.c]∧ah W Bp 71 #[.string p.nm,.int .i64 p.pe,.int .i64 p.le,.int .i64 p.mem,.slice p.aG.a p.aG.l.length p.aG.c,.int .i64 p.ev,.int .i64 p.bo,.slice p.aX.a p.aX.l.length p.aX.c,.slice p.aq.a p.aq.l.length p.aq.c,.slice p.procs.a p.procs.l.length p.procs.c]∧a'={tmps:= #[.pointer (some ⟨g,0,none⟩),undef,.pointer (some ⟨w.heap.size,0,none⟩),.pointer (some ⟨Bm,0,none⟩),.pointer (some ⟨Bp,0,none⟩),undef,.pointer (some ⟨g,0,none⟩),.func (.func 151) #[] #[.pointer (some ⟨w.heap.size+1,0,none⟩)],m.val,p.val,undef,undef,undef,undef,undef,undef,undef,undef,undef,undef,undef,undef,undef,undef,undef,undef,undef,undef,undef,undef,undef],defers:= []}) ?Kf ?assign ?body ?done ?ret
 case hI=>exact fun T W W' h hb=>⟨h.1.trans hb,h.2⟩
 case RU=>exact fun T W W' h hb=>⟨ah.below h.1 hb oz,h.2.1.trans (hb.mono oz),h.2.2⟩
 case TG=>exact⟨Below.refl _ _,rfl⟩
 case Kf=>
  rintro y l a' W o o' hl ho hc ⟨m,p,Bm,Bp,e,h1,h2,h3,h4,h5⟩;exact⟨m,p,Bm,Bp,e,h1,h2,mW h3 ho hc,mW h4 ho hc,h5⟩
 case assign=>
  rintro l T ⟨m,p⟩ W K hT hsz hK;gi_wp2;refine hK _ _ ((bN).alloc qz _) ⟨m,p,_,_,rfl,?_,?_,(ah.new W _ _).alloc _,?_,rfl⟩
  ·omega
  ·first | omega | (simp;omega)
  ·have:=ah.new (W.alloc (.cells #[.string m.nm,.int .i64 m.mem,.int .i64 m.fr,.slice m.parts.a m.parts.l.length m.parts.c] 67)) 71 #[.string p.nm,.int .i64 p.pe,.int .i64 p.le,.int .i64 p.mem,.slice p.aG.a p.aG.l.length p.aG.c,.int .i64 p.ev,.int .i64 p.bo,.slice p.aX.a p.aX.l.length p.aX.c,.slice p.aq.a p.aq.l.length p.aq.c,.slice p.procs.a p.procs.l.length p.procs.c]
   rwa[World.size_alloc]at this
 case body=>
  rintro l T y a' W hT hsz hG ⟨wV,aJ⟩ ⟨m,p,Bm,Bp,rfl,h1,h2,CY,kg,rfl⟩;have iU:=CW hT;have hp0:¬p.pe=0:=Hpe.out _ iU;have fK:=(KH ((Mk.out.gr (X:=fun _=>False) (fun _ h=>h.elim) hG).r) iU).2;have CP:=(Mk.out.gr (X:=fun _=>False) (fun _ h=>h.elim) hG).B;have fK:p.rd W W.heap.size:=fK.more CP;have m2:=CY.cell 2;have p1:=kg.cell 1;have p2:=kg.cell 2;have p9:=kg.cell 9;have hlm:=CY.lt;have Vx:=kg.lt;have iY:=rT.out.below wV oz;have r0:=iY.cell 0;have f0:=iY.frozen 0;have au:=Iy 82 #[.pointer (some ⟨Bp,0,none⟩)] (tmP p) (enters_of Tryz.func82 kz rfl) p.procs.l p.procs.a p.procs.c W (fun W' r hx hW' aE7=>by simpa using Xl p r Bp W' aE7 (kg.below hW' kg.lt) hp0) fK.procs (nT fK.zG (nT fK.zH dz));have Qm:∀b,Bw (m,p)=b→qG Bw (T++ [(m,p)]) b:=fun b hb=>by unfold qG at *;rw[yd,aJ,hb];rfl
  have Pa:Bw (m,p)=((m.fr.tmod p.pe==0)&&(decide (p.le≤p.pe)&&p.procs.l.all (tmP p))):=rfl;obtain⟨q,hq⟩:=ez (p.procs.l.all (tmP p));rw[←hq]at au Pa;have yg:∀W2,Below W.heap.size W W2→Bw (m,p)=false→(Gr (fun k=>k=w.heap.size) W (W2.setCell ⟨w.heap.size,0,none⟩ (.bool false))∧ah (W2.setCell ⟨w.heap.size,0,none⟩ (.bool false)) w.heap.size 4 #[.bool false]∧Below w.heap.size w (W2.setCell ⟨w.heap.size,0,none⟩ (.bool false))∧qG Bw (T++ [(m,p)]) false)∧W2.cell? ⟨w.heap.size,0,none⟩=some (.bool false)∧W2.frozen? ⟨w.heap.size,0,none⟩=false:=fun W2 h2 hb=>
   ⟨⟨(Gr.ak h2).trans (Gr.setCell W2 ⟨w.heap.size,0,none⟩ _ rfl),by simpa using(iY.below h2 iY.lt).bX 0 (.bool false),(gh.out.trans ((wV.trans (h2.mono wV.size)).mono gh.out.size)).setCell (p:=⟨w.heap.size,0,none⟩) nL _,Qm _ hb⟩,(iY.below h2 iY.lt).cell 0,(iY.below h2 iY.lt).frozen 0⟩
  have aN:=lz au;have Xn:=lz Pa;have KI:=lz Qm;have ox:=lz yg;have Hbw:=lz wV;have aUk:=lz iY;clear au Pa hq Qm yg wV iY fK iU CY kg hG aJ hT
  cases t1:(m.fr.tmod p.pe==0)with
  | false=>
   have mz:=lz (ox.out W (Below.refl _ _) (by rw[Xn.out,t1];rfl)).1;have e1:¬m.fr.tmod p.pe=0:=by simpa using t1
   clear t1;gi_wp2;refine⟨trivial,?_⟩;gi_wp2;exact mz.out
  | true=>
   have e1:m.fr.tmod p.pe=0:=by simpa using t1
   have t1:=lz t1
   cases t2:decide (p.le≤p.pe)with
   | false=>
    have mz:=lz (ox.out W (Below.refl _ _) (by rw[Xn.out,t1.out,t2];rfl)).1;have t3:p.pe<p.le:=by have:=of_decide_eq_false t2;omega
    have t4:decide (p.pe<p.le)=true:=dT t3;clear t2;gi_wp2;refine⟨trivial,?_⟩;gi_wp2;exact mz.out
   | true=>
    have t3:¬p.pe<p.le:=by have:=of_decide_eq_true t2;omega
    have t4:decide (p.pe<p.le)=false:=dF t3;have T2:=lz t2;clear t2;gi_wp2;refine jS aN.out ?_;rintro e W2 ⟨rfl,dI⟩;have eF:=lz dI;clear r0 f0 m2 p1 p2 p9 dI
    cases q with
    | false=>
     have mz:=ox.out W2 eF.out (by rw[Xn.out,t1.out,T2.out];rfl);have r0:=mz.2.1;have f0:=mz.2.2;have vN:=lz mz.1;clear mz;gi_wp2;exact vN.out
    | true=>
     gi_wp2;exact⟨Gr.ak eF.out,Hbw.out.trans (eF.out.mono Hbw.out.size),KI.out _ (by rw[Xn.out,t1.out,T2.out];rfl)⟩
 case done=>
  rintro D W hD hs ⟨hW,aJ⟩ hk;have HF:=lz (show KG x=true from aJ);have KJ:D<W.heap.size:=(gE hk).1;have d0:=(rT.out.below hW oz).cell 0;have f0:W.frozen? ⟨w.heap.size,0,none⟩=false:=(rT.out.below hW oz).frozen 0;have sA:=lz (rT.out.below hW oz);have HB:=lz (gh.out.trans (hW.mono gh.out.size));have Hk:=lz hk;clear hW hk aJ;go_wp2_with fail;have hz0:ah (W.setCell ⟨w.heap.size,0,none⟩ (.bool true)) w.heap.size 4 #[.bool true]:=by simpa using sA.out.bX 0 (.bool true)
  have Hz0:=lz hz0;clear hz0;refine bP [D] (W.setCell ⟨w.heap.size,0,none⟩ (.bool true)) (w.heap.size+1) qz (fun E hE=>by simp at hE;subst hE;exact⟨oz,(Below.heap_setCell W ⟨w.heap.size,0,none⟩ _ E qo).trans Hk.out⟩) fun W' j5=> ?_
  have z0:=(Hz0.out.below j5.below oz).cell 0;exact⟨.bool true,by simp[results,Tryz.f25,go_sem,z0],by rw[HF.out],(HB.out.setCell (p:=⟨w.heap.size,0,none⟩) nL _).trans (j5.below.mono oz)⟩
 case ret=>
  rintro D T W3 hD hs hT ⟨h1,h2,h3⟩ hk;have HF:=lz (show KG x=false from pW hT h3);have KJ:D<W3.heap.size:=(gE hk).1;refine bP [D] W3 D qz (fun E hE=>by simp at hE;subst hE;exact⟨nL,hk⟩) fun W' j5=> ?_
  have z0:=(ah.below h1 j5.below oz).cell 0;exact⟨.bool false,by simp[results,Tryz.f25,go_sem,z0],by rw[HF.out],h2.trans (j5.below.mono oz)⟩
theorem vO{F:Fence}{n:Nat}{P:Program}{fn:Func}{tmps:Array Value}{R:Ending→World→Prop}(D r0 base:Nat)(b b0:Bool)(w W:World)(hr:ah W r0 4 #[.bool b0])(hk:W.heap[D]?=some (.deferred (some [])))(hDr:r0<D)(hB:Below base w W)(I8:base≤r0)
 (aAd:∀W',W'.cell? ⟨r0,0,none⟩=some (.bool b)→(results fn tmps).run P W'= .ok (.bool b) W') (hR:∀W',Below base w W'→R (.returned (.bool b)) W'):LeavesInM F n P fn tmps R ([D].map sM) .returning (W.setCell ⟨r0,0,none⟩ (.bool b)):=by
 have KJ:D<W.heap.size:=(gE hk).1;have hz0:ah (W.setCell ⟨r0,0,none⟩ (.bool b)) r0 4 #[.bool b]:=by simpa using hr.bX 0 (.bool b)
 refine bP [D] (W.setCell ⟨r0,0,none⟩ (.bool b)) (r0+1) qz (fun E hE=>by simp at hE;subst hE;exact⟨oz,(Below.heap_setCell W ⟨r0,0,none⟩ _ E qo).trans hk⟩) fun W' j5=> ?_
 have z0:=(hz0.below j5.below oz).cell 0;exact⟨.bool b,aAd W' z0,hR W' ((hB.setCell (p:=⟨r0,0,none⟩) I8 _).trans (j5.below.mono oz))⟩
theorem KL(n:Nat)(l:List jI)(hn:n=l.length)(A:Option Addr)(c:Nat)(w:World)(h:jE w w.heap.size A l)(hl:l.length≤9223372036854775807):
 CU 64 #[.slice A n c,.func (.func 62) #[] #[]] w (.bool (l.all rC)):=by
 subst hn;exact aE8 62 #[] rC (enters_of Tryz.func62 kz rfl) l A c w (fun W r hx hW=>by simpa using WQ r W) h hl
def j6(x:fC):Bool:=([(x.n.n:Int),(x.x.n:Int)].all (dJ 0 8))&&(x.c.needs.all rC)
theorem Qn(x:fC)(Br:Nat)(w:World)(hr:x.rd w w.heap.size)(CP:ah w Br 142 #[.func (.func 62) #[] #[]]):CU 63 #[x.val,.pointer (some ⟨Br,0,none⟩)] w (.bool (j6 x)):=by
 obtain⟨y0,dV,aV,Hf,jH,qU,kk⟩:=gJ w 83 #[.string x.c.unit,.slice x.n.a x.n.n x.n.c,.slice x.x.a x.x.n x.x.c];obtain⟨k0,k1,k2⟩:=fC.kl kk;have aIw:=xX dV aV CP;have Sq:=(CP.alloc (.cells #[.string x.c.unit,.slice x.n.a x.n.n x.n.c,.slice x.x.a x.x.n x.x.c] 83)).cell 0;have aUl:=CP.lt;have HF:=lz (show j6 x=(([(x.n.n:Int),(x.x.n:Int)].all (dJ 0 8))&&(x.c.needs.all rC))from rfl);have HR:=lz hr;clear kk hr CP;go_enter Tryz.func63,Tryz.ntmps63;go_wp2_with fail;rw[←dV.out];have hc:=lz (AY 0 8 (x.n.n:Int) (x.x.n:Int) y0);generalize ([(x.n.n:Int),(x.x.n:Int)].all (dJ 0 8))=q1 at hc HF;rw[←qU.out];refine bZ hc jH fun y1 fI=> ?_
 clear hc;clear k0 k1 k2 Sq;obtain⟨k0,k1,k2⟩:=fC.kl (Hf.out _ fI.out);have Sq:=(aIw.out _ fI.out).cell 0
 cases q1 with
 | false=>exact e1
 | true=>
  go_wp2_with fail;have hc:=lz (KL x.n.n x.c.needs HR.out.nl x.n.a x.n.c y1 (HR.out.below (bt aV fI)).n (by have h1:=HR.out.nl;have h2:=HR.out.nc;have h3:=HR.out.nm;unfold maxLen at h3;omega));generalize (x.c.needs.all rC)=q2 at hc HF;refine bZ hc fI fun y2 iF=> ?_
  clear hc;clear k0 k1 k2 Sq;obtain⟨k0,k1,k2⟩:=fC.kl (Hf.out _ iF.out);have Sq:=(aIw.out _ iF.out).cell 0;exact e2
def iL(y:dZ):Bool:= !decide ((y.dst.l.length:Int)>8)
def gU(x:ay):Bool:=(decide ((x.mods.l.length:Int)≤4))&&(decide ((x.aj.l.length:Int)≤16))&&(decide ((x.aF.l.length:Int)≤16))&&(decide ((x.aP.l.length:Int)≤8))&&(decide ((x.links.l.length:Int)≤32))&&([(x.bQ.l.length:Int),(x.causes.l.length:Int),(x.aA.l.length:Int)].all (dJ 0 32))
def iV(x:ay):Bool:=(gi x).all iL&&(gU x&&x.mods.l.all mZ&&x.aP.l.all vJ&&x.links.l.all ou&&x.causes.l.all j6)
theorem Xo(x:ay)(g:Nat)(w:World)(h:tU w g x)(hr:x.rd w w.heap.size):CU 23 #[.pointer (some ⟨g,0,none⟩)] w (.bool (iV x)):=by
 obtain⟨w1,cN⟩:=ez (((((((w.alloc (.cells #[.bool false] 4)).alloc (.cells #[.func (.func 52) #[] #[]] 133)).alloc (.cells #[.func (.func 54) #[] #[]] 134)).alloc (.cells #[.func (.func 55) #[] #[.pointer (some ⟨w.heap.size+1,0,none⟩),.pointer (some ⟨w.heap.size+1+1,0,none⟩)]] 137)).alloc (.cells #[.func (.func 62) #[] #[]] 142)).alloc (.cells #[.pointer (some ⟨g,0,none⟩)] 92)));have aU:Below w.heap.size w w1:=by rw[cN];exact((((((bN).alloc qz _).alloc qo _).alloc qo _).alloc qo _).alloc qo _)
 have jy:ah w1 (w.heap.size) 4 #[.bool false]:=by
  rw[cN];have:=ah.new w 4 #[.bool false];try simp only[World.size_alloc]at this
  exact(((((this).alloc _).alloc _).alloc _).alloc _).alloc _
 have Cr:ah w1 (w.heap.size+1) 133 #[.func (.func 52) #[] #[]]:=by
  rw[cN];have:=ah.new (w.alloc (.cells #[.bool false] 4)) 133 #[.func (.func 52) #[] #[]];try simp only[World.size_alloc]at this
  exact((((this).alloc _).alloc _).alloc _).alloc _
 have zO:ah w1 (w.heap.size+1+1) 134 #[.func (.func 54) #[] #[]]:=by
  rw[cN];have:=ah.new ((w.alloc (.cells #[.bool false] 4)).alloc (.cells #[.func (.func 52) #[] #[]] 133)) 134 #[.func (.func 54) #[] #[]];try simp only[World.size_alloc]at this
  exact(((this).alloc _).alloc _).alloc _
 have zo:ah w1 (w.heap.size+1+1+1) 137 #[.func (.func 55) #[] #[.pointer (some ⟨w.heap.size+1,0,none⟩),.pointer (some ⟨w.heap.size+1+1,0,none⟩)]]:=by
  rw[cN];have:=ah.new (((w.alloc (.cells #[.bool false] 4)).alloc (.cells #[.func (.func 52) #[] #[]] 133)).alloc (.cells #[.func (.func 54) #[] #[]] 134)) 137 #[.func (.func 55) #[] #[.pointer (some ⟨w.heap.size+1,0,none⟩),.pointer (some ⟨w.heap.size+1+1,0,none⟩)]];try simp only[World.size_alloc]at this
  exact((this).alloc _).alloc _
 have hp4:ah w1 (w.heap.size+1+1+1+1) 142 #[.func (.func 62) #[] #[]]:=by
  rw[cN];have:=ah.new ((((w.alloc (.cells #[.bool false] 4)).alloc (.cells #[.func (.func 52) #[] #[]] 133)).alloc (.cells #[.func (.func 54) #[] #[]] 134)).alloc (.cells #[.func (.func 55) #[] #[.pointer (some ⟨w.heap.size+1,0,none⟩),.pointer (some ⟨w.heap.size+1+1,0,none⟩)]] 137)) 142 #[.func (.func 62) #[] #[]];try simp only[World.size_alloc]at this
  exact(this).alloc _
 have gP:ah w1 (w.heap.size+1+1+1+1+1) 92 #[.pointer (some ⟨g,0,none⟩)]:=by
  rw[cN];have:=ah.new (((((w.alloc (.cells #[.bool false] 4)).alloc (.cells #[.func (.func 52) #[] #[]] 133)).alloc (.cells #[.func (.func 54) #[] #[]] 134)).alloc (.cells #[.func (.func 55) #[] #[.pointer (some ⟨w.heap.size+1,0,none⟩),.pointer (some ⟨w.heap.size+1+1,0,none⟩)]] 137)).alloc (.cells #[.func (.func 62) #[] #[]] 142)) 92 #[.pointer (some ⟨g,0,none⟩)];try simp only[World.size_alloc]at this
  exact this
 have hz:w1.heap.size=w.heap.size+6:=by rw[cN];simp
 have gH:D6 w1 g (w.heap.size+1+1+1+1+1) w.heap.size x:=⟨gP,h.below aU,hr.dn nL (cZ aU),oz⟩;have um:=lz (WI x g (w.heap.size+1+1+1+1+1) w.heap.size (fun _=>False) w1 (fun _ h=>h.elim) gH (nT hr.DZ (nT hr.D1 dz)) (nT hr.T9 (nT hr.Ua dz)));have wu:=ah.lt h;have Mk:=lz gH;have lH:=lz cN;have gh:=lz aU;have rT:=lz jy;have Hp1:=lz Cr;have Hp2:=lz zO;have Hp3:=lz zo;have Hp4:=lz hp4;have Hz:=lz hz;clear h hr cN aU jy gP hz gH Cr zO zo hp4;refine(callsIn_wide (n:=9)).1 ?_;refine callsIn_of_wp_marks Tryz.func23 rfl trivial ?_ rfl;simp only[Tryz.ntmps23,List.size_toArray,List.length_cons,List.length_nil,Nat.reduceAdd,Nat.reduceSub,Array.replicate_succ,Array.replicate_zero,List.push_toArray,List.append_toArray,List.nil_append,List.cons_append];refine wpIn_wide.2 ?_;go_wp2_with (go_at_call 65;refine(Sr _ _).mono ?_;rintro e w' ⟨rfl,hw'⟩);rw[←lH.out];clear hw';refine(wpIn_wide (n:=9)).1 ?_;have hz1:w.heap.size+6≤w1.heap.size:=Nat.le_of_eq Hz.out.symm;have Xm:w1.heap.size≤w.heap.size+6:=Nat.le_of_eq Hz.out;refine tQ (gf:=143) (lb:= #[.pointer (some ⟨w.heap.size+1+1+1+1+1,0,none⟩)]) (encs:=dZ.enc) (xs:=gi x) (X:=fun _=>False) (XE:=fun k=>k=w.heap.size) rfl (enters_of Tryz.func143 kz rfl) (fun _=>rfl) (fun _ h=>h.elim) (fun k e=>by omega) um.out
  (fun T W=>Below w1.heap.size w1 W∧qG iL T true)
  (fun T W=>ah W w.heap.size 4 #[.bool false]∧Below w.heap.size w W∧qG iL T false) ?hI ?RU ?TG
  (fun y a' W=>∃Bc,w1.heap.size≤Bc∧ah W Bc 149 #[.string y.src.m,.string y.src.p,.string y.src.o,.slice y.dst.a y.dst.l.length y.dst.c,.bool y.vl]∧a'={tmps:= #[.pointer (some ⟨g,0,none⟩),undef,.pointer (some ⟨w.heap.size,0,none⟩),.pointer (some ⟨w.heap.size+1,0,none⟩),.pointer (some ⟨w.heap.size+1+1,0,none⟩),.pointer (some ⟨w.heap.size+1+1+1,0,none⟩),.func (.func 58) #[] #[.pointer (some ⟨w.heap.size+1+1+1,0,none⟩)],.func (.func 60) #[] #[],.func (.func 61) #[] #[],.pointer (some ⟨w.heap.size+1+1+1+1,0,none⟩),.func (.func 63) #[] #[.pointer (some ⟨w.heap.size+1+1+1+1,0,none⟩)],.pointer (some ⟨Bc,0,none⟩),undef,.func (.func 55) #[] #[.pointer (some ⟨w.heap.size+1,0,none⟩),.pointer (some ⟨w.heap.size+1+1,0,none⟩)],.func (.func 58) #[] #[.pointer (some ⟨w.heap.size+1+1+1,0,none⟩)],.func (.func 63) #[] #[.pointer (some ⟨w.heap.size+1+1+1+1,0,none⟩)],.pointer (some ⟨g,0,none⟩),.func (.func 143) #[] #[.pointer (some ⟨w.heap.size+1+1+1+1+1,0,none⟩)],y.val,undef,undef,undef,undef,undef,undef,undef,undef,undef,undef,undef,undef,undef,undef,undef,undef,undef,undef,undef,undef,undef,undef,undef,undef,undef,undef,undef,undef,undef,undef,undef,undef,undef,undef,undef,undef,undef,undef,undef,undef,undef,undef,undef,undef,undef,undef,undef,undef,undef,undef,undef,undef,undef,undef,undef,undef,undef,undef,undef,undef,undef,undef,undef,undef,undef,undef,undef,undef,undef,undef,undef,undef,undef,undef,undef,undef,undef,undef,undef,undef,undef,undef,undef,undef,undef,undef,undef,undef,undef,undef,undef,undef,undef,undef,undef,undef,undef,undef,undef,undef,undef,undef,undef,undef,undef,undef],defers:= []}) ?Kf ?assign ?body ?done ?ret
 case hI=>exact fun T W W' h hb=>⟨h.1.trans hb,h.2⟩
 case RU=>exact fun T W W' h hb=>⟨ah.below h.1 hb oz,h.2.1.trans (hb.mono oz),h.2.2⟩
 case TG=>exact⟨Below.refl _ _,rfl⟩
 case Kf=>
  rintro y l a' W o o' hl ho hc ⟨Bc,h1,h3,h5⟩;exact⟨Bc,h1,mW h3 ho hc,h5⟩
 case assign=>
  intro l T y W K hT hsz hK;gi_wp2;refine hK _ _ (bN) ⟨W.heap.size,oz,ah.new W _ _,rfl⟩
 case body=>
  rintro l T y a' W hT hsz hG ⟨wV,aJ⟩ ⟨Bc,h1,yh,rfl⟩;have p3:=yh.cell 3;have hlc:=yh.lt;have iY:=rT.out.below wV oz;have r0:=iY.cell 0;have f0:=iY.frozen 0;have Qm:∀b,iL y=b→qG iL (T++ [y]) b:=fun b hb=>by unfold qG at *;rw[yd,aJ,hb];rfl
  have yg:iL y=false→Gr (fun k=>k=w.heap.size) W (W.setCell ⟨w.heap.size,0,none⟩ (.bool false))∧ah (W.setCell ⟨w.heap.size,0,none⟩ (.bool false)) w.heap.size 4 #[.bool false]∧Below w.heap.size w (W.setCell ⟨w.heap.size,0,none⟩ (.bool false))∧qG iL (T++ [y]) false:=fun hb=>
   ⟨Gr.setCell W ⟨w.heap.size,0,none⟩ _ rfl,by simpa using iY.bX 0 (.bool false),(gh.out.trans (wV.mono gh.out.size)).setCell (p:=⟨w.heap.size,0,none⟩) nL _,Qm _ hb⟩
  have ox:=lz yg;have KI:=lz Qm;have Hbw:=lz wV;clear Qm yg wV iY yh hG aJ hT;by_cases t1:(y.dst.l.length:Int)>8
  ·have d1:decide ((y.dst.l.length:Int)>8)=true:=dT t1
   have d2:decide (8<y.dst.l.length)=true:=dT oz;have mz:=lz (ox.out (by unfold iL;rw[d1];rfl));clear t1;gi_wp2;exact mz.out
  ·have d1:decide ((y.dst.l.length:Int)>8)=false:=dF t1
   have d2:decide (8<y.dst.l.length)=false:=dF oz;have mz:=lz (KI.out _ (show iL y=true by unfold iL;rw[d1];rfl));clear t1;gi_wp2;exact⟨Gr.refl _ _,Hbw.out,mz.out⟩
 case done=>
  rintro D W hD hs ⟨hW,aJ⟩ hk;have HF:=lz (show iV x=(gU x&&x.mods.l.all mZ&&x.aP.l.all vJ&&x.links.l.all ou&&x.causes.l.all j6)by unfold iV;rw[show(gi x).all iL=true from aJ];rfl);have facts:∀W2,Below w1.heap.size w1 W2→tU W2 g x∧x.rd W2 W2.heap.size:=fun W2 h2=>⟨Mk.out.g.below h2,(Mk.out.r.more Mk.out.B).below h2⟩
  have I9:=lz facts;have hkD:∀W2,Below W.heap.size W W2→W2.heap[D]?=some (.deferred (some [])):=fun W2 h2=>(h2.block D (gE hk).1).trans hk
  have Qo:=lz hkD;have HW:=lz hW;have pF:=lz (fun W2 (h2:Below w1.heap.size w1 W2)=>rT.out.below h2 oz);have Uq:=(facts W hW).1;have aUm:g<W.heap.size:=ah.lt Uq;have k0:=Uq.cell 0;have k1:=Uq.cell 1;have k2:=Uq.cell 2;have k3:=Uq.cell 3;have k4:=Uq.cell 4;have k5:=Uq.cell 5;have k6:=Uq.cell 6;have k7:=Uq.cell 7;clear aJ facts hkD hk hW Uq
  cases a0:decide ((x.mods.l.length:Int)≤4)with
  | false=>
   have b0:decide (x.mods.l.length≤4)=false:=by have:=of_decide_eq_false a0;exact dF oz
   have HC:=lz (show gU x=false by unfold gU;rw[a0];simp);go_wp2_with fail;simp only[List.append_eq,List.cons_append,List.nil_append];have iR:=bn W;refine aB kz kz ?_;repeat (go_big_quiet_step (fail))
   refine wpQuiet_nil ?_;intro _ hw';obtain⟨xx,hw''⟩:=hw';subst hw'';have qB:=lz xx.h;have nO:=lz (HW.out.trans (xx.h.mono HW.out.size));clear iR k0 k1 k2 k3 k4 k5 k6 k7;generalize xx.w=W2 at *;have r0:W2.cell? ⟨w.heap.size,0,none⟩=some (.bool false):=(pF.out _ nO.out).cell 0;have f0:W2.frozen? ⟨w.heap.size,0,none⟩=false:=(pF.out _ nO.out).frozen 0;go_wp2_with fail;refine vO D w.heap.size w.heap.size false false w W2 ?_ ?_ oz ?_ nL (fun W' z0=>by simp[results,Tryz.f23,go_sem,z0]) (fun W' hB=>⟨by rw[HF.out,HC.out]<;>rfl,hB⟩)
   ·exact pF.out _ nO.out
   ·exact Qo.out _ qB.out
   ·exact gh.out.trans ((nO.out).mono gh.out.size)
  | true=>
   have b0:decide (x.mods.l.length≤4)=true:=by have:=of_decide_eq_true a0;exact dT oz
   cases a1:decide ((x.aj.l.length:Int)≤16)with
   | false=>
    have b1:decide (x.aj.l.length≤16)=false:=by have:=of_decide_eq_false a1;exact dF oz
    have HC:=lz (show gU x=false by unfold gU;rw[a1];simp);go_wp2_with fail;simp only[List.append_eq,List.cons_append,List.nil_append];have iR:=bn W;refine aB kz kz ?_;repeat (go_big_quiet_step (fail))
    refine wpQuiet_nil ?_;intro _ hw';obtain⟨xx,hw''⟩:=hw';subst hw'';have qB:=lz xx.h;have nO:=lz (HW.out.trans (xx.h.mono HW.out.size));clear iR k0 k1 k2 k3 k4 k5 k6 k7;generalize xx.w=W2 at *;have r0:W2.cell? ⟨w.heap.size,0,none⟩=some (.bool false):=(pF.out _ nO.out).cell 0;have f0:W2.frozen? ⟨w.heap.size,0,none⟩=false:=(pF.out _ nO.out).frozen 0;go_wp2_with fail;refine vO D w.heap.size w.heap.size false false w W2 ?_ ?_ oz ?_ nL (fun W' z0=>by simp[results,Tryz.f23,go_sem,z0]) (fun W' hB=>⟨by rw[HF.out,HC.out]<;>rfl,hB⟩)
    ·exact pF.out _ nO.out
    ·exact Qo.out _ qB.out
    ·exact gh.out.trans ((nO.out).mono gh.out.size)
   | true=>
    have b1:decide (x.aj.l.length≤16)=true:=by have:=of_decide_eq_true a1;exact dT oz
    cases a2:decide ((x.aF.l.length:Int)≤16)with
    | false=>
     have b2:decide (x.aF.l.length≤16)=false:=by have:=of_decide_eq_false a2;exact dF oz
     have HC:=lz (show gU x=false by unfold gU;rw[a2];simp);go_wp2_with fail;simp only[List.append_eq,List.cons_append,List.nil_append];have iR:=bn W;refine aB kz kz ?_;repeat (go_big_quiet_step (fail))
     refine wpQuiet_nil ?_;intro _ hw';obtain⟨xx,hw''⟩:=hw';subst hw'';have qB:=lz xx.h;have nO:=lz (HW.out.trans (xx.h.mono HW.out.size));clear iR k0 k1 k2 k3 k4 k5 k6 k7;generalize xx.w=W2 at *;have r0:W2.cell? ⟨w.heap.size,0,none⟩=some (.bool false):=(pF.out _ nO.out).cell 0;have f0:W2.frozen? ⟨w.heap.size,0,none⟩=false:=(pF.out _ nO.out).frozen 0;go_wp2_with fail;refine vO D w.heap.size w.heap.size false false w W2 ?_ ?_ oz ?_ nL (fun W' z0=>by simp[results,Tryz.f23,go_sem,z0]) (fun W' hB=>⟨by rw[HF.out,HC.out]<;>rfl,hB⟩)
     ·exact pF.out _ nO.out
     ·exact Qo.out _ qB.out
     ·exact gh.out.trans ((nO.out).mono gh.out.size)
    | true=>
     have b2:decide (x.aF.l.length≤16)=true:=by have:=of_decide_eq_true a2;exact dT oz
     cases a3:decide ((x.aP.l.length:Int)≤8)with
     | false=>
      have b3:decide (x.aP.l.length≤8)=false:=by have:=of_decide_eq_false a3;exact dF oz
      have HC:=lz (show gU x=false by unfold gU;rw[a3];simp);go_wp2_with fail;simp only[List.append_eq,List.cons_append,List.nil_append];have iR:=bn W;refine aB kz kz ?_;repeat (go_big_quiet_step (fail))
      refine wpQuiet_nil ?_;intro _ hw';obtain⟨xx,hw''⟩:=hw';subst hw'';have qB:=lz xx.h;have nO:=lz (HW.out.trans (xx.h.mono HW.out.size));clear iR k0 k1 k2 k3 k4 k5 k6 k7;generalize xx.w=W2 at *;have r0:W2.cell? ⟨w.heap.size,0,none⟩=some (.bool false):=(pF.out _ nO.out).cell 0;have f0:W2.frozen? ⟨w.heap.size,0,none⟩=false:=(pF.out _ nO.out).frozen 0;go_wp2_with fail;refine vO D w.heap.size w.heap.size false false w W2 ?_ ?_ oz ?_ nL (fun W' z0=>by simp[results,Tryz.f23,go_sem,z0]) (fun W' hB=>⟨by rw[HF.out,HC.out]<;>rfl,hB⟩)
      ·exact pF.out _ nO.out
      ·exact Qo.out _ qB.out
      ·exact gh.out.trans ((nO.out).mono gh.out.size)
     | true=>
      have b3:decide (x.aP.l.length≤8)=true:=by have:=of_decide_eq_true a3;exact dT oz
      cases a4:decide ((x.links.l.length:Int)≤32)with
      | false=>
       have b4:decide (x.links.l.length≤32)=false:=by have:=of_decide_eq_false a4;exact dF oz
       have HC:=lz (show gU x=false by unfold gU;rw[a4];simp);go_wp2_with fail;simp only[List.append_eq,List.cons_append,List.nil_append];have iR:=bn W;refine aB kz kz ?_;repeat (go_big_quiet_step (fail))
       refine wpQuiet_nil ?_;intro _ hw';obtain⟨xx,hw''⟩:=hw';subst hw'';have qB:=lz xx.h;have nO:=lz (HW.out.trans (xx.h.mono HW.out.size));clear iR k0 k1 k2 k3 k4 k5 k6 k7;generalize xx.w=W2 at *;have r0:W2.cell? ⟨w.heap.size,0,none⟩=some (.bool false):=(pF.out _ nO.out).cell 0;have f0:W2.frozen? ⟨w.heap.size,0,none⟩=false:=(pF.out _ nO.out).frozen 0;go_wp2_with fail;refine vO D w.heap.size w.heap.size false false w W2 ?_ ?_ oz ?_ nL (fun W' z0=>by simp[results,Tryz.f23,go_sem,z0]) (fun W' hB=>⟨by rw[HF.out,HC.out]<;>rfl,hB⟩)
       ·exact pF.out _ nO.out
       ·exact Qo.out _ qB.out
       ·exact gh.out.trans ((nO.out).mono gh.out.size)
      | true=>
       have b4:decide (x.links.l.length≤32)=true:=by have:=of_decide_eq_true a4;exact dT oz
       go_wp2_with fail;simp only[List.append_eq,List.cons_append,List.nil_append];go_still_tail 62,kz;change wpList _ _ _ _ _ W.drew;have hc:=Ns 0 32 (x.bQ.l.length:Int) (x.causes.l.length:Int) (x.aA.l.length:Int) W.drew;obtain⟨q,hq⟩:=ez ( [(x.bQ.l.length:Int),(x.causes.l.length:Int),(x.aA.l.length:Int)].all (dJ 0 32));rw[←hq]at hc;have HC:=lz (show gU x=q by unfold gU;rw[a0,a1,a2,a3,a4,←hq];simp);have Hc:=lz hc;clear hc hq;go_wp2_with fail;refine Hc.out.mono ?_;rintro e W2 ⟨rfl,dI⟩;have qB:=lz ((Below.refl W.heap.size W).drew.trans dI);have nO:=lz (HW.out.trans (qB.out.mono HW.out.size));clear k0 k1 k2 k3 k4 k5 k6 k7 dI Hc;have eG:=(I9.out _ nO.out).1;have k0:=eG.cell 0;have k1:=eG.cell 1;have k2:=eG.cell 2;have k3:=eG.cell 3;have k4:=eG.cell 4;have k5:=eG.cell 5;have k6:=eG.cell 6;have k7:=eG.cell 7;clear eG
       cases q with
       | false=>
        have r0:W2.cell? ⟨w.heap.size,0,none⟩=some (.bool false):=(pF.out _ nO.out).cell 0;have f0:W2.frozen? ⟨w.heap.size,0,none⟩=false:=(pF.out _ nO.out).frozen 0;go_wp2_with fail;refine vO D w.heap.size w.heap.size false false w W2 ?_ ?_ oz ?_ nL (fun W' z0=>by simp[results,Tryz.f23,go_sem,z0]) (fun W' hB=>⟨by rw[HF.out,HC.out]<;>rfl,hB⟩)
        ·exact pF.out _ nO.out
        ·exact Qo.out _ qB.out
        ·exact gh.out.trans ((nO.out).mono gh.out.size)
       | true=>
        have cU:=lz (fun W' (h:Below W2.heap.size W2 W')=>Hp1.out.below (nO.out.trans (h.mono nO.out.size)) Hp1.out.lt);have aIx:=lz (fun W' (h:Below W2.heap.size W2 W')=>Hp2.out.below (nO.out.trans (h.mono nO.out.size)) Hp2.out.lt);have mP:=lz (fun W' (h:Below W2.heap.size W2 W')=>Hp3.out.below (nO.out.trans (h.mono nO.out.size)) Hp3.out.lt);have Ct:=(I9.out _ nO.out).2;have hc:=AL 58 #[.pointer (some ⟨w.heap.size+1+1+1,0,none⟩)] mZ (enters_of Tryz.func58 kz rfl) x.mods.l x.mods.a x.mods.c W2 (fun W' r hx hW' fK=>by simpa using WR r (w.heap.size+1) (w.heap.size+1+1) (w.heap.size+1+1+1) W' fK (mP.out W' hW') (fun W'' h''=>cU.out W'' ((hW'.trans (h''.mono hW'.size)))) (fun W'' h''=>aIx.out W'' ((hW'.trans (h''.mono hW'.size))))) Ct.mods (nT Ct.AU (nT Ct.AV dz));obtain⟨p0,hp0⟩:∃q,q=x.mods.l.all mZ:=⟨_,rfl⟩;rw[←hp0]at hc HF;have Hc:=lz hc;clear hc hp0 Ct;go_wp2_with fail;refine Hc.out.mono ?_;rintro e W3 ⟨rfl,hb⟩;have Ja:=lz (qB.out.trans (hb.mono qB.out.size));have yY:=lz (nO.out.trans (hb.mono nO.out.size));clear k0 k1 k2 k3 k4 k5 k6 k7 hb Hc cU aIx mP;have eG:=(I9.out _ yY.out).1;have k0:=eG.cell 0;have k1:=eG.cell 1;have k2:=eG.cell 2;have k3:=eG.cell 3;have k4:=eG.cell 4;have k5:=eG.cell 5;have k6:=eG.cell 6;have k7:=eG.cell 7;clear eG
        cases p0 with
        | false=>
         have r0:W3.cell? ⟨w.heap.size,0,none⟩=some (.bool false):=(pF.out _ yY.out).cell 0;have f0:W3.frozen? ⟨w.heap.size,0,none⟩=false:=(pF.out _ yY.out).frozen 0;go_wp2_with fail;refine vO D w.heap.size w.heap.size false false w W3 ?_ ?_ oz ?_ nL (fun W' z0=>by simp[results,Tryz.f23,go_sem,z0]) (fun W' hB=>⟨by rw[HF.out,HC.out]<;>rfl,hB⟩)
         ·exact pF.out _ yY.out
         ·exact Qo.out _ Ja.out
         ·exact gh.out.trans ((yY.out).mono gh.out.size)
        | true=>
         have Ct:=(I9.out _ yY.out).2;have hc:=MR 60 #[] vJ (enters_of Tryz.func60 kz rfl) x.aP.l x.aP.a x.aP.c W3 (fun W' r hx hW'=>by simpa using aBP r W') Ct.aP (nT Ct.aBH (nT Ct.aBI dz));obtain⟨p1,Cr⟩:∃q,q=x.aP.l.all vJ:=⟨_,rfl⟩;rw[←Cr]at hc HF;have Hc:=lz hc;clear hc Cr Ct;go_wp2_with fail;refine Hc.out.mono ?_;rintro e W4 ⟨rfl,hb⟩;have HX4:=lz (Ja.out.trans (hb.mono Ja.out.size));have Qp:=lz (yY.out.trans (hb.mono yY.out.size));clear k0 k1 k2 k3 k4 k5 k6 k7 hb Hc;have eG:=(I9.out _ Qp.out).1;have k0:=eG.cell 0;have k1:=eG.cell 1;have k2:=eG.cell 2;have k3:=eG.cell 3;have k4:=eG.cell 4;have k5:=eG.cell 5;have k6:=eG.cell 6;have k7:=eG.cell 7;clear eG
         cases p1 with
         | false=>
          have r0:W4.cell? ⟨w.heap.size,0,none⟩=some (.bool false):=(pF.out _ Qp.out).cell 0;have f0:W4.frozen? ⟨w.heap.size,0,none⟩=false:=(pF.out _ Qp.out).frozen 0;go_wp2_with fail;refine vO D w.heap.size w.heap.size false false w W4 ?_ ?_ oz ?_ nL (fun W' z0=>by simp[results,Tryz.f23,go_sem,z0]) (fun W' hB=>⟨by rw[HF.out,HC.out]<;>rfl,hB⟩)
          ·exact pF.out _ Qp.out
          ·exact Qo.out _ HX4.out
          ·exact gh.out.trans ((Qp.out).mono gh.out.size)
         | true=>
          have Ct:=(I9.out _ Qp.out).2;have hc:=TB 61 #[] ou (enters_of Tryz.func61 kz rfl) x.links.l x.links.a x.links.c W4 (fun W' r hx hW'=>by simpa using Uf r W') Ct.links (nT Ct.D2 (nT Ct.D3 dz));obtain⟨p2,zO⟩:∃q,q=x.links.l.all ou:=⟨_,rfl⟩;rw[←zO]at hc HF;have Hc:=lz hc;clear hc zO Ct;go_wp2_with fail;refine Hc.out.mono ?_;rintro e W5 ⟨rfl,hb⟩;have Gm:=lz (HX4.out.trans (hb.mono HX4.out.size));have ND:=lz (Qp.out.trans (hb.mono Qp.out.size));clear k0 k1 k2 k3 k4 k5 k6 k7 hb Hc;have eG:=(I9.out _ ND.out).1;have k0:=eG.cell 0;have k1:=eG.cell 1;have k2:=eG.cell 2;have k3:=eG.cell 3;have k4:=eG.cell 4;have k5:=eG.cell 5;have k6:=eG.cell 6;have k7:=eG.cell 7;clear eG
          cases p2 with
          | false=>
           have r0:W5.cell? ⟨w.heap.size,0,none⟩=some (.bool false):=(pF.out _ ND.out).cell 0;have f0:W5.frozen? ⟨w.heap.size,0,none⟩=false:=(pF.out _ ND.out).frozen 0;go_wp2_with fail;refine vO D w.heap.size w.heap.size false false w W5 ?_ ?_ oz ?_ nL (fun W' z0=>by simp[results,Tryz.f23,go_sem,z0]) (fun W' hB=>⟨by rw[HF.out,HC.out]<;>rfl,hB⟩)
           ·exact pF.out _ ND.out
           ·exact Qo.out _ Gm.out
           ·exact gh.out.trans ((ND.out).mono gh.out.size)
          | true=>
           have pN:=lz (fun W' (h:Below W5.heap.size W5 W')=>Hp4.out.below (ND.out.trans (h.mono ND.out.size)) Hp4.out.lt);have Ct:=(I9.out _ ND.out).2;have hc:=aE9 63 #[.pointer (some ⟨w.heap.size+1+1+1+1,0,none⟩)] j6 (enters_of Tryz.func63 kz rfl) x.causes.l x.causes.a x.causes.c W5 (fun W' r hx hW' fK=>by simpa using Qn r (w.heap.size+1+1+1+1) W' fK (pN.out W' hW')) Ct.causes (nT Ct.CN (nT Ct.CO dz));obtain⟨p3,zo⟩:∃q,q=x.causes.l.all j6:=⟨_,rfl⟩;rw[←zo]at hc HF;have Hc:=lz hc;clear hc zo Ct;go_wp2_with fail;refine Hc.out.mono ?_;rintro e W6 ⟨rfl,hb⟩;have HX6:=lz (Gm.out.trans (hb.mono Gm.out.size));have RR:=lz (ND.out.trans (hb.mono ND.out.size));clear k0 k1 k2 k3 k4 k5 k6 k7 hb Hc pN;have r0:W6.cell? ⟨w.heap.size,0,none⟩=some (.bool false):=(pF.out _ RR.out).cell 0;have f0:W6.frozen? ⟨w.heap.size,0,none⟩=false:=(pF.out _ RR.out).frozen 0;go_wp2_with fail;refine vO D w.heap.size w.heap.size p3 false w W6 ?_ ?_ oz ?_ nL (fun W' z0=>by simp[results,Tryz.f23,go_sem,z0]) (fun W' hB=>⟨by rw[HF.out,HC.out]<;>rfl,hB⟩)
           ·exact pF.out _ RR.out
           ·exact Qo.out _ HX6.out
           ·exact gh.out.trans ((RR.out).mono gh.out.size)
 case ret=>
  rintro D T W3 hD hs hT ⟨h1,h2,h3⟩ hk;have HF:=lz (show iV x=false by unfold iV;rw[pW hT h3];rfl);have KJ:D<W3.heap.size:=(gE hk).1;refine bP [D] W3 D qz (fun E hE=>by simp at hE;subst hE;exact⟨nL,hk⟩) fun W' j5=> ?_
  have z0:=(ah.below h1 j5.below oz).cell 0;exact⟨.bool false,by simp[results,Tryz.f23,go_sem,z0],by rw[HF.out],h2.trans (j5.below.mono oz)⟩
end
section
open Go.ChangeShapes Go.WideShapes Go.ChangeAt Go.RowKit Go.Deep
structure kY where
 node:Int
 net:Int
 deriving DecidableEq
abbrev kY.kv(r:kY):Value:= .agg #[.int .i64 r.node,.int .i64 r.net]
def kY.ok(r:kY):Prop:=(Lit.int .i64 r.node).wf=true∧(Lit.int .i64 r.net).wf=true
theorem vP:pG.cellsOf 174=2:=by kernel_rfl
theorem Xp:pG.keyTypeAt (pG.types.size+1) 174=true:=by kernel_rfl
theorem aOG:(174:TypeId)<pG.types.size:=of_decide_eq_true kz
theorem aIy:(match pG.underlying 174 with | some (.array _ _) | some (.struct _)=>true | _=>false)=true:=by kernel_rfl
theorem aIz:WideMaps.KeyLaw pG 174:=deep_law_laid laid (m:=2) oz aOG kz aIy
theorem aI0(d:Nat)(r:kY)(h:r.ok):pG.keyLits (d+2) 174 [.int .i64 r.node,.int .i64 r.net]=some [.int .i64 r.node,.int .i64 r.net]:=by
 have h0:=h.1;have h1:=h.2;simp[Program.keyLits,Tryz.underlying174,Tryz.underlying3,Dp,vP,h0,h1]
theorem aOH(r:kY)(h:r.ok):keyOf pG 174 r.kv=some (.string (keyBytes [.int .i64 r.node,.int .i64 r.net])):=by
 have hk:pG.keyType 174=true:=Xp;unfold keyOf;simp[Tryz.underlying174,hk,Value.formed,vP,Value.cells,aI0 411 r h]
theorem Xq(e:Nat)(a b:Value)(ls:List Lit)(h:pG.keyLits (e+1) 174 [a,b]=some ls):∃x:kY,a= .int .i64 x.node∧b= .int .i64 x.net:=by
 unfold Program.keyLits at h;simp only[Tryz.underlying174]at h
 cases hx0:pG.keyLits e 3 [a]with
 | none=>simp[Tryz.underlying3,Dp,vP,hx0]at h
 | some z0=>
  cases Dg:pG.keyLits e 3 [b]with
  | none=>simp[Tryz.underlying3,Dp,vP,Dg,hx0]at h
  | some z1=>
   obtain⟨s0,hs0,e0⟩:=keyLits_int' Tryz.underlying3 hx0;obtain⟨s1,hs1,e1⟩:=keyLits_int' Tryz.underlying3 Dg;simp at hs0;simp at hs1;exact⟨⟨s0,s1⟩,hs0,hs1⟩
theorem aFA(d:Nat)(x:kY)(ls:List Lit)(h:pG.keyLits (d+2) 174 [.int .i64 x.node,.int .i64 x.net]=some ls):x.ok:=by
 by_cases h0:(Lit.int .i64 x.node).wf=true;rotate_left
 ·exact absurd h (by simp[Program.keyLits,Tryz.underlying174,Tryz.underlying3,Dp,vP,h0])
 by_cases h1:(Lit.int .i64 x.net).wf=true;rotate_left
 ·exact absurd h (by simp[Program.keyLits,Tryz.underlying174,Tryz.underlying3,Dp,vP,h0,h1])
 exact⟨h0,h1⟩
theorem aBh{v:Value}{l:Lit}(h:keyOf pG 174 v=some l):∃a b e ls,v= .agg #[a,b]∧pG.keyLits (e+2) 174 [a,b]=some ls:=by
 unfold keyOf at h;simp only[Tryz.underlying174]at h;split at h
 ·rename_i hc
  rw[Bool.and_eq_true]at hc;rw[Option.map_eq_some_iff]at h;obtain⟨ls,hl,_⟩:=h;obtain⟨cs,rfl,hcs⟩:∃cs:Array Value,v= .agg cs∧cs.size=2:=by
   have:=hc.2
   cases v<;>simp[Value.formed,Tryz.underlying174,vP]at this
   exact⟨_,rfl,this⟩
  obtain⟨a,b,rfl⟩:=aET hcs;obtain⟨n,hn⟩:=aDI;rw[hn]at hl;exact⟨a,b,n,ls,rfl,hl⟩
 ·cases h
theorem aOI{v:Value}{l:Lit}(h:keyOf pG 174 v=some l):∃x:kY,x.ok∧v=x.kv:=by
 obtain⟨a,b,e,ls,rfl,hl⟩:=aBh h;obtain⟨x,rfl,rfl⟩:=Xq (e+1) a b ls hl;exact⟨x,aFA e x ls hl,rfl⟩
noncomputable def KP:jX kY where
 t:=172
 k:=174
 vl:=kY.kv
 lit:=fun r=> .string (keyBytes [.int .i64 r.node,.int .i64 r.net])
 good:=kY.ok
 law:=Maps.Keyed.of_law aIz
 und:=Tryz.underlying172
 key:=aOH
 inj:=fun x y h=>by
  obtain⟨x0,x1⟩:=x;obtain⟨y0,y1⟩:=y;simp[kY.kv]at h;simp[h]
 inv:=fun v l h=>aOI h
deriving instance DecidableEq for bw
abbrev bw.kv(r:bw):Value:= .agg #[.string r.m,.string r.p,.string r.o]
def bw.ok(r:bw):Prop:=r.m.size≤maxLen∧r.p.size≤maxLen∧r.o.size≤maxLen
theorem rH:pG.cellsOf 41=3:=by kernel_rfl
theorem Xr:pG.keyTypeAt (pG.types.size+1) 41=true:=by kernel_rfl
theorem aOJ:(41:TypeId)<pG.types.size:=of_decide_eq_true kz
theorem aI1:(match pG.underlying 41 with | some (.array _ _) | some (.struct _)=>true | _=>false)=true:=by kernel_rfl
theorem aFB:WideMaps.KeyLaw pG 41:=deep_law_laid laid (m:=2) oz aOJ kz aI1
theorem aI2(d:Nat)(r:bw)(h:r.ok):pG.keyLits (d+2) 41 [.string r.m,.string r.p,.string r.o]=some [.string r.m.data.toList,.string r.p.data.toList,.string r.o.data.toList]:=by
 have h0:=h.1;have h1:=h.2.1;have h2:=h.2.2;simp[Program.keyLits,Tryz.underlying41,Tryz.underlying9,vo,rH,h0,h1,h2]
theorem aOK(r:bw)(h:r.ok):keyOf pG 41 r.kv=some (.string (keyBytes [.string r.m.data.toList,.string r.p.data.toList,.string r.o.data.toList])):=by
 have hk:pG.keyType 41=true:=Xr;unfold keyOf;simp[Tryz.underlying41,hk,Value.formed,rH,Value.cells,aI2 411 r h]
theorem Xt{cs:Array Value}(h:cs.size=3):∃a b d,cs= #[a,b,d]:=by
 obtain⟨l⟩:=cs
 match l,h with
 | [a,b,d],_=>exact⟨a,b,d,rfl⟩
theorem Xu(e:Nat)(a b d:Value)(ls:List Lit)(h:pG.keyLits (e+1) 41 [a,b,d]=some ls):∃x:bw,a= .string x.m∧b= .string x.p∧d= .string x.o:=by
 unfold Program.keyLits at h;simp only[Tryz.underlying41]at h
 cases hx0:pG.keyLits e 9 [a]with
 | none=>simp[Tryz.underlying9,vo,rH,hx0]at h
 | some z0=>
  cases Dg:pG.keyLits e 9 [b]with
  | none=>simp[Tryz.underlying9,vo,rH,Dg,hx0]at h
  | some z1=>
   cases hx2:pG.keyLits e 9 [d]with
   | none=>simp[Tryz.underlying9,vo,rH,hx2,hx0,Dg]at h
   | some z2=>
    obtain⟨s0,hs0,e0⟩:=keyLits_string' Tryz.underlying9 hx0;obtain⟨s1,hs1,e1⟩:=keyLits_string' Tryz.underlying9 Dg;obtain⟨s2,Pb,e2⟩:=keyLits_string' Tryz.underlying9 hx2;simp at hs0;simp at hs1;simp at Pb;exact⟨⟨s0,s1,s2⟩,hs0,hs1,Pb⟩
theorem aFD(d:Nat)(x:bw)(ls:List Lit)(h:pG.keyLits (d+2) 41 [.string x.m,.string x.p,.string x.o]=some ls):x.ok:=by
 by_cases h0:x.m.size≤maxLen;rotate_left
 ·exact absurd h (by simp[Program.keyLits,Tryz.underlying41,Tryz.underlying9,vo,rH,h0])
 by_cases h1:x.p.size≤maxLen;rotate_left
 ·exact absurd h (by simp[Program.keyLits,Tryz.underlying41,Tryz.underlying9,vo,rH,h0,h1])
 by_cases h2:x.o.size≤maxLen;rotate_left
 ·exact absurd h (by simp[Program.keyLits,Tryz.underlying41,Tryz.underlying9,vo,rH,h0,h1,h2])
 exact⟨h0,h1,h2⟩
theorem aBi{v:Value}{l:Lit}(h:keyOf pG 41 v=some l):∃a b d e ls,v= .agg #[a,b,d]∧pG.keyLits (e+2) 41 [a,b,d]=some ls:=by
 unfold keyOf at h;simp only[Tryz.underlying41]at h;split at h
 ·rename_i hc
  rw[Bool.and_eq_true]at hc;rw[Option.map_eq_some_iff]at h;obtain⟨ls,hl,_⟩:=h;obtain⟨cs,rfl,hcs⟩:∃cs:Array Value,v= .agg cs∧cs.size=3:=by
   have:=hc.2
   cases v<;>simp[Value.formed,Tryz.underlying41,rH]at this
   exact⟨_,rfl,this⟩
  obtain⟨a,b,d,rfl⟩:=Xt hcs;obtain⟨n,hn⟩:=aDI;rw[hn]at hl;exact⟨a,b,d,n,ls,rfl,hl⟩
 ·cases h
theorem aOL{v:Value}{l:Lit}(h:keyOf pG 41 v=some l):∃x:bw,x.ok∧v=x.kv:=by
 obtain⟨a,b,d,e,ls,rfl,hl⟩:=aBi h;obtain⟨x,rfl,rfl,rfl⟩:=Xu (e+1) a b d ls hl;exact⟨x,aFD e x ls hl,rfl⟩
noncomputable def KF:jX bw where
 t:=175
 k:=41
 vl:=bw.kv
 lit:=fun r=> .string (keyBytes [.string r.m.data.toList,.string r.p.data.toList,.string r.o.data.toList])
 good:=bw.ok
 law:=Maps.Keyed.of_law aFB
 und:=Tryz.underlying175
 key:=aOK
 inj:=fun x y h=>by
  obtain⟨x0,x1,x2⟩:=x;obtain⟨y0,y1,y2⟩:=y;simp[bw.kv]at h;simp[h]
 inv:=fun v l h=>aOL h
open Go.ChangeMaps (setBlock heap_setBlock_same)
open Go.WideMaps (KeyLaw)
open Go.ChangeMaps Go.WideElems
theorem aH.Qq{κ:Type}[DecidableEq κ]{M:jX κ}(Qr:WideMaps.KeyLaw pG M.k)(Xv:pG.underlying M.t=some (.map M.k 3)){w:World}{b:Nat}{l:List κ}(h:aH M w b l)(hl:l.length<maxLen){y:κ}(hy:M.good y):
 ∃v0 st W1 W2,(Instr.mapEntry M.t (.map (some b)) (M.vl y)).run pG w= .ok (.tuple #[v0,.int .i64 ((st:Nat):Int)]) W1∧
  (Instr.lookup M.t (.map (some b)) (M.vl y) false).run pG W1= .ok (.int .i64 (dR y l)) W1∧
  (Instr.entryStore M.t (.map (some b)) (.int .i64 ((st:Nat):Int)) (.int .i64 ((dR y l:Int)+1))).run pG W1= .ok () W2∧
  aH M W2 b (l++ [y])∧w.grownBy W2 (some b)∧∀p:Addr,p.block≠b→W1.cell? p=w.cell? p:=by
 obtain⟨n,hn,hO⟩:=h;have hO':=hO;obtain⟨D,⟨es,clock,hb,F,hsz,rfl⟩,hK⟩:=hO';have hkey:keyOf pG M.k (M.vl y)=some _:=M.key y hy;obtain⟨v0,st,es1,clock1,hE,Ss,hS⟩:=WideElems.entry_then_store (t:=M.t) (w:=w) Qr Xv RJ hb F hkey;have aU:(setBlock w b (.map es1 clock1)).heap[b]?=some (.map es1 clock1):=heap_setBlock_same hb _;obtain⟨es2,Xw,hR,hU⟩:=hS (setBlock w b (.map es1 clock1)) (.int .i64 ((dR y l:Int)+1)) aU;rw[Du]at hR;have hc:=vA y l;have hm:maxLen=9223372036854775807:=rfl;obtain⟨w',hr,r1,r2⟩:=hO.run_store oz hy ((dR y l:Int)+1) (WalkArith.wf_i64 oz);have e2:setBlock w b (.map es2 Xw)=w':=by
  have:Result.ok () (setBlock w b (.map es2 Xw))=Result.ok () w':=hU.symm.trans hr;exact(Dv this).2
 have uT:(Instr.lookup M.t (.map (some b)) (M.vl y) false).run pG (setBlock w b (.map es1 clock1))= .ok (.int .i64 (dR y l)) (setBlock w b (.map es1 clock1)):=by
  rcases Qr.find w hkey es.toList F.keys with⟨h1,h2⟩ | ⟨j,e0,h1,h2,h3⟩
  ·have hE2:(Instr.mapEntry M.t (.map (some b)) (M.vl y)).run pG w= .ok (.tuple #[.int .i64 0,goInt clock]) (setBlock w b (.map (es.push ⟨M.vl y,.int .i64 0,clock⟩) (clock+1))):=by
    simp[Instr.mapEntry,run_underlying (Xv),MapKept.run_getObj_map hb,Qr.check w false hkey,h1,RJ,MapKept.run_setObj_map _ hb,Result.andThen,setBlock]
   have hU2:(Instr.mapUpdate M.t (.map (some b)) (M.vl y) (.int .i64 0)).run pG w= .ok () (setBlock w b (.map (es.push ⟨M.vl y,.int .i64 0,clock⟩) (clock+1))):=by
    simp[Instr.mapUpdate,run_underlying (Xv),MapKept.run_getObj_map hb,Qr.check w false hkey,h1,MapKept.run_setObj_map _ hb,Result.andThen,setBlock]
   have hL2:(Instr.lookup M.t (.map (some b)) (M.vl y) false).run pG w= .ok (.int .i64 0) w:=by
    simp[Instr.lookup,run_underlying (Xv),MapKept.run_getObj_map hb,Qr.check w _ hkey,h1,RJ,Result.andThen]
   have h0:(dR y l:Int)=0:=by
    have:=(Dv ((hO.iH hy).symm.trans hL2)).1;injection this
   have e1:setBlock w b (.map es1 clock1)=setBlock w b (.map (es.push ⟨M.vl y,.int .i64 0,clock⟩) (clock+1)):=by
    exact(Dv (hE.symm.trans hE2)).2
   obtain⟨w0,jy,r10,_⟩:=hO.run_store oz hy 0 (WalkArith.wf_i64 oz);have e3:setBlock w b (.map (es.push ⟨M.vl y,.int .i64 0,clock⟩) (clock+1))=w0:=by
    exact(Dv (hU2.symm.trans jy)).2
   rw[e1,e3];have:=r10.iH hy;simp only[Mv,if_pos]at this;rw[h0];exact this
  ·have hj:es[j]?=some e0:=by simpa using h2
   have hL3:=hO.iH hy;have Jb:es.modify j (fun e=>{e with key:=M.vl y})=es:=by
    apply Array.ext';rw[Array.toList_modify,modify_eq_set _ _ _ _ h2];have:({e0 with key:=M.vl y}:MapEntry)=e0:=by rw[←h3]
    rw[this];exact WideElems.set_self _ _ _ h2
   have hE2:∃v,(Instr.mapEntry M.t (.map (some b)) (M.vl y)).run pG w= .ok v (setBlock w b (.map es clock)):=by
    refine⟨.tuple #[e0.val,goInt e0.born],?_⟩;simp[Instr.mapEntry,run_underlying (Xv),MapKept.run_getObj_map hb,Qr.check w false hkey,h1,hj,h3,Qr.stays w hkey,Jb,MapKept.run_setObj_map _ hb,Result.andThen,setBlock]
   obtain⟨v,hE2⟩:=hE2;have e1:setBlock w b (.map es1 clock1)=setBlock w b (.map es clock):=by
    exact(Dv (hE.symm.trans hE2)).2
   rw[e1];exact(hO.same (w':=setBlock w b (.map es clock)) ((heap_setBlock_same hb _).trans hb.symm)).iH hy
 refine⟨v0,st,_,_,hE,uT,hR,?_,?_,fun p hp=> ?_⟩
 ·rw[e2];exact aH.aDL hn r1
 ·rw[e2];exact r2
 ·simp[World.cell?,setBlock,Ne.symm hp]
end
end Go.Proofs.YtmdgooofdmpcjaaGreatDoor
