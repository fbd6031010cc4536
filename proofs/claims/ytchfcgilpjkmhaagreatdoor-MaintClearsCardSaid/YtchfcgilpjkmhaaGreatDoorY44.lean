import Derived.Test.YtchfcgilpjkmhaaGreatDoorCards
import Derived.Test.YtchfcgilpjkmhaaGreatDoorTie
import Derived.ProofKit
import Derived.OpenShut
import Derived.LaidMore
import Derived.Deep.DeepHandedRow
import Derived.Deep.DeepWitnessRowRef
import Derived.LaidLaws
import Derived.Shelf.Vars
import Derived.Test.YtchfcgilpjkmhaaGreatDoorY37
import Derived.Test.YtchfcgilpjkmhaaGreatDoorY41
import Derived.Test.YtchfcgilpjkmhaaGreatDoorY42
import Derived.Test.YtchfcgilpjkmhaaGreatDoorY43
import Derived.Test.YtchfcgilpjkmhaaGreatDoorY1
import Derived.Test.YtchfcgilpjkmhaaGreatDoorY11
import Derived.Test.YtchfcgilpjkmhaaGreatDoorY0
set_option maxRecDepth 100000
set_option linter.unusedSimpArgs false
set_option linter.unusedVariables false
set_option linter.unusedSectionVars false
namespace Go.Proofs.YtchfcgilpjkmhaaGreatDoor
open Go.ChangeShapes Go.WideShapes Go.ChangeAt Go.RowKit
attribute [local go_sem] Oper.semAt_some
theorem New_badG(x:CfgV)(z:Int)(hz:¬z=0)(w:World)(hchk:∀W,Below w.heap.size w W→CU 7 #[x.val] W (.int .i64 z)):
 CU 6 #[x.val] w (.tuple #[.pointer none,.int .i64 2]):=by
 have Hc1:=lz (hchk (w.alloc (.cells #[x.mods.val,x.chans.val,x.sws.val,x.links.val,x.vls.val,x.hea.val,x.causes.val,x.vers.val] 31)) ((Below.refl _ _).alloc (Nat.le_refl _) _));have hbk:=Blk.new w 31 #[x.mods.val,x.chans.val,x.sws.val,x.links.val,x.vls.val,x.hea.val,x.causes.val,x.vers.val];have k0:=hbk.cell 0;have k1:=hbk.cell 1;have k2:=hbk.cell 2;have k3:=hbk.cell 3;have k4:=hbk.cell 4;have k5:=hbk.cell 5;have k6:=hbk.cell 6;have k7:=hbk.cell 7;clear hbk hchk;go_enter Tryz.func6,Tryz.ntmps6;go_wp2_with fail;refine Hc1.out.mono ?_;rintro e w1 ⟨rfl,hb1⟩;have HB:=lz (((Below.refl _ w).alloc (Nat.le_refl _) (.cells #[x.mods.val,x.chans.val,x.sws.val,x.links.val,x.vls.val,x.hea.val,x.causes.val,x.vers.val] 31)).trans (hb1.mono (by simp)));clear k0 k1 k2 k3 k4 k5 k6 k7 hb1 Hc1;go_wp2_with fail;refine bodyPost_ret (results_tmp2 rfl _ _ _) rfl ?_;exact⟨rfl,HB.out⟩
theorem needB_next{r:Rep}{c:Cs}{k:Nat}(h:k<c.needs.length):((c.needs.take (k+1)).any fun x=>decide (r=x))=(((c.needs.take k).any fun x=>decide (r=x))||decide (c.needs[k]=r)):=by
 rw[List.take_succ_eq_append_getElem h,List.any_append];simp[eq_comm]
theorem known_next{r:Rep}{l:List Cs}{k:Nat}(h:k<l.length):(l.take (k+1)).any (needB r)=((l.take k).any (needB r)||needB r l[k]):=by
 rw[List.take_succ_eq_append_getElem h,List.any_append];simp
theorem dt_yes{w0:World}{L2:List CsV}{dv:Value}{lst:List Rep}{W:World}(O:DeskOk L2)(h:DeskT w0 L2 dv lst W)(u:ByteArray)(hu:u.size≤maxLen)(hm:memB u (accV (csOf L2) lst)=true):
 Calls Tryz.prog 11 #[dv,.string u] W fun e w'=>e= .returned (.tuple #[.int .i64 ((dst (explV L2 lst (accV (csOf L2) lst) u):Nat):Int),.int .i64 0])∧DeskT w0 L2 dv (restR lst (explV L2 lst (accV (csOf L2) lst) u)) w':=
 (dt_replace O h u hu).mono fun e w' k=>by rw[if_pos hm]at k;exact k
theorem dt_no{w0:World}{L2:List CsV}{dv:Value}{lst:List Rep}{W:World}(O:DeskOk L2)(h:DeskT w0 L2 dv lst W)(u:ByteArray)(hu:u.size≤maxLen)(hm:memB u (accV (csOf L2) lst)=false):
 Calls Tryz.prog 11 #[dv,.string u] W fun e w'=>e= .returned (.tuple #[.int .i64 0,.int .i64 6])∧DeskT w0 L2 dv lst w':=
 (dt_replace O h u hu).mono fun e w' k=>by rw[if_neg (by rw[hm];decide)]at k;exact k
theorem restR_len(l ex:List Rep):(restR l ex).length≤l.length:=List.length_filter_le _ _
theorem new_desk{wN w':World}{g mb:Nat}{A2:Option Addr}{c2:Nat}{L2:List CsV}(h1:Blk w' g 103 #[.slice A2 L2.length c2,.map (some mb)])(h2:RdCs w' w'.heap.size A2 L2)(h3:CntMap KR w' mb [])(h4:wN.heap.size≤mb)(hb:Below wN.heap.size wN w'):
 DeskT wN L2 (.pointer (some ⟨g,0,none⟩)) [] w':=⟨hb,⟨g,mb,A2,c2,rfl,h1,h2,h3,h4⟩⟩
set_option maxHeartbeats 8000000 in
theorem clears_c(x:CfgV)(l:List CallV)(A:Option Addr)(c:Nat)(w:World)(hr:x.rd w w.heap.size)(hx:∀y∈x.causes.l,OkC y.c∧y.x.n≤8796093021952)(hL:LaidN w)(hcl:RdCall w w.heap.size A l)(hcr:∀y∈l,y.r.ok)(hll:l.length≤9223372036854775807):
 CU 3 #[x.val,.slice A l.length c] w (.bool true):=by
 obtain⟨y0,hy0⟩:∃y0,y0=w.alloc (.cells #[x.mods.val,x.chans.val,x.sws.val,x.links.val,x.vls.val,x.hea.val,x.causes.val,x.vers.val] 31):=⟨_,rfl⟩;have hB0:Below w.heap.size w y0:=by rw[hy0];exact(Below.refl _ _).alloc (Nat.le_refl _) _
 have hb0:Blk y0 w.heap.size 31 #[x.mods.val,x.chans.val,x.sws.val,x.links.val,x.vls.val,x.hea.val,x.causes.val,x.vers.val]:=by rw[hy0];exact Blk.new w _ _
 have hlt0:w.heap.size<y0.heap.size:=hb0.lt;have HB0:=lz hB0;have Hb0:=lz hb0;have Hy0:=lz hy0;have Hr:=lz (hr.below hB0);have Hx:=lz hx;have HL:=lz (hL.below hB0);have Hcl:=lz hcl;have Hcr:=lz hcr;clear hB0 hb0 hy0 hr hx hL hcl hcr;go_enter Tryz.func3,Tryz.ntmps3;go_wp2_with fail;rw[←Hy0.out];refine(awake_c y0 HL.out).mono ?_;rintro e w1 ⟨rfl,hb1⟩;have HB1:=lz hb1;have hbx:=Hb0.out.below hb1 hlt0;have c0:=hbx.cell 0;have c1:=hbx.cell 1;have c2:=hbx.cell 2;have c3:=hbx.cell 3;have c4:=hbx.cell 4;have c5:=hbx.cell 5;have c6:=hbx.cell 6;have c7:=hbx.cell 7;have Hsz:=lz (size_c x w1 (Hr.out.below hb1));clear hb1 hbx;go_wp2_with fail;refine Hsz.out.mono ?_;rintro e w2 ⟨⟨z,rfl⟩,hb2⟩;have HB2:=lz (HB1.out.trans (hb2.mono HB1.out.size));clear hb2 Hsz c0 c1 c2 c3 c4 c5 c6 c7;by_cases hz:600<z
 ·have e1:decide (600<z)=true:=decide_eq_true hz
  go_wp2_with fail;go_ret;exact⟨rfl,HB0.out.trans (HB2.out.mono HB0.out.size)⟩
 have e1:decide (600<z)=false:=decide_eq_false hz;by_cases hn:60<l.length
 ·have e2:decide ((60:Int)<(l.length:Int))=true:=decide_eq_true (by omega)
  go_wp2_with fail;go_ret;exact⟨rfl,HB0.out.trans (HB2.out.mono HB0.out.size)⟩
 have e2:decide ((60:Int)<(l.length:Int))=false:=decide_eq_false (by omega);have hbx2:=Hb0.out.below HB2.out hlt0;have c0:=hbx2.cell 0;have c1:=hbx2.cell 1;have c2:=hbx2.cell 2;have c3:=hbx2.cell 3;have c4:=hbx2.cell 4;have c5:=hbx2.cell 5;have c6:=hbx2.cell 6;have c7:=hbx2.cell 7;have hchk:∀W,Below w2.heap.size w2 W→CU 7 #[x.val] W (.int .i64 (chkV x)):=fun W hW=>check_g x W ((Hr.out.below HB2.out).below hW) ((HL.out.below HB2.out).below hW) (fun y hy=>(Hx.out y hy).2)
 by_cases hck:chkV x=0;rotate_left
 ·have hnew:=New_badG x (chkV x) hck w2 hchk
  have Hnew:=lz hnew;have Hchk:=lz hchk;clear hnew hchk;go_wp2_with fail;refine Hnew.out.mono ?_;rintro e w3 ⟨rfl,hb3⟩;clear c0 c1 c2 c3 c4 c5 c6 c7;have HB3:=lz (HB2.out.trans (hb3.mono HB2.out.size));have hbx3:=Hb0.out.below HB3.out hlt0;have c0:=hbx3.cell 0;have c1:=hbx3.cell 1;have c2:=hbx3.cell 2;have c3:=hbx3.cell 3;have c4:=hbx3.cell 4;have c5:=hbx3.cell 5;have c6:=hbx3.cell 6;have c7:=hbx3.cell 7;have Hc3:=lz (Hchk.out w3 hb3);clear hb3 hbx3 Hchk hbx2 Hnew;go_wp2_with fail;refine Hc3.out.mono ?_;rintro e w4 ⟨rfl,hb4⟩;have HB4:=lz (HB3.out.trans (hb4.mono HB3.out.size));have hne:(chkV x !=0)=true:=by simpa using hck
  clear hb4 Hc3 c0 c1 c2 c3 c4 c5 c6 c7;generalize chkV x=q at *;go_wp2_with fail;go_ret;exact⟨rfl,HB0.out.trans (HB4.out.mono HB0.out.size)⟩
 have hU:=chkV_ok.1 hck;have hF:=hU.form (by omega);have hLm:=hU.lim (by omega);have hrd2:=Hr.out.below HB2.out;have hex:=excl_ok hLm (rd_causes hrd2);have hok:okV (csOf x.causes.l)=true:=runO_ok (f:=x.causes.l.length+2) (n:= -1) (by rw[causesB_run];exact congrArg some (show causesB x=true from hU 9 (by omega)));have hnd:=needs_ok hF;rw[hck]at hchk;have hcl32:=hLm.cl;have Hnew:=lz (New_c3 x.causes.l x.mods.val x.chans.val x.sws.val x.links.val x.vls.val x.hea.val x.vers.val x.causes.a x.causes.c w2 hrd2.causes (by omega) (fun y hy=>by have:=(hex y hy).2;omega) (fun y hy=>by have:=(hex y hy).1;omega) hchk);have Hok:=lz hok;have Hnd:=lz hnd;have Hex:=lz hex;clear hchk hU hF hLm hrd2 hok hnd hex hck;go_wp2_with fail;refine Hnew.out.mono ?_;rintro e w3 ⟨g,mb,A2,c2',L2,rfl,hblk,hrd3,hcs,hcm,hmb,hgb,hb3,_⟩;have hO:DeskOk L2:=by
  have hmem:∀y∈L2,∃z∈x.causes.l,z.c=y.c:=fun y hy=>by
   have:y.c∈csOf L2:=List.mem_map_of_mem hy;rw[hcs]at this;exact List.mem_map.1 this
  refine⟨fun y hy=> ?_,?_,fun y hy=> ?_,by rw[hcs];exact Hok.out⟩
  ·obtain⟨z,hz,e⟩:=hmem y hy
   rw[←e];exact(Hx.out z hz).1
  ·have:=congrArg List.length hcs
   simp at this;omega
  ·obtain⟨z,hz,e⟩:=hmem y hy
   rw[←e];have:=(Hex.out z hz).2;omega
 have hnd2:∀y∈L2,0<y.c.needs.length:=fun y hy=>by
  have:y.c∈csOf L2:=List.mem_map_of_mem hy;rw[hcs]at this;obtain⟨z,hz,e⟩:=List.mem_map.1 this;rw[←e];exact Hnd.out z hz
 have HD0:=lz (new_desk hblk hrd3 hcm hmb hb3);have HO:=lz hO;have Hnd2:=lz hnd2;have Hcs:=lz hcs;have Hbx2:=lz hbx2;have hrc:=(Hr.out.below HB2.out).causes;have Hcl32:=lz hcl32;clear hblk hrd3 hcm hmb hgb hb3 hO hnd2 hcs Hnew c0 c1 c2 c3 c4 c5 c6 c7 e1 e2 hz;have hc60:=hbx2.cell 6;obtain⟨xc,hxc⟩:∃xc,xc=x.causes:=⟨_,rfl⟩;rw[←hxc]at hrc hc60 Hcs Hcl32;obtain⟨Ac,pc,Lc⟩:=xc;dsimp only at hrc hc60;have Hrc:=lz hrc;have Hc60:=lz hc60;have hltx:w.heap.size<w2.heap.size:=Nat.lt_of_lt_of_le hlt0 HB2.out.size;have hlc9:Lc.length≤32:=Hcl32.out;clear hrc hc60 hbx2 hcl32 hxc Hcl32 Hbx2;go_wp2_with fail;go_loopw [48] (fun t wr=>∃(k:Nat) (lst:List Rep),k≤l.length∧t= .int .i64 k∧Hid (DeskT w2 L2 (.pointer (some ⟨g,0,none⟩)) lst wr)∧lst.length≤k) (fun t wr=>l.length-(intOf t).toNat)
 case atStart=>exact⟨0,[],Nat.zero_le _,rfl,HD0,by simp⟩
 case round=>
  obtain⟨k,lst,hk,rfl,hD,hlk⟩:=hrel;generalize wr=u1 at *;by_cases hlt:k<l.length
  ·obtain⟨b,o,rfl,hb,hc⟩:=Hcl.out.keep (HB0.out.trans ((HB2.out.trans (hD.out.below.mono HB2.out.size)).mono HB0.out.size)) (by omega)
   obtain⟨d0,d1,d2,d3⟩:=hc k hlt;have hyok:=Hcr.out _ (List.getElem_mem hlt);clear hc;generalize l[k]=y at *;obtain⟨y1,hy1⟩:∃y1,y1=u1.alloc (.cells #[.int .u8 y.what,.string y.r.unit,.int .i64 y.r.code,.string y.u] 43):=⟨_,rfl⟩;have hB1:Below u1.heap.size u1 y1:=by rw[hy1];exact(Below.refl _ _).alloc (Nat.le_refl _) _
   have hby:Blk y1 u1.heap.size 43 #[.int .u8 y.what,.string y.r.unit,.int .i64 y.r.code,.string y.u]:=by rw[hy1];exact Blk.new u1 _ _
   have hrep:=dt_report HO.out (hD.out.next hB1) y.r hyok (by omega);have q1:=hy1▸hby.cell 1;have q2:=hy1▸hby.cell 2;have hkn:knownB (csOf L2) y.r=(csOf Lc).any (needB y.r):=by rw[Hcs.out];rfl
   rw[hkn]at hrep;rw[hy1]at hrep;have Hrep:=lz hrep;have Hby:=lz hby
   have Hy1:=lz hy1;clear hrep hby hy1 hB1 hD hkn;go_wp2_with fail;refine Hrep.out.mono ?_;rintro e w4 ⟨rfl,hD4,hkp⟩;have hby4:=hkp _ _ _ (by rw[←Hy1.out];exact Hby.out);have HD4:=lz hD4;have c6:w4.cell? ⟨w.heap.size,6,none⟩=some (.slice Ac Lc.length pc):=(hD4.below.cell (p:=⟨w.heap.size,6,none⟩) hltx).trans Hc60.out;have Hby4:=lz hby4;have hlty:u1.heap.size<w4.heap.size:=hby4.lt;have Hrd4:=lz (Hrc.out.below hD4.below);clear hby4 hD4 hkp q1 q2 d0 d1 d2 d3 Hrep;obtain⟨qq,hqq⟩:∃qq,qq=(csOf Lc).any (needB y.r):=⟨_,rfl⟩;rw[←hqq]at HD4 ⊢;have Hqq:=lz hqq;clear hqq;obtain⟨fz,hfz⟩:∃fz:Int,fz=if qq=true then 0 else 2:=⟨_,rfl⟩;rw[←hfz];have Hfz:=lz hfz;clear hfz;go_wp2_with fail;go_loopw [10,59] (fun a t W=>∃(j:Nat),j≤Lc.length∧a= .bool (((csOf Lc).take j).any (needB y.r))∧t= .int .i64 j∧Hid (Below w4.heap.size w4 W)) (fun _ t W=>Lc.length-(intOf t).toNat)
   case atStart=>exact⟨0,Nat.zero_le _,rfl,rfl,lz (Below.refl _ _)⟩
   case round=>
    clear c6;obtain⟨j,hj,rfl,rfl,HW⟩:=hrel;generalize wr=u2 at *;by_cases hltj:j<Lc.length
    ·obtain⟨bc,oc,rfl,hbc,hcc⟩:=(Hrd4.out.below HW.out) (by omega)
     obtain⟨f0,f1,f2,hxr⟩:=hcc j hltj;have hnx:=known_next (r:=y.r) (l:=csOf Lc) (k:=j) (by simpa using hltj);have hcz:(csOf Lc)[j]'(by simpa using hltj)=Lc[j].c:=by simp
     rw[hcz]at hnx;have hby2:=Hby4.out.below HW.out hlty;clear hcc hcz;generalize Lc[j]=z at *;obtain⟨zc,⟨na,nn,nc⟩,zx⟩:=z;have hnl:nn=zc.needs.length:=hxr.nl;subst hnl;have hn1:zc.needs.length≤9223372036854775807:=Nat.le_trans hxr.nc (Nat.le_trans hxr.nm (by decide));dsimp only at f0 f1 f2 hnx hn1;obtain⟨y2,hy2⟩:∃y2,y2=u2.alloc (.cells #[.string zc.unit,.slice na zc.needs.length nc,.slice zx.a zx.n zx.c] 48):=⟨_,rfl⟩;have hB2:Below u2.heap.size u2 y2:=by rw[hy2];exact(Below.refl _ _).alloc (Nat.le_refl _) _
     have hbz:Blk y2 u2.heap.size 48 #[.string zc.unit,.slice na zc.needs.length nc,.slice zx.a zx.n zx.c]:=by rw[hy2];exact Blk.new u2 _ _
     have z1:=hy2▸hbz.cell 1;have hby3:=hby2.below hB2 hby2.lt;have hlt3:u1.heap.size<y2.heap.size:=hby3.lt;have hrn:=(hxr.below hB2).n;have Hby3:=lz hby3;have Hrn:=lz hrn;have Hy2:=lz hy2;have Hnx:=lz hnx;have HW2:=lz (HW.out.trans (hB2.mono HW.out.size));obtain⟨pv,hpv⟩:∃pv,pv=((csOf Lc).take j).any (needB y.r):=⟨_,rfl⟩;rw[←hpv]at Hnx ⊢;clear hxr hby2 hby3 hbz hB2 hy2 hrn hnx hpv;go_wp2_with fail;rw[←Hy2.out];clear z1 f0 f1 f2;go_loopw [10,66] (fun a t V=>∃(i:Nat),i≤zc.needs.length∧a= .bool (pv||((zc.needs.take i).any fun x=>decide (y.r=x)))∧t= .int .i64 i∧Hid (Below y2.heap.size y2 V)) (fun _ t V=>zc.needs.length-(intOf t).toNat)
     case atStart=>exact⟨0,Nat.zero_le _,by simp,rfl,lz (Below.refl _ _)⟩
     case round=>
      obtain⟨i,hi,rfl,rfl,HV⟩:=hrel;generalize wr=u3 at *;by_cases hlti:i<zc.needs.length
      ·obtain⟨b3,o3,rfl,hb3,hc3⟩:=(Hrn.out.below HV.out) (by omega)
       obtain⟨g0,g1⟩:=hc3 i hlti;have hnn:=needB_next (r:=y.r) (c:=zc) hlti;have hby5:=Hby3.out.below HV.out hlt3;clear hc3;generalize zc.needs[i]=r at *;have v1:=hby5.cell 1;have v2:=hby5.cell 2;have hlt5:u1.heap.size<u3.heap.size:=hby5.lt;have hqk:=fun W=>rep_eql r y.r W
       have hgk:=fun a b W=>rep_guard r y.r a b W
       have Hnn:=lz hnn;have HV2:=lz (HV.out.alloc HV.out.size (.cells #[.string r.unit,.int .i64 r.code] 41));obtain⟨pw,hpw⟩:∃pw,pw=(zc.needs.take i).any (fun x=>decide (y.r=x)):=⟨_,rfl⟩;rw[←hpw]at Hnn ⊢;obtain⟨dq,hdq⟩:∃dq,dq=decide (r=y.r):=⟨_,rfl⟩;rw[←hdq]at Hnn;simp only[←hdq]at hqk;clear hby5 hnn hpw hdq;have Hor:=lz (show(pv||((zc.needs.take (i+1)).any fun x=>decide (y.r=x)))=((pv||pw)||dq)by rw[Hnn.out,Bool.or_assoc]);generalize (pv||pw)=pz at*
       cases pz with
       | true=>
        go_wp2_with fail;go_roundw
        case rel=>exact⟨i+1,by omega,by rw[Hor.out];simp,by go_num,HV2⟩
        case measure=>simp[intOf];omega
       | false=>
        go_wp2_with fail;go_roundw
        case rel=>exact⟨i+1,by omega,by rw[Hor.out];simp,by go_num,HV2⟩
        case measure=>simp[intOf];omega
      ·obtain rfl:i=zc.needs.length:=by omega
       have hend:(pv||((zc.needs.take zc.needs.length).any fun x=>decide (y.r=x)))=((csOf Lc).take (j+1)).any (needB y.r):=by rw[Hnx.out,List.take_length];rfl
       rw[hend];clear hend;go_wp2_with fail;go_roundw
       case rel=>exact⟨j+1,by omega,rfl,by go_num,lz (HW2.out.trans (HV.out.mono HW2.out.size))⟩
       case measure=>simp[intOf];omega
    ·obtain rfl:j=Lc.length:=by omega
     have hend:((csOf Lc).take Lc.length).any (needB y.r)=qq:=by rw[Hqq.out,List.take_of_length_le (by simp)]
     rw[hend];clear hend;have HDn:=lz (HD4.out.next HW.out)
     cases qq with
     | true=>
      rw[if_pos rfl]at HDn;have hfz:=Hfz.out;rw[if_pos rfl]at hfz;subst hfz;go_wp2_with fail;go_roundw
      case rel=>exact⟨k+1,lst++ [y.r],by omega,by go_num,HDn,by simp;omega⟩
      case measure=>simp[intOf];omega
     | false=>
      rw[if_neg (by decide)]at HDn;have hfz:=Hfz.out;rw[if_neg (by decide)]at hfz;subst hfz;go_wp2_with fail;go_roundw
      case rel=>exact⟨k+1,lst,by omega,by go_num,HDn,by omega⟩
      case measure=>simp[intOf];omega
  ·have hl60:lst.length≤60:=by omega
   have Hreps:=lz (dt_reports hD.out (by omega));go_wp2_with fail;refine Hreps.out.mono ?_;rintro e w4 ⟨A4,c4,l4,rfl,hnd4,hm4,hb4⟩;have hmany:l4.length=dst lst:=dst_of hnd4 hm4;have hdl:=dst_le lst;have HD4:=lz (hD.out.next hb4);obtain⟨many,hmn⟩:∃many,many=dst lst:=⟨_,rfl⟩;rw[hmany,←hmn];rw[←hmn]at hdl;have Hmn:=lz hmn;have hw1:IntKind.i64.wrap ((many:Int)+1)=(many:Int)+1:=IntWalk.i64_in _ (by omega);clear hnd4 hm4 hb4 hmany Hreps hD hmn;go_wp2_with fail;go_loopw [97] (fun t wr=>∃(k:Nat) (lst:List Rep),t= .int .i64 k∧Hid (DeskT w2 L2 (.pointer (some ⟨g,0,none⟩)) lst wr)∧dst lst+k≤many∧lst.length≤60) (fun t wr=>many+1-(intOf t).toNat)
   case atStart=>exact⟨0,lst,rfl,HD4,by rw[Hmn.out];omega,hl60⟩
   case round=>
    obtain⟨j,ls,rfl,hE,hdj,hl6⟩:=hrel;generalize wr=u2 at *;have e1:decide ((j:Int)<(many:Int)+1)=true:=decide_eq_true (by omega);have Hacc:=lz (dt_accused HO.out hE.out);go_wp2_with fail;refine Hacc.out.mono ?_;rintro e u3 ⟨A3,c3,rfl,hrs,hb3⟩;have HE3:=lz (hE.out.next hb3);clear Hacc hE hb3
    cases hac:accV (csOf L2) ls with
    | nil=>
     have Hrep:=lz (dt_no HO.out HE3.out ⟨#[110,111,98,111,100,121,32,97,116,32,97,108,108]⟩ (by decide) (by rw[hac];simp[memB]));clear hrs hac;go_wp2_with fail;refine Hrep.out.mono ?_;rintro e u4 ⟨rfl,hE4⟩;have HF:=lz hE4.below;clear hE4 Hrep;go_wp2_with fail;go_ret;exact⟨rfl,HB0.out.trans ((HB2.out.trans (HF.out.mono HB2.out.size)).mono HB0.out.size)⟩
    | cons u us=>
     rw[hac]at hrs;obtain⟨b3,o3,rfl,hb3,hc3⟩:=hrs (by simp);have s0:=hc3 0 (by simp);have hst:=acc_step (L:=L2) (lst:=ls) (u:=u) HO.out.wf Hnd2.out (by rw[hac];simp);have hus:u.size≤maxLen:=by
      obtain⟨cc,hcc,he,_⟩:=hit_iff.1 ((acc_right ls HO.out.wf u (acc_sub _ _ u (by rw[hac];simp))).1 (by rw[hac];simp));obtain⟨yy,hyy,rfl⟩:=mem_csOf.1 hcc;rw[←he];exact(HO.out.ok yy hyy).u
     have Hrp3:=lz (dt_reports HE3.out (by omega));have Hst:=lz hst;have Hmu:Hid (memB u (accV (csOf L2) ls)=true):=lz (memB_iff.2 (by rw[hac];simp));clear hst hc3 hrs;have hac0:decide (((u :: us).length:Int)=0)=false:=decide_eq_false (by simp;omega);have hac1:(((u :: us).length:Int)==0)=false:=by simp;omega
     generalize hpl:(u :: us).length=pl at *;have hpl1:(0:Int)<(pl:Int):=by rw[←hpl];simp only[List.length_cons];omega
     have hpl2:0<pl:=by rw[←hpl];simp
     clear hpl hac;go_wp2_with fail;refine Hrp3.out.mono ?_;rintro e u4 ⟨A5,c5,l5,rfl,hnd5,hm5,hb5⟩;have hd5:l5.length=dst ls:=dst_of hnd5 hm5;rw[hd5];have HE4:=lz (HE3.out.next hb5);have s1:u4.cell? ⟨b3,o3,none⟩=some (.string u):=(hb5.cell (p:=⟨b3,o3,none⟩) hb3).trans s0;have Hrep:=lz (dt_yes HO.out HE4.out u hus Hmu.out);clear hnd5 hm5 hb5 hd5 Hrp3 s0;obtain⟨h1,h2⟩:=Hst.out;obtain⟨dn,hdn⟩:∃dn,dn=dst (explV L2 ls (accV (csOf L2) ls) u):=⟨_,rfl⟩;obtain⟨dr,hdr⟩:∃dr,dr=dst (restR ls (explV L2 ls (accV (csOf L2) ls) u)):=⟨_,rfl⟩;obtain⟨dl,hdl2⟩:∃dl,dl=dst ls:=⟨_,rfl⟩;rw[←hdn]at h1 h2 Hrep;rw[←hdr,←hdl2]at h2;rw[←hdl2]at hdj ⊢;have Hdr:=lz hdr;clear hdn hdl2 hdr;go_wp2_with fail;refine Hrep.out.mono ?_;rintro e u5 ⟨rfl,hE5⟩;have hrl:=restR_len ls (explV L2 ls (accV (csOf L2) ls) u);have Hrp5:=lz (dt_reports hE5 (by omega));have HE5:=lz hE5;clear Hrep s1 hE5;have hn1:decide ((dn:Int)<1)=false:=decide_eq_false (by omega);go_wp2_with fail;refine Hrp5.out.mono ?_;rintro e u6 ⟨A6,c6,l6,rfl,hnd6,hm6,hb6⟩;have hd6:l6.length=dr:=by rw[Hdr.out];exact dst_of hnd6 hm6
     rw[hd6];have hw2:IntKind.i64.wrap ((dl:Int)-(dn:Int))=(dr:Int):=by rw[IntWalk.i64_in _ (by omega)];omega
     have hw3:wrap64 ((dl:Int)-(dn:Int))=(dr:Int):=by unfold wrap64;omega
     have HE6:=lz (HE5.out.next hb6);clear hnd6 hm6 hb6 hd6 Hrp5;go_wp2_with fail;go_roundw
     case rel=>exact⟨j+1,_,by go_num,HE6,by rw[←Hdr.out];omega,by omega⟩
     case measure=>simp[intOf];omega
end Go.Proofs.YtchfcgilpjkmhaaGreatDoor
namespace Go.Proofs.YtchfcgilpjkmhaaGreatDoor
open Go.ChangeShapes Go.WideShapes Go.ChangeAt Go.RowKit
theorem door_met(os:Os)(args:Array Value):laidMet Tryz.prog Rows.maintClearsRow.laid ((World.doorLaid Tryz.prog 400 os).forCall (fun _ _=>0) ⟨#[],args,[]⟩).memory:=
 laidMet_of_run' 8 kz kz
theorem laidVars_mem{P:Program}{w:World}{n:String}{d:DataW Unit}:∀{laid:List (String×DataW Unit)} {ps:List MemPlace},DataW.LaidVars P w laid ps→(n,d)∈laid→
 ∃g t cs fuel p,P.globalNamed n=some g∧(P.globals[g]?).map (·.type)=some t∧w.var? P n=some cs∧DataW.trod (fun _=>()) P w 0 (fun _=>true) false fuel t cs.toList=some (d,p)
 | [],ps,_,hm=>by simp at hm
 | (n',d') :: r,ps,h,hm=>by
  obtain⟨g,t,cs,fuel,p,q,h1,h2,h3,h4,h5,_⟩:=h;rcases List.mem_cons.1 hm with e | hm
  ·injection e with e1 e2
   subst e1 e2;exact⟨g,t,cs,fuel,p,h1,h2,h3,h4⟩
  ·exact laidVars_mem h5 hm
theorem tab_of_laid{P:Program}{W:World}{name:String}{k:IntKind}{zs:List Int}{laid:List (String×DataW Unit)}{g:Nat}{t e:TypeId}{n:Nat}
 (hg:P.globalNamed name=some g) (hty:(P.globals[g]?).map (·.type)=some t) (ht:P.underlying t=some (.array n e)) (he:P.underlying e=some (.int k)) (hce:P.cellsOf e=1) (hct:P.cellsOf t=n)
 (h:laidMet P laid W) (hm:(name,Lib.tabData k zs)∈laid):Lib.TabIs P W name k zs:=by
 obtain⟨ps,hv,_⟩:=h;obtain⟨g',t',cs,fuel,p,hg',ht',hvar,hd⟩:=laidVars_mem hv hm;obtain rfl:=Option.some.inj (hg.symm.trans hg');obtain rfl:=Option.some.inj (hty.symm.trans ht');unfold Lib.TabIs;rw[hvar,←Lib.cells_of_tab ht he hce hct hd]
theorem trod_ifc{P:Program}{w:World}{base:Nat}{sp:Nat→Bool}{fuel:Nat}{t:TypeId}{ms:Array (String×TypeId)}{cs:List Value}{nm:String}{d:DataW Unit}{p:List MemPlace}(ht:P.underlying t=some (.interface ms))
 (h:DataW.trod (fun _=>()) P w base sp false fuel t cs=some (.iface nm d,p)):∃u v,cs= [.iface u v]:=by
 cases fuel with
 | zero=>simp[DataW.trod]at h
 | succ n=>
  unfold DataW.trod at h;rw[ht]at h;split at h<;>simp_all
theorem ifc_of_laid{P:Program}{W:World}{name nm:String}{d:DataW Unit}{laid:List (String×DataW Unit)}{g:Nat}{t:TypeId}{ms:Array (String×TypeId)}
 (hg:P.globalNamed name=some g) (hty:(P.globals[g]?).map (·.type)=some t) (ht:P.underlying t=some (.interface ms))
 (h:laidMet P laid W) (hm:(name,DataW.iface nm d)∈laid):∃tp p,W.var? P name=some #[.iface tp p]:=by
 obtain⟨ps,hv,_⟩:=h;obtain⟨g',t',cs,fuel,p,hg',ht',hvar,hd⟩:=laidVars_mem hv hm;obtain rfl:=Option.some.inj (hg.symm.trans hg');obtain rfl:=Option.some.inj (hty.symm.trans ht');obtain⟨u,v,e⟩:=trod_ifc ht hd;exact⟨u,v,by rw[hvar];exact congrArg some (Array.toList_inj.1 e)⟩
theorem g_of{P:Program}{n:String}{t:TypeId}(h:((P.globalNamed n).bind fun g=>(P.globals[g]?).map (·.type))=some t):∃g,P.globalNamed n=some g∧(P.globals[g]?).map (·.type)=some t:=Option.bind_eq_some_iff.1 h
theorem laidN_of{W:World}(h:laidMet Tryz.prog Rows.maintClearsRow.laid W)(hs:W.ShapedOpen Tryz.prog):LaidN W:=by
 obtain⟨g1,a1,b1⟩:=g_of (P:=Tryz.prog) (n:= "strconv.ErrSyntax") (t:=287) kz;obtain⟨g2,a2,b2⟩:=g_of (P:=Tryz.prog) (n:= "strconv.ErrRange") (t:=287) kz;obtain⟨g3,a3,b3⟩:=g_of (P:=Tryz.prog) (n:= "internal/strconv.uint64pow10") (t:=372) kz;obtain⟨g4,a4,b4⟩:=g_of (P:=Tryz.prog) (n:= "strings.asciiSpace") (t:=334) kz;have m1:("strconv.ErrSyntax",(Rows.laid_strconv_ErrSyntax:DataW Unit))∈Rows.maintClearsRow.laid:=by unfold Rows.maintClearsRow;exact .tail _ (.tail _ (.tail _ (.tail _ (.head _))))
 have m2:("strconv.ErrRange",(Rows.laid_strconv_ErrRange:DataW Unit))∈Rows.maintClearsRow.laid:=by unfold Rows.maintClearsRow;exact .tail _ (.tail _ (.tail _ (.head _)))
 have m3:("internal/strconv.uint64pow10",Lib.tabData .u64 Lib.pow10Tab)∈Rows.maintClearsRow.laid:=by
  rw[show(Lib.tabData .u64 Lib.pow10Tab:DataW Unit)=Rows.laid_internal_strconv_uint64pow10 by kernel_rfl];unfold Rows.maintClearsRow;exact .tail _ (.tail _ (.head _))
 have m4:("strings.asciiSpace",Lib.tabData .u8 Lib.asciiSpaceTab)∈Rows.maintClearsRow.laid:=by
  rw[show(Lib.tabData .u8 Lib.asciiSpaceTab:DataW Unit)=Rows.laid_strings_asciiSpace by kernel_rfl];unfold Rows.maintClearsRow;exact .tail _ (.tail _ (.tail _ (.tail _ (.tail _ (.tail _ (.head _))))))
 refine⟨ifc_of_laid a1 b1 Tryz.underlying287 h (nm:= "*errors.errorString") m1,ifc_of_laid a2 b2 Tryz.underlying287 h (nm:= "*errors.errorString") m2,tab_of_laid a3 b3 Tryz.underlying372 Tryz.underlying302 kz kz h m3,tab_of_laid a4 b4 Tryz.underlying334 Tryz.underlying5 kz kz h m4,?_⟩;exact cell_of_shapedOpen_int hs (of_decide_eq_true kz) (zero:= #[.int .i64 0]) (t:=3) kz rfl kz kz Tryz.underlying3
end Go.Proofs.YtchfcgilpjkmhaaGreatDoor
