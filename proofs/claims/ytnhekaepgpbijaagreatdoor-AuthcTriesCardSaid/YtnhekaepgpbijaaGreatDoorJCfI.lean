/-
  The contract of the reference's Check of a conf. Conditions: lists of at most 1,000,000 texts.
-/
import Derived.Test.YtnhekaepgpbijaaGreatDoorJCfHG
set_option linter.unusedVariables false
set_option linter.unusedSimpArgs false
set_option maxHeartbeats 40000000
set_option maxRecDepth 100000
namespace Go.Proofs.YtnhekaepgpbijaaGreatDoor
open Go.RowKit Go.ChangeShapes Go.WideShapes Go.Sort
def pz (o:fP):Int:=match o with | none=>0 | some (_,k)=>k
def tL (o:fP):List UInt8:=match o with | none=>[] | some (ps,_)=>atL ps
theorem xE (s:List UInt8) (k:Int):unl true s k=none:=rfl
theorem SG {al:List (List UInt8)} (h:df al=0):aV [] al 1=none:=zl rfl h (by decide)
theorem NU {al:List (List UInt8)} (h:df al≠0):aV [] al 1=some ([97,108,103,115],df al):=rJ 1 rfl h
section
variable {w : World}
theorem sD {ls:List (List (List UInt8))}:∀{i j:Nat} {k:Int},prF i ls=some (j,k)→k≠0∧j<i+ls.length:=by
 induction ls with
 | nil=>intro i j k h;cases h
 | cons l r ih =>
  intro i j k h;unfold prF at h
  split at h
  ·rename_i hz
   cases h
   exact ⟨hz,by simp⟩
  ·have:=ih h
   refine ⟨this.1,by simp only [List.length_cons];omega⟩
theorem uz {gs:List (List UInt8 × Int)} {al:List (List UInt8)} {lim:Int} {s:List UInt8} {k:Int} (h:aV gs al lim=some (s,k)):k≠0∧s.length≤6:=by
 unfold aV at h
 split at h
 ·rename_i hz;cases h;exact ⟨hz,by decide⟩
 ·split at h
  ·rename_i hz;cases h;exact ⟨hz,by decide⟩
  ·split at h
   ·cases h;exact ⟨by decide,by decide⟩
   ·cases h
theorem pX (i:Nat):(fT i).length≤6:=by
 match i with
 | 0=>decide
 | 1=>decide
 | 2=>decide
 | 3=>decide
 | 4=>decide
 | 5=>decide
 | 6=>decide
 | 7=>decide
 | i+8=>exact Nat.zero_le _
theorem FB {v:List UInt8} (h:v=[]):(bs v).toList.isEmpty=true:=by subst h;rw [aN];rfl
theorem Ld {v:List UInt8} (h:v≠[]):(bs v).toList.isEmpty=false:=by
 rw [aN]
 cases v with
 | nil=>exact absurd rfl h
 | cons a r=>rfl
theorem Ko {v:List UInt8} (h:v≠[]):(v != [])=true:=by
 cases v with
 | nil=>exact absurd rfl h
 | cons a r=>rfl
theorem BP {sv ex ge:Bool} {sw cm us:List UInt8} {A0 A1 A2 A3 A4 A5 A6 A7 A8 A9 A10:Option Addr} {n0 n1 n2 n3 n4 n5 n6 n7 c0 c1 c2 c3 c4 c5 c6 c7 c8 c9 c10:Nat} {al:List (List UInt8)} {own lim peer q0 q1 q2:Int} {gr:List (List UInt8 × Int)} {ky:List Int} {ls:List (List (List UInt8))} (hC:CfM w sw cm us [.slice A0 n0 c0,.slice A1 n1 c1,.slice A2 n2 c2,.slice A3 n3 c3,.slice A4 n4 c4,.slice A5 n5 c5,.slice A6 n6 c6,.slice A7 n7 c7] ls A8 c8 al A9 gr A10 ky) (hq0:IntKind.i64.wrap q0=q0) (hq1:IntKind.i64.wrap q1=q1) (hq2:IntKind.i64.wrap q2=q2) :
  Calls Tryz.prog 154 #[.agg #[.bool sv,.string (bs sw),.string (bs cm),.slice A0 n0 c0,.slice A1 n1 c1,.slice A2 n2 c2,.slice A3 n3 c3,.slice A4 n4 c4,.slice A5 n5 c5,.slice A6 n6 c6,.slice A7 n7 c7,.slice A8 al.length c8,.int .i64 own,.slice A9 gr.length c9,.int .i64 lim,.int .i64 peer,.string (bs us),.slice A10 ky.length c10,.bool ex,.bool ge,.int .u32 q0,.int .u32 q1,.int .u32 q2]] w (fun e w'=>e=.returned (.tuple #[.int .i64 (pz (inC (dD [unl (aC peer) [112,101,101,114] 5,unl (bO us) [117,115,101,114] 3,fG ky,bN (aV [] al 1),unl (aQ q0 q1 q2) [119,105,115,104] 5]))),.string (bs (tL (inC (dD [unl (aC peer) [112,101,101,114] 5,unl (bO us) [117,115,101,114] 3,fG ky,bN (aV [] al 1),unl (aQ q0 q1 q2) [119,105,115,104] 5]))))])∧Below w.heap.size w w'):=by
 obtain ⟨W0,hW0⟩:∃W0,W0=w.alloc (.cells #[.bool sv,.string (bs sw),.string (bs cm),.slice A0 n0 c0,.slice A1 n1 c1,.slice A2 n2 c2,.slice A3 n3 c3,.slice A4 n4 c4,.slice A5 n5 c5,.slice A6 n6 c6,.slice A7 n7 c7,.slice A8 al.length c8,.int .i64 own,.slice A9 gr.length c9,.int .i64 lim,.int .i64 peer,.string (bs us),.slice A10 ky.length c10,.bool ex,.bool ge,.int .u32 q0,.int .u32 q1,.int .u32 q2] 30):=⟨_,rfl⟩
 have hb0:Below w.heap.size w W0:=by rw [hW0];exact aa
 have hX0:Blk W0 w.heap.size 30 #[.bool sv,.string (bs sw),.string (bs cm),.slice A0 n0 c0,.slice A1 n1 c1,.slice A2 n2 c2,.slice A3 n3 c3,.slice A4 n4 c4,.slice A5 n5 c5,.slice A6 n6 c6,.slice A7 n7 c7,.slice A8 al.length c8,.int .i64 own,.slice A9 gr.length c9,.int .i64 lim,.int .i64 peer,.string (bs us),.slice A10 ky.length c10,.bool ex,.bool ge,.int .u32 q0,.int .u32 q1,.int .u32 q2]:=by rw [hW0];exact Blk.new w _ _
 have HPP:=hide (fun (W:World)=>nP peer W);have HUU:=hide (fun (W:World)=>show Calls Tryz.prog 229 #[.string (bs us)] W (fun e w'=>e=.returned (.bool (bO us))∧w'=W) from by have:=xy (bs us) (Nat.le_trans hC.hus (by decide)) W;rwa [aU] at this);have HAA:=hide (wm (hC.hal.below hb0) hC.alc hC.all hC.aly);have HGG:=hide (fun (W:World)=>DT q0 q1 q2 W);have HKK:=hide (fun (n:Int) (W:World)=>nP n W);have HKy:=hide (hC.hky.below hb0);have hkl:=hC.kyl;have z11:=hX0.cell 11;have z15:=hX0.cell 15;have z16:=hX0.cell 16;have z17:=hX0.cell 17;have z20:=hX0.cell 20;have z21:=hX0.cell 21;have z22:=hX0.cell 22;simp only [List.getElem?_toArray,List.getElem?_cons_zero,List.getElem?_cons_succ] at z11 z15 z16 z17 z20 z21 z22;have HX:=hide (And.intro hb0 hX0);have hlt0:=hX0.lt;clear hb0 hX0 hC
 cases hp:aC peer with
 | false =>
  rw [hp] at HPP;have E:=hide (show inC (dD [unl false [112,101,101,114] 5,unl (bO us) [117,115,101,114] 3,fG ky,bN (aV [] al 1),unl (aQ q0 q1 q2) [119,105,115,104] 5])=some ([[99,111,110,102],[112,101,101,114]],5) from rfl);clear hp;go_enter Tryz.func154,Tryz.ntmps154;go_upto_region 1 with fail;rw [←hW0];clear hW0;go_wp2_with (first | (go_at_call 152;refine (HPP.out _).mono ?_;rintro e w1 ⟨rfl,rfl⟩) | fail);go_ret2;exact ⟨by rw [E.out];rfl,HX.out.1⟩
 | true =>
  rw [hp] at HPP;rw [xE];clear hp
  cases hu:bO us with
  | false =>
   rw [hu] at HUU;have E:=hide (show inC (dD [none,unl false [117,115,101,114] 3,fG ky,bN (aV [] al 1),unl (aQ q0 q1 q2) [119,105,115,104] 5])=some ([[99,111,110,102],[117,115,101,114]],3) from rfl);clear hu;go_enter Tryz.func154,Tryz.ntmps154;go_upto_region 1 with fail;rw [←hW0];clear hW0;go_wp2_with (first | (go_at_call 152;refine (HPP.out _).mono ?_;rintro e w1 ⟨rfl,rfl⟩) | (go_at_call 229;refine (HUU.out _).mono ?_;rintro e w2 ⟨rfl,rfl⟩) | fail);go_ret2;exact ⟨by rw [E.out];rfl,HX.out.1⟩
  | true =>
   rw [hu] at HUU;rw [xE];clear hu
   by_cases h8:8<ky.length
   ·have h8b:(8:Int)<ky.length:=by omega
    have E:=hide (show inC (dD [none,none,fG ky,bN (aV [] al 1),unl (aQ q0 q1 q2) [119,105,115,104] 5])=some ([[99,111,110,102],[107,101,121,115]],2) from by rw [EN (show oq ky=2 from by unfold oq;rw [if_pos h8])];rfl);clear h8;go_enter Tryz.func154,Tryz.ntmps154;go_upto_region 1 with fail;rw [←hW0];clear hW0;go_wp2_with (first | (go_at_call 152;refine (HPP.out _).mono ?_;rintro e w1 ⟨rfl,rfl⟩) | (go_at_call 229;refine (HUU.out _).mono ?_;rintro e w2 ⟨rfl,rfl⟩) | fail);go_ret2;exact ⟨by rw [E.out];rfl,HX.out.1⟩
   ·have h8b:¬ (8:Int)<ky.length:=by omega
    have Hno:=hide (fun n (hn:n∈ky)=>yu h8 hn);have Hyes:=hide (zK h8);clear h8;go_enter Tryz.func154,Tryz.ntmps154;go_upto_region 1 with fail;rw [←hW0];clear hW0;go_wp2_with (first | (go_at_call 152;refine (HPP.out _).mono ?_;rintro e w1 ⟨rfl,rfl⟩) | (go_at_call 229;refine (HUU.out _).mono ?_;rintro e w2 ⟨rfl,rfl⟩) | fail)
    go_loop [4] (fun i=>∃k:Nat,k≤ky.length∧i=.int .i64 k∧Hid (∀n∈ky.take k,aC n=true)) (fun i=>ky.length - (intOf i).toNat)
    case atStart=>exact ⟨0,Nat.zero_le _,rfl,hide (by simp)⟩
    case round =>
     obtain ⟨k,hk,rfl,H⟩:=hrel
     by_cases hlt:k<ky.length
     ·have hltI:(k:Int)<ky.length:=by omega
      obtain ⟨ad,rfl,had,hc0⟩:=HKy.out k hlt
      cases hp:aC ky[k] with
      | false =>
       have HP2:=hide (show ∀W,Calls Tryz.prog 152 #[.int .i64 ky[k]] W (fun e w'=>e=.returned (.bool false)∧w'=W) from fun W=>by have:=HKK.out ky[k] W;rwa [hp] at this);have E:=hide (show inC (dD [none,none,fG ky,bN (aV [] al 1),unl (aQ q0 q1 q2) [119,105,115,104] 5])=some ([[99,111,110,102],[107,101,121,115]],5) from by rw [EY (Hno.out _ (List.getElem_mem hlt) hp)];rfl);clear hp H HKy Hno Hyes;go_wp2_with (first | (go_at_call 152;refine (HP2.out _).mono ?_;rintro e w3 ⟨rfl,rfl⟩) | fail);go_ret2;exact ⟨by rw [E.out];rfl,HX.out.1⟩
      | true =>
       have HP2:=hide (show ∀W,Calls Tryz.prog 152 #[.int .i64 ky[k]] W (fun e w'=>e=.returned (.bool true)∧w'=W) from fun W=>by have:=HKK.out ky[k] W;rwa [hp] at this)
       have H2:=hide (show ∀n∈ky.take (k+1),aC n=true from by
        intro x hx;rw [List.take_succ_eq_append_getElem hlt] at hx;rcases List.mem_append.1 hx with hx | hx
        ·exact H.out x hx
        ·simp only [List.mem_singleton] at hx
         subst hx
         exact hp)
       clear hp H HKy Hno Hyes;go_wp2_with (first | (go_at_call 152;refine (HP2.out _).mono ?_;rintro e w3 ⟨rfl,rfl⟩) | fail);go_round
       case rel=>exact ⟨k+1,hlt,by go_num,H2⟩
       case measure=>simp [intOf];omega
     ·have hltI:¬ (k:Int)<ky.length:=by omega
      have hky0:=LQ (Hyes.out (fun n hn=>H.out n (by rw [List.take_of_length_le (by omega)];exact hn)));clear H HKy Hno Hyes
      by_cases ha:df al=0
      ·rw [ha] at HAA
       have hd0:=SG ha;clear ha;have HGW:=HGG
       cases hg:aQ q0 q1 q2 with
       | false =>
        rw [hg] at HGG;have E:=hide (show inC (dD [none,none,fG ky,bN (aV [] al 1),unl (aQ q0 q1 q2) [119,105,115,104] 5])=some ([[99,111,110,102],[119,105,115,104]],5) from by rw [hky0,hd0,hg];rfl);clear hg HGW hd0 hky0;go_wp2_with (first | (go_at_call 230;refine HAA.out.mono ?_;rintro e w4 ⟨rfl,hb4⟩;have hX4:=HX.out.2.below hb4 hlt0;have y20:=hX4.cell 20;have y21:=hX4.cell 21;have y22:=hX4.cell 22;simp only [List.getElem?_toArray,List.getElem?_cons_zero,List.getElem?_cons_succ] at y20 y21 y22) | (go_at_call 231;refine (HGG.out _).mono ?_;rintro e w5 ⟨rfl,rfl⟩) | fail);go_ret2;exact ⟨by rw [E.out];rfl,HX.out.1.trans (hb4.mono HX.out.1.size)⟩
       | true =>
        rw [hg] at HGG;have E:=hide (show inC (dD [none,none,fG ky,bN (aV [] al 1),unl (aQ q0 q1 q2) [119,105,115,104] 5])=none from by rw [hky0,hd0,hg];rfl);clear hg HGW hd0 hky0;go_wp2_with (first | (go_at_call 230;refine HAA.out.mono ?_;rintro e w4 ⟨rfl,hb4⟩;have hX4:=HX.out.2.below hb4 hlt0;have y20:=hX4.cell 20;have y21:=hX4.cell 21;have y22:=hX4.cell 22;simp only [List.getElem?_toArray,List.getElem?_cons_zero,List.getElem?_cons_succ] at y20 y21 y22) | (go_at_call 231;refine (HGG.out _).mono ?_;rintro e w5 ⟨rfl,rfl⟩) | fail);go_ret2;exact ⟨by rw [E.out];rfl,HX.out.1.trans (hb4.mono HX.out.1.size)⟩
      ·have ha1:(df al == 0)=false:=by rw [beq_eq_false_iff_ne];exact ha
       have ha2:(df al != 0)=true:=by simp [bne,ha1]
       have E:=hide (show inC (dD [none,none,fG ky,bN (aV [] al 1),unl (aQ q0 q1 q2) [119,105,115,104] 5])=some ([[99,111,110,102],[100,101,110,121],[97,108,103,115]],df al) from by rw [hky0,NU ha];rfl);clear ha hky0;generalize df al=z at HAA E ha1 ha2;go_wp2_with (first | (go_at_call 230;refine HAA.out.mono ?_;rintro e w4 ⟨rfl,hb4⟩;have hX4:=HX.out.2.below hb4 hlt0;have y20:=hX4.cell 20;have y21:=hX4.cell 21;have y22:=hX4.cell 22;simp only [List.getElem?_toArray,List.getElem?_cons_zero,List.getElem?_cons_succ] at y20 y21 y22) | fail);go_ret2;exact ⟨by rw [E.out];rfl,HX.out.1.trans (hb4.mono HX.out.1.size)⟩
theorem Kn {ex ge:Bool} {sw cm us:List UInt8} {A0 A1 A2 A3 A4 A5 A6 A7 A8 A9 A10:Option Addr} {n0 n1 n2 n3 n4 n5 n6 n7 c0 c1 c2 c3 c4 c5 c6 c7 c8 c9 c10:Nat} {al:List (List UInt8)} {own lim peer q0 q1 q2:Int} {gr:List (List UInt8 × Int)} {ky:List Int} {ls:List (List (List UInt8))} (hC:CfM w sw cm us [.slice A0 n0 c0,.slice A1 n1 c1,.slice A2 n2 c2,.slice A3 n3 c3,.slice A4 n4 c4,.slice A5 n5 c5,.slice A6 n6 c6,.slice A7 n7 c7] ls A8 c8 al A9 gr A10 ky) (hq0:IntKind.i64.wrap q0=q0) (hq1:IntKind.i64.wrap q1=q1) (hq2:IntKind.i64.wrap q2=q2) :
  Calls Tryz.prog 88 #[.agg #[.bool true,.string (bs sw),.string (bs cm),.slice A0 n0 c0,.slice A1 n1 c1,.slice A2 n2 c2,.slice A3 n3 c3,.slice A4 n4 c4,.slice A5 n5 c5,.slice A6 n6 c6,.slice A7 n7 c7,.slice A8 al.length c8,.int .i64 own,.slice A9 gr.length c9,.int .i64 lim,.int .i64 peer,.string (bs us),.slice A10 ky.length c10,.bool ex,.bool ge,.int .u32 q0,.int .u32 q1,.int .u32 q2]] w (fun e w'=>e=.returned (.tuple #[.int .i64 (pz (inC (dD [unl (bR sw cm != []) [118,101,114,115,105,111,110] 1,prR (prW ls),unl (aC own) [111,119,110] 5,bN (aV gr al lim)]))),.string (bs (tL (inC (dD [unl (bR sw cm != []) [118,101,114,115,105,111,110] 1,prR (prW ls),unl (aC own) [111,119,110] 5,bN (aV gr al lim)]))))])∧Below w.heap.size w w'):=by
 obtain ⟨W0,hW0⟩:∃W0,W0=w.alloc (.cells #[.bool true,.string (bs sw),.string (bs cm),.slice A0 n0 c0,.slice A1 n1 c1,.slice A2 n2 c2,.slice A3 n3 c3,.slice A4 n4 c4,.slice A5 n5 c5,.slice A6 n6 c6,.slice A7 n7 c7,.slice A8 al.length c8,.int .i64 own,.slice A9 gr.length c9,.int .i64 lim,.int .i64 peer,.string (bs us),.slice A10 ky.length c10,.bool ex,.bool ge,.int .u32 q0,.int .u32 q1,.int .u32 q2] 30):=⟨_,rfl⟩
 have hb0:Below w.heap.size w W0:=by rw [hW0];exact aa
 have hX0:Blk W0 w.heap.size 30 #[.bool true,.string (bs sw),.string (bs cm),.slice A0 n0 c0,.slice A1 n1 c1,.slice A2 n2 c2,.slice A3 n3 c3,.slice A4 n4 c4,.slice A5 n5 c5,.slice A6 n6 c6,.slice A7 n7 c7,.slice A8 al.length c8,.int .i64 own,.slice A9 gr.length c9,.int .i64 lim,.int .i64 peer,.string (bs us),.slice A10 ky.length c10,.bool ex,.bool ge,.int .u32 q0,.int .u32 q1,.int .u32 q2]:=by rw [hW0];exact Blk.new w _ _
 have HV:=hide (fun (W:World)=>show Calls Tryz.prog 149 #[.agg #[.bool true,.string (bs sw),.string (bs cm),.slice A0 n0 c0,.slice A1 n1 c1,.slice A2 n2 c2,.slice A3 n3 c3,.slice A4 n4 c4,.slice A5 n5 c5,.slice A6 n6 c6,.slice A7 n7 c7,.slice A8 al.length c8,.int .i64 own,.slice A9 gr.length c9,.int .i64 lim,.int .i64 peer,.string (bs us),.slice A10 ky.length c10,.bool ex,.bool ge,.int .u32 q0,.int .u32 q1,.int .u32 q2]] W (fun e w'=>e=.returned (.string (bs (bR sw cm)))∧Below W.heap.size W w') from oG (w:=W) hC.hsw hC.hcm);have HP:=hide (fun (W:World) (hb:Below w.heap.size w W)=>qP (hC.hl8.below hb));have HC2:=hide (fun (W:World) (hb:Below w.heap.size w W)=>Ip (c:=c9) (lim:=lim) (hC.hgr.below hb) hC.grl hC.gry (hC.hal.below hb) hC.alc hC.all hC.aly);have HX:=hide (And.intro hb0 hX0);have hlt0:=hX0.lt;have h8:=hC.hl8.2.1;clear hb0 hX0 hC hq0 hq1 hq2
 by_cases hv:bR sw cm=[]
 ·have hv1:=FB hv
  have E:=hide (show inC (dD [unl (bR sw cm != []) [118,101,114,115,105,111,110] 1,prR (prW ls),unl (aC own) [111,119,110] 5,bN (aV gr al lim)])=some ([[99,111,110,102],[118,101,114,115,105,111,110]],1) from by rw [hv];rfl);clear hv;generalize bR sw cm=vv at HV E hv1 ⊢;go_enter Tryz.func88,Tryz.ntmps88;go_upto_region 1 with fail;rw [←hW0];clear hW0;refine wp_region_lit ?_;refine aK rfl (.tmp 1) rfl (by rfl) HX.out.2 rfl ?_;go_wp2_with (first | (go_at_call 149;refine (HV.out _).mono ?_;rintro e w1 ⟨rfl,hb1⟩;have hX1:=HX.out.2.below hb1 hlt0;have hl1:=hX1.lt;have z3:=hX1.cell 3;have z4:=hX1.cell 4;have z5:=hX1.cell 5;have z6:=hX1.cell 6;have z7:=hX1.cell 7;have z8:=hX1.cell 8;have z9:=hX1.cell 9;have z10:=hX1.cell 10;simp only [List.getElem?_toArray,List.getElem?_cons_zero,List.getElem?_cons_succ] at z3 z4 z5 z6 z7 z8 z9 z10) | fail);go_ret2;exact ⟨by rw [E.out];rfl,HX.out.1.trans (hb1.mono HX.out.1.size)⟩
 ·have hv1:=Ld hv
  have hv2:=Ko hv;rcases eD (prW ls) with hp | ⟨⟨i,k⟩,hp⟩
  rotate_left 1
  ·have hik:=sD hp
   have HPK:=hide (fun (W:World) (hb:Below w.heap.size w W)=>show Calls Tryz.prog 150 #[.agg #[.slice A0 n0 c0,.slice A1 n1 c1,.slice A2 n2 c2,.slice A3 n3 c3,.slice A4 n4 c4,.slice A5 n5 c5,.slice A6 n6 c6,.slice A7 n7 c7]] W (fun e w'=>e=.returned (.tuple #[.int .i64 k,.int .i64 i])∧Below W.heap.size W w') from by have:=HP.out W hb;rwa [hp] at this);have HWd:=hide (fun (W:World)=>xC i (by omega) W);have hw6:=pX i;have hws:(bs (fT i)).size≤6:=hw6;have hqa:11+(bs (fT i)).size≤9223372036854775807:=by omega
   have hqb:11+(bs (fT i)).size+1≤9223372036854775807:=by omega
   have E:=hide (show inC (dD [unl (bR sw cm != []) [118,101,114,115,105,111,110] 1,prR (prW ls),unl (aC own) [111,119,110] 5,bN (aV gr al lim)])=some ([[99,111,110,102],[112,114,101,102,115],fT i],k) from by rw [hv2,xE,hp];rfl)
   have HS:=hide (show bs (atL [[99,111,110,102],[112,114,101,102,115],fT i])=(⟨#[99,111,110,102,32,112,114,101,102,115,32]⟩:ByteArray)++bs (fT i)++⟨#[32]⟩ from by
    refine (kV ?_).symm;rw [data_append,data_append,aU]
    simp [atL])
   have hk1:(k == 0)=false:=by rw [beq_eq_false_iff_ne];exact hik.1
   have hk2:(k != 0)=true:=by simp [bne,hk1]
   clear hv hp HP hik hw6 HC2;generalize bR sw cm=vv at HV E hv1 hv2 ⊢;generalize bs (fT i)=wd at HWd HS hws hqa hqb;go_enter Tryz.func88,Tryz.ntmps88;go_upto_region 1 with fail;rw [←hW0];clear hW0;refine wp_region_lit ?_;refine aK rfl (.tmp 1) rfl (by rfl) HX.out.2 rfl ?_;go_wp2_with (first | (go_at_call 149;refine (HV.out _).mono ?_;rintro e w1 ⟨rfl,hb1⟩;have hX1:=HX.out.2.below hb1 hlt0;have hl1:=hX1.lt;have z3:=hX1.cell 3;have z4:=hX1.cell 4;have z5:=hX1.cell 5;have z6:=hX1.cell 6;have z7:=hX1.cell 7;have z8:=hX1.cell 8;have z9:=hX1.cell 9;have z10:=hX1.cell 10;simp only [List.getElem?_toArray,List.getElem?_cons_zero,List.getElem?_cons_succ] at z3 z4 z5 z6 z7 z8 z9 z10) | (go_at_call 150;refine (HPK.out _ (HX.out.1.trans (hb1.mono HX.out.1.size))).mono ?_;rintro e w2 ⟨rfl,hb2⟩;have hX2:=hX1.below hb2 hl1;have hl2:=hX2.lt;have y0:=hX2.cell 0;have y11:=hX2.cell 11;have y12:=hX2.cell 12;have y13:=hX2.cell 13;have y14:=hX2.cell 14;simp only [List.getElem?_toArray,List.getElem?_cons_zero,List.getElem?_cons_succ] at y0 y11 y12 y13 y14) | (go_at_call 151;refine (HWd.out _).mono ?_;rintro e w3 ⟨rfl,hb3⟩) | fail);go_ret2;exact ⟨by rw [E.out];show _=Ending.returned (.tuple #[.int .i64 k,.string (bs (atL [[99,111,110,102],[112,114,101,102,115],fT i]))]);rw [HS.out];rfl,HX.out.1.trans ((hb1.trans ((hb2.trans (hb3.mono hb2.size)).mono hb1.size)).mono HX.out.1.size)⟩
  ·have HPK:=hide (fun (W:World) (hb:Below w.heap.size w W)=>show Calls Tryz.prog 150 #[.agg #[.slice A0 n0 c0,.slice A1 n1 c1,.slice A2 n2 c2,.slice A3 n3 c3,.slice A4 n4 c4,.slice A5 n5 c5,.slice A6 n6 c6,.slice A7 n7 c7]] W (fun e w'=>e=.returned (.tuple #[.int .i64 0,.int .i64 (-1)])∧Below W.heap.size W w') from by have:=HP.out W hb;rwa [hp] at this)
   have E0:=hide (show inC (dD [unl (bR sw cm != []) [118,101,114,115,105,111,110] 1,prR (prW ls),unl (aC own) [111,119,110] 5,bN (aV gr al lim)])=inC (dD [unl (aC own) [111,119,110] 5,bN (aV gr al lim)]) from by rw [hv2,xE,hp];rfl);clear hv hp HP;generalize bR sw cm=vv at HV E0 hv1 hv2 ⊢;have HPP:=hide (fun (W:World)=>nP own W)
   by_cases ho:aC own=false
   ·rw [ho] at HPP
    have E:=hide (show inC (dD [unl (vv != []) [118,101,114,115,105,111,110] 1,prR (prW ls),unl (aC own) [111,119,110] 5,bN (aV gr al lim)])=some ([[99,111,110,102],[111,119,110]],5) from by rw [E0.out,ho];rfl);clear ho E0 HC2;go_enter Tryz.func88,Tryz.ntmps88;go_upto_region 1 with fail;rw [←hW0];clear hW0;refine wp_region_lit ?_;refine aK rfl (.tmp 1) rfl (by rfl) HX.out.2 rfl ?_;go_wp2_with (first | (go_at_call 149;refine (HV.out _).mono ?_;rintro e w1 ⟨rfl,hb1⟩;have hX1:=HX.out.2.below hb1 hlt0;have hl1:=hX1.lt;have z3:=hX1.cell 3;have z4:=hX1.cell 4;have z5:=hX1.cell 5;have z6:=hX1.cell 6;have z7:=hX1.cell 7;have z8:=hX1.cell 8;have z9:=hX1.cell 9;have z10:=hX1.cell 10;simp only [List.getElem?_toArray,List.getElem?_cons_zero,List.getElem?_cons_succ] at z3 z4 z5 z6 z7 z8 z9 z10) | (go_at_call 150;refine (HPK.out _ (HX.out.1.trans (hb1.mono HX.out.1.size))).mono ?_;rintro e w2 ⟨rfl,hb2⟩;have hX2:=hX1.below hb2 hl1;have hl2:=hX2.lt;have y0:=hX2.cell 0;have y11:=hX2.cell 11;have y12:=hX2.cell 12;have y13:=hX2.cell 13;have y14:=hX2.cell 14;simp only [List.getElem?_toArray,List.getElem?_cons_zero,List.getElem?_cons_succ] at y0 y11 y12 y13 y14) | (go_at_call 152;refine (HPP.out _).mono ?_;rintro e w3 ⟨rfl,rfl⟩) | fail);go_ret2;exact ⟨by rw [E.out];rfl,HX.out.1.trans ((hb1.trans (hb2.mono hb1.size)).mono HX.out.1.size)⟩
   ·have ho:aC own=true:=by simpa using ho
    rw [ho] at HPP;rcases eD (aV gr al lim) with hd | ⟨⟨s,k⟩,hd⟩
    ·have HDD:=hide (fun (W:World) (hb:Below w.heap.size w W)=>show Calls Tryz.prog 153 #[.slice A9 gr.length c9,.slice A8 al.length c8,.int .i64 lim] W (fun e w'=>e=.returned (.tuple #[.int .i64 0,.string ⟨#[]⟩])∧Below W.heap.size W w') from by have:=HC2.out W hb;rwa [hd] at this)
     have E:=hide (show inC (dD [unl (vv != []) [118,101,114,115,105,111,110] 1,prR (prW ls),unl (aC own) [111,119,110] 5,bN (aV gr al lim)])=none from by rw [E0.out,ho,hd];rfl);clear ho E0 HC2 hd;go_enter Tryz.func88,Tryz.ntmps88;go_upto_region 1 with fail;rw [←hW0];clear hW0;refine wp_region_lit ?_;refine aK rfl (.tmp 1) rfl (by rfl) HX.out.2 rfl ?_;go_wp2_with (first | (go_at_call 149;refine (HV.out _).mono ?_;rintro e w1 ⟨rfl,hb1⟩;have hX1:=HX.out.2.below hb1 hlt0;have hl1:=hX1.lt;have z3:=hX1.cell 3;have z4:=hX1.cell 4;have z5:=hX1.cell 5;have z6:=hX1.cell 6;have z7:=hX1.cell 7;have z8:=hX1.cell 8;have z9:=hX1.cell 9;have z10:=hX1.cell 10;simp only [List.getElem?_toArray,List.getElem?_cons_zero,List.getElem?_cons_succ] at z3 z4 z5 z6 z7 z8 z9 z10) | (go_at_call 150;refine (HPK.out _ (HX.out.1.trans (hb1.mono HX.out.1.size))).mono ?_;rintro e w2 ⟨rfl,hb2⟩;have hX2:=hX1.below hb2 hl1;have hl2:=hX2.lt;have y0:=hX2.cell 0;have y11:=hX2.cell 11;have y12:=hX2.cell 12;have y13:=hX2.cell 13;have y14:=hX2.cell 14;simp only [List.getElem?_toArray,List.getElem?_cons_zero,List.getElem?_cons_succ] at y0 y11 y12 y13 y14) | (go_at_call 152;refine (HPP.out _).mono ?_;rintro e w3 ⟨rfl,rfl⟩) | (go_at_call 153;refine (HDD.out _ (HX.out.1.trans ((hb1.trans (hb2.mono hb1.size)).mono HX.out.1.size))).mono ?_;rintro e w4 ⟨rfl,hb4⟩) | fail);go_ret2;exact ⟨by rw [E.out];rfl,HX.out.1.trans ((hb1.trans ((hb2.trans (hb4.mono hb2.size)).mono hb1.size)).mono HX.out.1.size)⟩
    ·have hsk:=uz hd
     have hss:(bs s).size≤6:=hsk.2;have hqa:10+(bs s).size≤9223372036854775807:=by omega
     have hqb:10+(bs s).size+1≤9223372036854775807:=by omega
     have hk1:(k == 0)=false:=by rw [beq_eq_false_iff_ne];exact hsk.1
     have hk2:(k != 0)=true:=by simp [bne,hk1]
     have HDD:=hide (fun (W:World) (hb:Below w.heap.size w W)=>show Calls Tryz.prog 153 #[.slice A9 gr.length c9,.slice A8 al.length c8,.int .i64 lim] W (fun e w'=>e=.returned (.tuple #[.int .i64 k,.string (bs s)])∧Below W.heap.size W w') from by have:=HC2.out W hb;rwa [hd] at this);have E:=hide (show inC (dD [unl (vv != []) [118,101,114,115,105,111,110] 1,prR (prW ls),unl (aC own) [111,119,110] 5,bN (aV gr al lim)])=some ([[99,111,110,102],[100,101,110,121],s],k) from by rw [E0.out,ho,hd];rfl)
     have HS:=hide (show bs (atL [[99,111,110,102],[100,101,110,121],s])=(⟨#[99,111,110,102,32,100,101,110,121,32]⟩:ByteArray)++bs s++⟨#[32]⟩ from by
      refine (kV ?_).symm;rw [data_append,data_append,aU]
      simp [atL])
     clear ho E0 HC2 hd hsk;generalize bs s=sd at HDD HS hss hqa hqb;go_enter Tryz.func88,Tryz.ntmps88;go_upto_region 1 with fail;rw [←hW0];clear hW0;refine wp_region_lit ?_;refine aK rfl (.tmp 1) rfl (by rfl) HX.out.2 rfl ?_;go_wp2_with (first | (go_at_call 149;refine (HV.out _).mono ?_;rintro e w1 ⟨rfl,hb1⟩;have hX1:=HX.out.2.below hb1 hlt0;have hl1:=hX1.lt;have z3:=hX1.cell 3;have z4:=hX1.cell 4;have z5:=hX1.cell 5;have z6:=hX1.cell 6;have z7:=hX1.cell 7;have z8:=hX1.cell 8;have z9:=hX1.cell 9;have z10:=hX1.cell 10;simp only [List.getElem?_toArray,List.getElem?_cons_zero,List.getElem?_cons_succ] at z3 z4 z5 z6 z7 z8 z9 z10) | (go_at_call 150;refine (HPK.out _ (HX.out.1.trans (hb1.mono HX.out.1.size))).mono ?_;rintro e w2 ⟨rfl,hb2⟩;have hX2:=hX1.below hb2 hl1;have hl2:=hX2.lt;have y0:=hX2.cell 0;have y11:=hX2.cell 11;have y12:=hX2.cell 12;have y13:=hX2.cell 13;have y14:=hX2.cell 14;simp only [List.getElem?_toArray,List.getElem?_cons_zero,List.getElem?_cons_succ] at y0 y11 y12 y13 y14) | (go_at_call 152;refine (HPP.out _).mono ?_;rintro e w3 ⟨rfl,rfl⟩) | (go_at_call 153;refine (HDD.out _ (HX.out.1.trans ((hb1.trans (hb2.mono hb1.size)).mono HX.out.1.size))).mono ?_;rintro e w4 ⟨rfl,hb4⟩) | fail);go_ret2;exact ⟨by rw [E.out];show _=Ending.returned (.tuple #[.int .i64 k,.string (bs (atL [[99,111,110,102],[100,101,110,121],s]))]);rw [HS.out];rfl,HX.out.1.trans ((hb1.trans ((hb2.trans (hb4.mono hb2.size)).mono hb1.size)).mono HX.out.1.size)⟩
theorem Ma {ex ge:Bool} {sw cm us:List UInt8} {A0 A1 A2 A3 A4 A5 A6 A7 A8 A9 A10:Option Addr} {n0 n1 n2 n3 n4 n5 n6 n7 c0 c1 c2 c3 c4 c5 c6 c7 c8 c9 c10:Nat} {al:List (List UInt8)} {own lim peer q0 q1 q2:Int} {gr:List (List UInt8 × Int)} {ky:List Int} {ls:List (List (List UInt8))} (hC:CfM w sw cm us [.slice A0 n0 c0,.slice A1 n1 c1,.slice A2 n2 c2,.slice A3 n3 c3,.slice A4 n4 c4,.slice A5 n5 c5,.slice A6 n6 c6,.slice A7 n7 c7] ls A8 c8 al A9 gr A10 ky) (hq0:IntKind.i64.wrap q0=q0) (hq1:IntKind.i64.wrap q1=q1) (hq2:IntKind.i64.wrap q2=q2) :
  Calls Tryz.prog 88 #[.agg #[.bool false,.string (bs sw),.string (bs cm),.slice A0 n0 c0,.slice A1 n1 c1,.slice A2 n2 c2,.slice A3 n3 c3,.slice A4 n4 c4,.slice A5 n5 c5,.slice A6 n6 c6,.slice A7 n7 c7,.slice A8 al.length c8,.int .i64 own,.slice A9 gr.length c9,.int .i64 lim,.int .i64 peer,.string (bs us),.slice A10 ky.length c10,.bool ex,.bool ge,.int .u32 q0,.int .u32 q1,.int .u32 q2]] w (fun e w'=>e=.returned (.tuple #[.int .i64 (pz (inC (dD [unl (bR sw cm != []) [118,101,114,115,105,111,110] 1,prR (prW ls),unl (aC peer) [112,101,101,114] 5,unl (bO us) [117,115,101,114] 3,fG ky,bN (aV [] al 1),unl (aQ q0 q1 q2) [119,105,115,104] 5]))),.string (bs (tL (inC (dD [unl (bR sw cm != []) [118,101,114,115,105,111,110] 1,prR (prW ls),unl (aC peer) [112,101,101,114] 5,unl (bO us) [117,115,101,114] 3,fG ky,bN (aV [] al 1),unl (aQ q0 q1 q2) [119,105,115,104] 5]))))])∧Below w.heap.size w w'):=by
 obtain ⟨W0,hW0⟩:∃W0,W0=w.alloc (.cells #[.bool false,.string (bs sw),.string (bs cm),.slice A0 n0 c0,.slice A1 n1 c1,.slice A2 n2 c2,.slice A3 n3 c3,.slice A4 n4 c4,.slice A5 n5 c5,.slice A6 n6 c6,.slice A7 n7 c7,.slice A8 al.length c8,.int .i64 own,.slice A9 gr.length c9,.int .i64 lim,.int .i64 peer,.string (bs us),.slice A10 ky.length c10,.bool ex,.bool ge,.int .u32 q0,.int .u32 q1,.int .u32 q2] 30):=⟨_,rfl⟩
 have hb0:Below w.heap.size w W0:=by rw [hW0];exact aa
 have hX0:Blk W0 w.heap.size 30 #[.bool false,.string (bs sw),.string (bs cm),.slice A0 n0 c0,.slice A1 n1 c1,.slice A2 n2 c2,.slice A3 n3 c3,.slice A4 n4 c4,.slice A5 n5 c5,.slice A6 n6 c6,.slice A7 n7 c7,.slice A8 al.length c8,.int .i64 own,.slice A9 gr.length c9,.int .i64 lim,.int .i64 peer,.string (bs us),.slice A10 ky.length c10,.bool ex,.bool ge,.int .u32 q0,.int .u32 q1,.int .u32 q2]:=by rw [hW0];exact Blk.new w _ _
 have HV:=hide (fun (W:World)=>show Calls Tryz.prog 149 #[.agg #[.bool false,.string (bs sw),.string (bs cm),.slice A0 n0 c0,.slice A1 n1 c1,.slice A2 n2 c2,.slice A3 n3 c3,.slice A4 n4 c4,.slice A5 n5 c5,.slice A6 n6 c6,.slice A7 n7 c7,.slice A8 al.length c8,.int .i64 own,.slice A9 gr.length c9,.int .i64 lim,.int .i64 peer,.string (bs us),.slice A10 ky.length c10,.bool ex,.bool ge,.int .u32 q0,.int .u32 q1,.int .u32 q2]] W (fun e w'=>e=.returned (.string (bs (bR sw cm)))∧Below W.heap.size W w') from oG (w:=W) hC.hsw hC.hcm);have HP:=hide (fun (W:World) (hb:Below w.heap.size w W)=>qP (hC.hl8.below hb));have HC2:=hide (fun (W:World) (hb:Below w.heap.size w W)=>BP (sv:=false) (ex:=ex) (ge:=ge) (own:=own) (lim:=lim) (peer:=peer) (c9:=c9) (c10:=c10) (hC.below hb) hq0 hq1 hq2);have HX:=hide (And.intro hb0 hX0);have hlt0:=hX0.lt;have h8:=hC.hl8.2.1;clear hb0 hX0 hC hq0 hq1 hq2
 by_cases hv:bR sw cm=[]
 ·have hv1:=FB hv
  have E:=hide (show inC (dD [unl (bR sw cm != []) [118,101,114,115,105,111,110] 1,prR (prW ls),unl (aC peer) [112,101,101,114] 5,unl (bO us) [117,115,101,114] 3,fG ky,bN (aV [] al 1),unl (aQ q0 q1 q2) [119,105,115,104] 5])=some ([[99,111,110,102],[118,101,114,115,105,111,110]],1) from by rw [hv];rfl);clear hv;generalize bR sw cm=vv at HV E hv1 ⊢;go_enter Tryz.func88,Tryz.ntmps88;go_upto_region 1 with fail;rw [←hW0];clear hW0;refine wp_region_lit ?_;refine aK rfl (.tmp 1) rfl (by rfl) HX.out.2 rfl ?_;go_wp2_with (first | (go_at_call 149;refine (HV.out _).mono ?_;rintro e w1 ⟨rfl,hb1⟩;have hX1:=HX.out.2.below hb1 hlt0;have hl1:=hX1.lt;have z3:=hX1.cell 3;have z4:=hX1.cell 4;have z5:=hX1.cell 5;have z6:=hX1.cell 6;have z7:=hX1.cell 7;have z8:=hX1.cell 8;have z9:=hX1.cell 9;have z10:=hX1.cell 10;simp only [List.getElem?_toArray,List.getElem?_cons_zero,List.getElem?_cons_succ] at z3 z4 z5 z6 z7 z8 z9 z10) | fail);go_ret2;exact ⟨by rw [E.out];rfl,HX.out.1.trans (hb1.mono HX.out.1.size)⟩
 ·have hv1:=Ld hv
  have hv2:=Ko hv;rcases eD (prW ls) with hp | ⟨⟨i,k⟩,hp⟩
  rotate_left 1
  ·have hik:=sD hp
   have HPK:=hide (fun (W:World) (hb:Below w.heap.size w W)=>show Calls Tryz.prog 150 #[.agg #[.slice A0 n0 c0,.slice A1 n1 c1,.slice A2 n2 c2,.slice A3 n3 c3,.slice A4 n4 c4,.slice A5 n5 c5,.slice A6 n6 c6,.slice A7 n7 c7]] W (fun e w'=>e=.returned (.tuple #[.int .i64 k,.int .i64 i])∧Below W.heap.size W w') from by have:=HP.out W hb;rwa [hp] at this);have HWd:=hide (fun (W:World)=>xC i (by omega) W);have hw6:=pX i;have hws:(bs (fT i)).size≤6:=hw6;have hqa:11+(bs (fT i)).size≤9223372036854775807:=by omega
   have hqb:11+(bs (fT i)).size+1≤9223372036854775807:=by omega
   have E:=hide (show inC (dD [unl (bR sw cm != []) [118,101,114,115,105,111,110] 1,prR (prW ls),unl (aC peer) [112,101,101,114] 5,unl (bO us) [117,115,101,114] 3,fG ky,bN (aV [] al 1),unl (aQ q0 q1 q2) [119,105,115,104] 5])=some ([[99,111,110,102],[112,114,101,102,115],fT i],k) from by rw [hv2,xE,hp];rfl)
   have HS:=hide (show bs (atL [[99,111,110,102],[112,114,101,102,115],fT i])=(⟨#[99,111,110,102,32,112,114,101,102,115,32]⟩:ByteArray)++bs (fT i)++⟨#[32]⟩ from by
    refine (kV ?_).symm;rw [data_append,data_append,aU]
    simp [atL])
   have hk1:(k == 0)=false:=by rw [beq_eq_false_iff_ne];exact hik.1
   have hk2:(k != 0)=true:=by simp [bne,hk1]
   clear hv hp HP hik hw6 HC2;generalize bR sw cm=vv at HV E hv1 hv2 ⊢;generalize bs (fT i)=wd at HWd HS hws hqa hqb;go_enter Tryz.func88,Tryz.ntmps88;go_upto_region 1 with fail;rw [←hW0];clear hW0;refine wp_region_lit ?_;refine aK rfl (.tmp 1) rfl (by rfl) HX.out.2 rfl ?_;go_wp2_with (first | (go_at_call 149;refine (HV.out _).mono ?_;rintro e w1 ⟨rfl,hb1⟩;have hX1:=HX.out.2.below hb1 hlt0;have hl1:=hX1.lt;have z3:=hX1.cell 3;have z4:=hX1.cell 4;have z5:=hX1.cell 5;have z6:=hX1.cell 6;have z7:=hX1.cell 7;have z8:=hX1.cell 8;have z9:=hX1.cell 9;have z10:=hX1.cell 10;simp only [List.getElem?_toArray,List.getElem?_cons_zero,List.getElem?_cons_succ] at z3 z4 z5 z6 z7 z8 z9 z10) | (go_at_call 150;refine (HPK.out _ (HX.out.1.trans (hb1.mono HX.out.1.size))).mono ?_;rintro e w2 ⟨rfl,hb2⟩;have hX2:=hX1.below hb2 hl1;have hl2:=hX2.lt;have y0:=hX2.cell 0;have y11:=hX2.cell 11;have y12:=hX2.cell 12;have y13:=hX2.cell 13;have y14:=hX2.cell 14;simp only [List.getElem?_toArray,List.getElem?_cons_zero,List.getElem?_cons_succ] at y0 y11 y12 y13 y14) | (go_at_call 151;refine (HWd.out _).mono ?_;rintro e w3 ⟨rfl,hb3⟩) | fail);go_ret2;exact ⟨by rw [E.out];show _=Ending.returned (.tuple #[.int .i64 k,.string (bs (atL [[99,111,110,102],[112,114,101,102,115],fT i]))]);rw [HS.out];rfl,HX.out.1.trans ((hb1.trans ((hb2.trans (hb3.mono hb2.size)).mono hb1.size)).mono HX.out.1.size)⟩
  ·have HPK:=hide (fun (W:World) (hb:Below w.heap.size w W)=>show Calls Tryz.prog 150 #[.agg #[.slice A0 n0 c0,.slice A1 n1 c1,.slice A2 n2 c2,.slice A3 n3 c3,.slice A4 n4 c4,.slice A5 n5 c5,.slice A6 n6 c6,.slice A7 n7 c7]] W (fun e w'=>e=.returned (.tuple #[.int .i64 0,.int .i64 (-1)])∧Below W.heap.size W w') from by have:=HP.out W hb;rwa [hp] at this)
   have E0:=hide (show inC (dD [unl (bR sw cm != []) [118,101,114,115,105,111,110] 1,prR (prW ls),unl (aC peer) [112,101,101,114] 5,unl (bO us) [117,115,101,114] 3,fG ky,bN (aV [] al 1),unl (aQ q0 q1 q2) [119,105,115,104] 5])=inC (dD [unl (aC peer) [112,101,101,114] 5,unl (bO us) [117,115,101,114] 3,fG ky,bN (aV [] al 1),unl (aQ q0 q1 q2) [119,105,115,104] 5]) from by rw [hv2,xE,hp];rfl);clear hv hp HP;generalize bR sw cm=vv at HV E0 hv1 hv2 ⊢;rw [E0.out];have HC3:=hide (fun (W:World) (hb:Below w.heap.size w W)=>show Calls Tryz.prog 154 #[.agg #[.bool false,.string (bs sw),.string (bs cm),.slice A0 n0 c0,.slice A1 n1 c1,.slice A2 n2 c2,.slice A3 n3 c3,.slice A4 n4 c4,.slice A5 n5 c5,.slice A6 n6 c6,.slice A7 n7 c7,.slice A8 al.length c8,.int .i64 own,.slice A9 gr.length c9,.int .i64 lim,.int .i64 peer,.string (bs us),.slice A10 ky.length c10,.bool ex,.bool ge,.int .u32 q0,.int .u32 q1,.int .u32 q2]] W (fun e w'=>e=.returned (.tuple #[.int .i64 (pz (inC (dD [unl (aC peer) [112,101,101,114] 5,unl (bO us) [117,115,101,114] 3,fG ky,bN (aV [] al 1),unl (aQ q0 q1 q2) [119,105,115,104] 5]))),.string (bs (tL (inC (dD [unl (aC peer) [112,101,101,114] 5,unl (bO us) [117,115,101,114] 3,fG ky,bN (aV [] al 1),unl (aQ q0 q1 q2) [119,105,115,104] 5]))))])∧Below W.heap.size W w') from HC2.out W hb);clear HC2 E0;generalize pz (inC (dD [unl (aC peer) [112,101,101,114] 5,unl (bO us) [117,115,101,114] 3,fG ky,bN (aV [] al 1),unl (aQ q0 q1 q2) [119,105,115,104] 5]))=kk at HC3 ⊢;generalize bs (tL (inC (dD [unl (aC peer) [112,101,101,114] 5,unl (bO us) [117,115,101,114] 3,fG ky,bN (aV [] al 1),unl (aQ q0 q1 q2) [119,105,115,104] 5])))=ss at HC3 ⊢
   generalize hcv:(#[.bool false,.string (bs sw),.string (bs cm),.slice A0 n0 c0,.slice A1 n1 c1,.slice A2 n2 c2,.slice A3 n3 c3,.slice A4 n4 c4,.slice A5 n5 c5,.slice A6 n6 c6,.slice A7 n7 c7,.slice A8 al.length c8,.int .i64 own,.slice A9 gr.length c9,.int .i64 lim,.int .i64 peer,.string (bs us),.slice A10 ky.length c10,.bool ex,.bool ge,.int .u32 q0,.int .u32 q1,.int .u32 q2]:Array Value)=cv at HV HC3 HX hW0 ⊢;have hcl:cv.toList.length=23:=by rw [←hcv];rfl
   have hc0:cv[0]?=some (.bool false):=by rw [←hcv];rfl
   have hc3:cv[3]?=some (.slice A0 n0 c0):=by rw [←hcv];rfl
   have hc4:cv[4]?=some (.slice A1 n1 c1):=by rw [←hcv];rfl
   have hc5:cv[5]?=some (.slice A2 n2 c2):=by rw [←hcv];rfl
   have hc6:cv[6]?=some (.slice A3 n3 c3):=by rw [←hcv];rfl
   have hc7:cv[7]?=some (.slice A4 n4 c4):=by rw [←hcv];rfl
   have hc8:cv[8]?=some (.slice A5 n5 c5):=by rw [←hcv];rfl
   have hc9:cv[9]?=some (.slice A6 n6 c6):=by rw [←hcv];rfl
   have hc10:cv[10]?=some (.slice A7 n7 c7):=by rw [←hcv];rfl
   clear hcv;go_enter Tryz.func88,Tryz.ntmps88;go_upto_region 1 with fail;rw [←hW0];clear hW0;refine wp_region_lit ?_;refine bI rfl (.tmp 1) rfl (by rfl) HX.out.2 hcl ?_
   go_upto_region 13 with (first | (go_at_call 149;refine (HV.out _).mono ?_;rintro e w1 ⟨rfl,hb1⟩;have hX1:=HX.out.2.below hb1 hlt0;have hl1:=hX1.lt;have z3:=(hX1.cell 3).trans hc3;have z4:=(hX1.cell 4).trans hc4;have z5:=(hX1.cell 5).trans hc5;have z6:=(hX1.cell 6).trans hc6;have z7:=(hX1.cell 7).trans hc7;have z8:=(hX1.cell 8).trans hc8;have z9:=(hX1.cell 9).trans hc9;have z10:=(hX1.cell 10).trans hc10) | (go_at_call 150;refine (HPK.out _ (HX.out.1.trans (hb1.mono HX.out.1.size))).mono ?_;rintro e w2 ⟨rfl,hb2⟩;have hX2:=hX1.below hb2 hl1;have hl2:=hX2.lt;have hb12:=hb1.trans (hb2.mono hb1.size);have y0:=(hX2.cell 0).trans hc0) | fail)
   refine wp_region_lit ?_;refine bI rfl (.tmp 1) rfl (by rfl) hX2 hcl ?_;go_wp2_with (first | (go_at_call 154;refine (HC3.out _ (HX.out.1.trans (hb12.mono HX.out.1.size))).mono ?_;rintro e w5 ⟨rfl,hb5⟩) | fail);go_ret2;exact ⟨rfl,HX.out.1.trans (hb12.trans (hb5.mono hb12.size) |>.mono HX.out.1.size)⟩
end
end Go.Proofs.YtnhekaepgpbijaaGreatDoor
