/- Several of my texts in one: CfE, CfF, CfK. -/
import Derived.Test.YtnhekaepgpbijaaGreatDoorJCfDG
import Derived.Test.YtnhekaepgpbijaaGreatDoorJKx6G
import Derived.Test.YtnhekaepgpbijaaGreatDoorJAsG
set_option linter.unusedVariables false
set_option linter.unusedSimpArgs false
set_option maxHeartbeats 40000000
set_option maxRecDepth 100000
namespace Go.Proofs.YtnhekaepgpbijaaGreatDoor
open Go.RowKit Go.ChangeShapes Go.WideShapes Go.Sort
def GrC (w:World) (A:Option Addr) (gs:List (List UInt8 × Int)):Prop:=∀k,(hk:k<gs.length)→∃ad,A=some ad∧ad.block<w.heap.size∧w.cell? (ad.add (k*2))=some (.string (bs gs[k].1))∧w.cell? ⟨(ad.add (k*2)).block,(ad.add (k*2)).off+1,none⟩=some (.int .i64 gs[k].2)
def InC (w:World) (A:Option Addr) (ks:List Int):Prop:=∀k,(hk:k<ks.length)→∃ad,A=some ad∧ad.block<w.heap.size∧w.cell? (ad.add k)=some (.int .i64 ks[k])
theorem GrC.below {w w':World} {A:Option Addr} {gs:List (List UInt8 × Int)} (h:GrC w A gs) (hb:Below w.heap.size w w'):GrC w' A gs:=fun k hk=>by
 obtain ⟨ad,e,h1,h2,h3⟩:=h k hk;exact ⟨ad,e,Nat.lt_of_lt_of_le h1 hb.size,(hb.cell (p:=ad.add (k*2)) (by rw [ax];exact h1)).trans h2,(hb.cell (p:=⟨(ad.add (k*2)).block,(ad.add (k*2)).off+1,none⟩) (by show (ad.add (k*2)).block<_;rw [ax];exact h1)).trans h3⟩
theorem InC.below {w w':World} {A:Option Addr} {ks:List Int} (h:InC w A ks) (hb:Below w.heap.size w w'):InC w' A ks:=fun k hk=>by
 obtain ⟨ad,e,h1,h2⟩:=h k hk;exact ⟨ad,e,Nat.lt_of_lt_of_le h1 hb.size,(hb.cell (p:=ad.add k) (by rw [ax];exact h1)).trans h2⟩
def grF:List (List UInt8 × Int)→Int
 | []=>0
 | g :: r=>if bO g.1=false then 3 else if aC g.2=false then 5 else grF r
def grW (gs:List (List UInt8 × Int)):Int:=if 16<gs.length then 2 else grF gs
theorem AZ {gs:List (List UInt8 × Int)} {k:Nat} (hk:k<gs.length):grF (gs.drop k)=if bO gs[k].1=false then 3 else if aC gs[k].2=false then 5 else grF (gs.drop (k+1)):=by
 rw [List.drop_eq_getElem_cons hk];rfl
def oq (ks:List Int):Int:=if 8<ks.length then 2 else if ks.all aC=true then 0 else 5
theorem wV {n:Int} (h:n<0):aC n=false:=by unfold aC;rw [decide_eq_false (by omega)];rfl
theorem wL {n:Int} (h:15<n):aC n=false:=by unfold aC;rw [decide_eq_false (p:=n≤15) (by omega),Bool.and_false]
theorem xe {n:Int} (h:0≤n) (h2:n≤15):aC n=true:=by unfold aC;rw [decide_eq_true h,decide_eq_true h2];rfl
section
variable {w : World}
theorem Dy {A:Option Addr} {c:Nat} {gs:List (List UInt8 × Int)} (h:GrC w A gs) (hl:gs.length≤1000000) (hy:∀g∈gs,g.1.length≤1000000) :
  Calls Tryz.prog 247 #[.slice A gs.length c] w (fun e w'=>e=.returned (.int .i64 (grW gs))∧Below w.heap.size w w'):=by
 have HG:=hide h;have HY:=hide hy;clear h hy
 by_cases h16:16<gs.length
 ·have h16b:(16:Int)<gs.length:=by omega
  have E:=hide (show grW gs=2 from by unfold grW;rw [if_pos h16]);clear h16;go_enter Tryz.func247,Tryz.ntmps247;go_wp2_with fail;go_ret;exact ⟨by rw [E.out];rfl,Below.refl _ _⟩
 ·have h16b:¬ (16:Int)<gs.length:=by omega
  have HE:=hide (show grW gs=grF gs from by unfold grW;rw [if_neg h16]);clear h16;go_enter Tryz.func247,Tryz.ntmps247;go_wp2_with fail
  go_loopw [10] (fun i wr=>(∃k:Nat,k≤gs.length∧i=.int .i64 k∧Hid (grF gs=grF (gs.drop k)))∧Hid (Below w.heap.size w wr)) (fun i _=>gs.length - (intOf i).toNat)
  case atStart=>exact ⟨⟨0,Nat.zero_le _,rfl,hide rfl⟩,hide (Below.refl _ _)⟩
  case round =>
   obtain ⟨⟨k,hk,rfl,H⟩,HB⟩:=hrel
   by_cases hlt:k<gs.length
   ·have hltI:(k:Int)<gs.length:=by omega
    obtain ⟨ad,rfl,had,hc0,hc1⟩:=(HG.out.below HB.out) k hlt;have hus:=HY.out _ (List.getElem_mem hlt);have HF:=hide (H.out.trans (AZ hlt));generalize gs[k]=g at hc0 hc1 hus HF;obtain ⟨u,who⟩:=g;simp only at hc0 hc1 hus HF;have HU:=hide (fun W=>Aa (bs u) (Nat.le_trans hus (by decide)) W);rw [aU] at HU
    obtain ⟨w1,hw1⟩:∃w1,w1=wr.alloc (.cells #[.string (bs u),.int .i64 who] 158):=⟨_,rfl⟩
    have hb1:Below wr.heap.size wr w1:=by rw [hw1];exact aa
    have hB1:Blk w1 wr.heap.size 158 #[.string (bs u),.int .i64 who]:=by rw [hw1];exact Blk.new wr _ _
    have HBB:=hide (HB.out.trans (hb1.mono HB.out.size));have d0:=hB1.cell 0;have d1:=hB1.cell 1;simp at d0 d1;have hwlt:=hB1.lt;clear H hus hb1 hB1;go_upto_region 6 with fail;rw [←hw1];clear hw1
    cases hu:bO u with
    | false =>
     rw [hu] at HU;have E:=hide (show grW gs=3 from by rw [HE.out,HF.out,if_pos hu]);clear hu HF HE HG HY;go_wp2_with (first | (go_at_call 220;refine (HU.out _).mono ?_;rintro e w2 ⟨rfl,rfl⟩) | fail);go_ret;exact ⟨by rw [E.out];rfl,HBB.out⟩
    | true =>
     rw [hu] at HU
     by_cases h1:who<0
     ·have E:=hide (show grW gs=5 from by rw [HE.out,HF.out,if_neg (by rw [hu];decide),if_pos (wV h1)])
      clear hu HF HE HG HY;go_wp2_with (first | (go_at_call 220;refine (HU.out _).mono ?_;rintro e w2 ⟨rfl,rfl⟩) | fail);go_ret;exact ⟨by rw [E.out];rfl,HBB.out⟩
     ·by_cases h2:16≤who
      ·have E:=hide (show grW gs=5 from by rw [HE.out,HF.out,if_neg (by rw [hu];decide),if_pos (wL (by omega))])
       clear hu HF HE HG HY;go_wp2_with (first | (go_at_call 220;refine (HU.out _).mono ?_;rintro e w2 ⟨rfl,rfl⟩) | fail);go_ret;exact ⟨by rw [E.out];rfl,HBB.out⟩
      ·have q1:decide (who<0)=false:=decide_eq_false h1
       have q2:decide (16≤who)=false:=decide_eq_false h2;have H2:=hide (show grF gs=grF (gs.drop (k+1)) from by rw [HF.out,if_neg (by rw [hu];decide),if_neg (by rw [xe (by omega) (by omega)];decide)]);clear hu HF HG HY;go_wp2_with (first | (go_at_call 220;refine (HU.out _).mono ?_;rintro e w2 ⟨rfl,rfl⟩) | fail);go_roundw
       case rel=>exact ⟨⟨k+1,hlt,by go_num,H2⟩,HBB⟩
       case measure=>simp [intOf];omega
   ·have hltI:¬ (k:Int)<gs.length:=by omega
    have E:=hide (show grW gs=0 from by rw [HE.out,H.out,List.drop_of_length_le (by omega)];rfl);clear H HG HY HE;go_wp2_with fail;go_ret;exact ⟨by rw [E.out];rfl,HB.out⟩
def eX (o:Option (List (List UInt8) × Int)) (w:World) (e:Ending) (w':World):Prop :=
 Below w.heap.size w w'∧match o with
  | none=>e=.returned .nilIface
  | some (ps,k)=>∃b,e=.returned (aH b)∧aT w' (aH b) ps k
theorem qa {P:Program} {f:FuncId} {args:Array Value} (h:Calls P f args w (eX none w)):Calls P f args w (fun e w'=>e=.returned .nilIface∧Below w.heap.size w w'):=h.mono fun _ _ h=>⟨h.2,h.1⟩
theorem xg {P:Program} {f:FuncId} {args:Array Value} {ps:List (List UInt8)} {k:Int} (h:Calls P f args w (eX (some (ps,k)) w)):Calls P f args w (fun e w'=>∃b,e=.returned (aH b)∧aT w' (aH b) ps k∧Below w.heap.size w w'):=h.mono fun _ _ h=>let ⟨b,h1,h2⟩:=h.2;⟨b,h1,h2,h.1⟩
theorem si {o:Option (List (List UInt8) × Int)} {w':World} {e:Ending} (h:o=none) (hb:Below w.heap.size w w') (he:e=.returned .nilIface):eX o w e w':=by subst h;exact ⟨hb,he⟩
theorem zA {o:Option (List (List UInt8) × Int)} {ps:List (List UInt8)} {k:Int} {w':World} {e:Ending} {b:Nat} (h:o=some (ps,k)) (hb:Below w.heap.size w w') (he:e=.returned (aH b)) (hi:aT w' (aH b) ps k):eX o w e w':=by subst h;exact ⟨hb,b,he,hi⟩
def MX:List UInt8:=[107,101,121,115]
def fG (ks:List Int):Option (List (List UInt8) × Int):=if oq ks=0 then none else some ([MX],oq ks)
theorem EN {ks:List Int} (h:oq ks=2):fG ks=some ([MX],2):=by unfold fG;rw [h];rfl
theorem EY {ks:List Int} (h:oq ks=5):fG ks=some ([MX],5):=by unfold fG;rw [h];rfl
theorem LQ {ks:List Int} (h:oq ks=0):fG ks=none:=by unfold fG;rw [h];rfl
theorem yu {ks:List Int} (h8:¬ 8<ks.length) {n:Int} (hn:n∈ks) (h:aC n=false):oq ks=5:=by unfold oq;rw [if_neg h8,nU hn h];rfl
theorem zK {ks:List Int} (h8:¬ 8<ks.length) (h:∀n∈ks,aC n=true):oq ks=0:=by unfold oq;rw [if_neg h8,if_pos (List.all_eq_true.2 h)]
theorem L6 {A:Option Addr} {c:Nat} {ks:List Int} (h:InC w A ks) (hl:ks.length≤1000000) :
  Calls Tryz.prog 222 #[.slice A ks.length c] w (eX (fG ks) w):=by
 have HG:=hide h;have HO2:=hide (fun (W:World)=>bH ⟨#[107,101,121,115]⟩ 2 (by decide) W);have HO5:=hide (fun (W:World)=>bH ⟨#[107,101,121,115]⟩ 5 (by decide) W);clear h
 by_cases h8:8<ks.length
 ·have h8b:(8:Int)<ks.length:=by omega
  have E:=hide (EN (show oq ks=2 from by unfold oq;rw [if_pos h8]));clear h8;rw [E.out];go_enter Tryz.func222,Tryz.ntmps222;go_wp2_with (first | (go_at_call 43;refine (HO2.out _).mono ?_;rintro e w2 ⟨b,rfl,hi,hb⟩) | fail);go_ret;exact ⟨hb,b,rfl,hi⟩
 ·have h8b:¬ (8:Int)<ks.length:=by omega
  have Hno:=hide (fun n (hn:n∈ks)=>yu h8 hn);have Hyes:=hide (zK h8);clear h8;go_enter Tryz.func222,Tryz.ntmps222;go_wp2_with fail
  go_loop [11] (fun i=>∃k:Nat,k≤ks.length∧i=.int .i64 k∧Hid (∀n∈ks.take k,aC n=true)) (fun i=>ks.length - (intOf i).toNat)
  case atStart=>exact ⟨0,Nat.zero_le _,rfl,hide (by simp)⟩
  case round =>
   obtain ⟨k,hk,rfl,H⟩:=hrel
   by_cases hlt:k<ks.length
   ·have hltI:(k:Int)<ks.length:=by omega
    obtain ⟨ad,rfl,had,hc0⟩:=HG.out k hlt;have HP:=hide (qB ks[k] w)
    cases hp:aC ks[k] with
    | false =>
     rw [hp] at HP;have E:=hide (EY (Hno.out _ (List.getElem_mem hlt) hp));clear hp H HG Hno Hyes;go_wp2_with (first | (go_at_call 216;refine HP.out.mono ?_;rintro e w1 ⟨rfl,rfl⟩) | (go_at_call 43;refine (HO5.out _).mono ?_;rintro e w2 ⟨b,rfl,hi,hb⟩) | fail);go_ret;exact zA E.out hb rfl hi
    | true =>
     rw [hp] at HP
     have H2:=hide (show ∀n∈ks.take (k+1),aC n=true from by
      intro x hx;rw [List.take_succ_eq_append_getElem hlt] at hx;rcases List.mem_append.1 hx with hx | hx
      ·exact H.out x hx
      ·simp only [List.mem_singleton] at hx
       subst hx
       exact hp)
     clear hp H HG Hno Hyes;go_wp2_with (first | (go_at_call 216;refine HP.out.mono ?_;rintro e w1 ⟨rfl,rfl⟩) | fail);go_round
     case rel=>exact ⟨k+1,hlt,by go_num,H2⟩
     case measure=>simp [intOf];omega
   ·have hltI:¬ (k:Int)<ks.length:=by omega
    have E:=hide (LQ (Hyes.out (fun n hn=>H.out n (by rw [List.take_of_length_le (by omega)];exact hn))));clear H HG Hno Hyes;go_wp2_with fail;go_ret;exact si E.out (Below.refl _ _) rfl
def aV (gs:List (List UInt8 × Int)) (al:List (List UInt8)) (lim:Int):Option (List UInt8 × Int) :=
 if grW gs≠0 then some ([103,114,97,110,116,115],grW gs) else if df al≠0 then some ([97,108,103,115],df al) else if lim<1∨20<lim then some ([108,105,109,105,116],5) else none
def bN (o:Option (List UInt8 × Int)):Option (List (List UInt8) × Int):=o.map fun x=>([[100,101,110,121],x.1],x.2)
theorem oQ {gs:List (List UInt8 × Int)} (al:List (List UInt8)) (lim:Int) (h:grW gs≠0):aV gs al lim=some ([103,114,97,110,116,115],grW gs):=by unfold aV;rw [if_pos h]
theorem rJ {gs:List (List UInt8 × Int)} {al:List (List UInt8)} (lim:Int) (h:grW gs=0) (h2:df al≠0):aV gs al lim=some ([97,108,103,115],df al):=by unfold aV;rw [if_neg (by rw [h];decide),if_pos h2]
theorem rG {gs:List (List UInt8 × Int)} {al:List (List UInt8)} {lim:Int} (h:grW gs=0) (h2:df al=0) (h3:lim<1∨20<lim):aV gs al lim=some ([108,105,109,105,116],5):=by unfold aV;rw [if_neg (by rw [h];decide),if_neg (by rw [h2];decide),if_pos h3]
theorem zl {gs:List (List UInt8 × Int)} {al:List (List UInt8)} {lim:Int} (h:grW gs=0) (h2:df al=0) (h3:¬ (lim<1∨20<lim)):aV gs al lim=none:=by unfold aV;rw [if_neg (by rw [h];decide),if_neg (by rw [h2];decide),if_neg h3]
theorem BC {A B:Option Addr} {c d:Nat} {gs:List (List UInt8 × Int)} {al:List (List UInt8)} {lim:Int} (h:GrC w A gs) (hl:gs.length≤1000000) (hy:∀g∈gs,g.1.length≤1000000)
  (h2:Txs w (.slice B al.length d) al) (hc2:al.length≤d) (hl2:al.length≤1000000) (hy2:∀y∈al,y.length≤1000000) :
  Calls Tryz.prog 186 #[.slice A gs.length c,.slice B al.length d,.int .i64 lim] w (eX (bN (aV gs al lim)) w):=by
 have HG:=hide (Dy (c:=c) h hl hy);have HA:=hide (fun (W:World) (hb:Below w.heap.size w W)=>KZ (h2.below hb) hc2 hl2 hy2);have HT:=hide (fun (W:World) (s:ByteArray) (b:Nat) (ps:List (List UInt8)) (k:Int) (h:aT W (aH b) ps k)=>kL s b h);clear h hl hy h2 hc2 hl2 hy2;generalize gs.length=n1 at HG ⊢;generalize al.length=n2 at HA ⊢
 by_cases hg:grW gs=0
 ·rw [hg] at HG
  by_cases ha:df al=0
  ·rw [ha] at HA
   by_cases h1:lim<1
   ·have HO:=hide (fun (W:World)=>bH ⟨#[108,105,109,105,116]⟩ 5 (by decide) W)
    rw [rG hg ha (.inl h1)];clear hg ha;go_enter Tryz.func186,Tryz.ntmps186;go_wp2_with (first | (go_at_call 247;refine HG.out.mono ?_;rintro e w1 ⟨rfl,hb1⟩) | (go_at_call 248;refine (HA.out _ hb1).mono ?_;rintro e w2 ⟨rfl,hb2⟩;have hb4:=hb1.trans (hb2.mono hb1.size)) | (go_at_call 43;refine (HO.out _).mono ?_;rintro e w3 ⟨b,rfl,hi,hb3⟩;have HT2:=hide (HT.out _ ⟨#[100,101,110,121]⟩ b _ _ hi);unfold aH at HT2;try unfold aH) | (go_at_call 47;refine HT2.out.mono ?_;rintro e w5 ⟨b2,rfl,hi2,hb5⟩;have hb6:=hb3.trans (hb5.mono hb3.size)) | fail);go_ret;exact ⟨hb4.trans (hb6.mono hb4.size),_,rfl,hi2⟩
   ·by_cases h2:20<lim
    ·have HO:=hide (fun (W:World)=>bH ⟨#[108,105,109,105,116]⟩ 5 (by decide) W)
     rw [rG hg ha (.inr h2)];clear hg ha;go_enter Tryz.func186,Tryz.ntmps186;go_wp2_with (first | (go_at_call 247;refine HG.out.mono ?_;rintro e w1 ⟨rfl,hb1⟩) | (go_at_call 248;refine (HA.out _ hb1).mono ?_;rintro e w2 ⟨rfl,hb2⟩;have hb4:=hb1.trans (hb2.mono hb1.size)) | (go_at_call 43;refine (HO.out _).mono ?_;rintro e w3 ⟨b,rfl,hi,hb3⟩;have HT2:=hide (HT.out _ ⟨#[100,101,110,121]⟩ b _ _ hi);unfold aH at HT2;try unfold aH) | (go_at_call 47;refine HT2.out.mono ?_;rintro e w5 ⟨b2,rfl,hi2,hb5⟩;have hb6:=hb3.trans (hb5.mono hb3.size)) | fail);go_ret;exact ⟨hb4.trans (hb6.mono hb4.size),_,rfl,hi2⟩
    ·have q1:decide (lim<1)=false:=decide_eq_false h1
     have q2:decide (20<lim)=false:=decide_eq_false h2;rw [zl hg ha (by rintro (e | e);exact h1 e;exact h2 e)];clear hg ha;go_enter Tryz.func186,Tryz.ntmps186;go_wp2_with (first | (go_at_call 247;refine HG.out.mono ?_;rintro e w1 ⟨rfl,hb1⟩) | (go_at_call 248;refine (HA.out _ hb1).mono ?_;rintro e w2 ⟨rfl,hb2⟩;have hb4:=hb1.trans (hb2.mono hb1.size)) | fail);go_ret;exact ⟨hb4,rfl⟩
  ·have ha1:(df al == 0)=false:=by rw [beq_eq_false_iff_ne];exact ha
   have ha2:(df al != 0)=true:=by simp [bne,ha1]
   have HO:=hide (fun (W:World)=>bH ⟨#[97,108,103,115]⟩ (df al) ha1 W);rw [rJ lim hg ha];clear hg ha;generalize df al=z at HA HO ha1 ha2 ⊢;go_enter Tryz.func186,Tryz.ntmps186;go_wp2_with (first | (go_at_call 247;refine HG.out.mono ?_;rintro e w1 ⟨rfl,hb1⟩) | (go_at_call 248;refine (HA.out _ hb1).mono ?_;rintro e w2 ⟨rfl,hb2⟩;have hb4:=hb1.trans (hb2.mono hb1.size)) | (go_at_call 43;refine (HO.out _).mono ?_;rintro e w3 ⟨b,rfl,hi,hb3⟩;have HT2:=hide (HT.out _ ⟨#[100,101,110,121]⟩ b _ _ hi);unfold aH at HT2;try unfold aH) | (go_at_call 47;refine HT2.out.mono ?_;rintro e w5 ⟨b2,rfl,hi2,hb5⟩;have hb6:=hb3.trans (hb5.mono hb3.size)) | fail);go_ret;exact ⟨hb4.trans (hb6.mono hb4.size),_,rfl,hi2⟩
 ·have ha1:(grW gs == 0)=false:=by rw [beq_eq_false_iff_ne];exact hg
  have ha2:(grW gs != 0)=true:=by simp [bne,ha1]
  have HO:=hide (fun (W:World)=>bH ⟨#[103,114,97,110,116,115]⟩ (grW gs) ha1 W);rw [oQ al lim hg];clear hg;generalize grW gs=z at HG HO ha1 ha2 ⊢;go_enter Tryz.func186,Tryz.ntmps186;go_wp2_with (first | (go_at_call 247;refine HG.out.mono ?_;rintro e w1 ⟨rfl,hb4⟩) | (go_at_call 43;refine (HO.out _).mono ?_;rintro e w3 ⟨b,rfl,hi,hb3⟩;have HT2:=hide (HT.out _ ⟨#[100,101,110,121]⟩ b _ _ hi);unfold aH at HT2;try unfold aH) | (go_at_call 47;refine HT2.out.mono ?_;rintro e w5 ⟨b2,rfl,hi2,hb5⟩;have hb6:=hb3.trans (hb5.mono hb3.size)) | fail);go_ret;exact ⟨hb4.trans (hb6.mono hb4.size),_,rfl,hi2⟩
end
def prF:Nat→List (List (List UInt8))→Option (Nat × Int)
 | _,[]=>none
 | i,l :: r=>if dC l (i == 0)≠0 then some (i,dC l (i == 0)) else prF (i+1) r
def prW (ls:List (List (List UInt8))):Option (Nat × Int):=prF 0 ls
def prR (o:Option (Nat × Int)):Option (List (List UInt8) × Int):=o.map fun x=>([[112,114,101,102,115],fT x.1],x.2)
theorem KM {ls:List (List (List UInt8))} {k:Nat} (hk:k<ls.length) (h:dC ls[k] (k == 0)≠0):prF k (ls.drop k)=some (k,dC ls[k] (k == 0)):=by
 rw [List.drop_eq_getElem_cons hk];unfold prF;rw [if_pos h]
theorem M3 {ls:List (List (List UInt8))} {k:Nat} (hk:k<ls.length) (h:dC ls[k] (k == 0)=0):prF k (ls.drop k)=prF (k+1) (ls.drop (k+1)):=by
 rw [List.drop_eq_getElem_cons hk]
 conv=>lhs;unfold prF
 rw [if_neg (by rw [h];decide)]
theorem Gc {ls:List (List (List UInt8))} {k:Nat} (hk:ls.length≤k):prF k (ls.drop k)=none:=by
 rw [List.drop_of_length_le hk];rfl
def vI (w:World) (g:Nat) (ls:List (List (List UInt8))):Prop:=ls.length=8∧g<w.heap.size∧∀i,(hi:i<ls.length)→∃A c,w.cell? ⟨g,i,none⟩=some (.slice A ls[i].length c)∧Txs w (.slice A ls[i].length c) ls[i]∧ls[i].length≤c
theorem vI.below {w w':World} {g:Nat} {ls:List (List (List UInt8))} (h:vI w g ls) (hb:Below w.heap.size w w'):vI w' g ls :=
 ⟨h.1,Nat.lt_of_lt_of_le h.2.1 hb.size,fun i hi=>let ⟨A,c,h1,h2,h3⟩:=h.2.2 i hi;⟨A,c,(hb.cell (p:=⟨g,i,none⟩) h.2.1).trans h1,h2.below hb,h3⟩⟩
def pJ (w:World) (vs:List Value) (ls:List (List (List UInt8))):Prop:=vs.length=8∧ls.length=8∧∀(i:Nat) v l,vs[i]?=some v→ls[i]?=some l→Txc w v l∧l.length≤1000000∧∀y∈l,y.length≤1000000
theorem pJ.below {w w':World} {vs:List Value} {ls:List (List (List UInt8))} (h:pJ w vs ls) (hb:Below w.heap.size w w'):pJ w' vs ls :=
 ⟨h.1,h.2.1,fun i v l h1 h2=>⟨(h.2.2 i v l h1 h2).1.below hb,(h.2.2 i v l h1 h2).2⟩⟩
theorem pJ.allS {w:World} {vs:List Value} {ls:List (List (List UInt8))} (h:pJ w vs ls):iZ 0 w vs (ls.map bss):=by
 refine ⟨by rw [List.length_map,h.1,h.2.1],fun i v s h1 h2=>?_⟩;rw [List.getElem?_map,Option.map_eq_some_iff] at h2;obtain ⟨l,hl,rfl⟩:=h2;have:=h.2.2 i v l h1 hl;exact ⟨this.1.1,by rw [bss,List.length_map];omega⟩
theorem pJ.small {w:World} {vs:List Value} {ls:List (List (List UInt8))} (h:pJ w vs ls):∀l∈ls,l.length≤1000000∧∀y∈l,y.length≤1000000:=by
 intro l hl;obtain ⟨i,hi,rfl⟩:=List.mem_iff_getElem.1 hl;have hv:i<vs.length:=by have:=h.1;have:=h.2.1;omega
 exact (h.2.2 i _ _ (List.getElem?_eq_getElem hv) (List.getElem?_eq_getElem hi)).2
theorem PL8.rowc {w w':World} {g:Nat} {ls:List (List (List UInt8))} (h:PL8 w g ls 8 w') (hl:ls.length=8):vI w' g ls:=by
 obtain ⟨vs,hB,hA,h0⟩:=h.row;obtain ⟨v0,l0,mid,e0,e1,ho,hlt,hgm,hmz,hre⟩:=h0 (by decide);refine ⟨hl,hB.lt,fun i hi=>?_⟩;have hv:i<vs.length:=by have:=hA.1;rw [List.length_map] at this;omega
 have hN:bG 0 w' vs[i] ls[i]:=by
  by_cases hi0:i=0
  ·subst hi0
   have e3:vs[0]=v0:=by rw [List.getElem?_eq_getElem hv] at e0;exact Option.some.inj e0
   have e4:ls[0]=l0:=by rw [List.getElem?_eq_getElem hi] at e1;exact Option.some.inj e1
   rw [e3,e4];obtain ⟨A',c',rfl⟩:=di ho;exact (pu ho rfl).mono (Nat.zero_le _)
  ·exact (hre i vs[i] ls[i] (by omega) (by omega) (List.getElem?_eq_getElem hv) (List.getElem?_eq_getElem hi)).mono (Nat.zero_le _)
 obtain ⟨A,c,e,hc,hS⟩:=id hN;have ht:=hN.txc.1;rw [e] at ht;refine ⟨A,c,?_,ht,hc⟩;rw [hB.cell i,← e];simp
section
variable {w : World}
theorem Gf {v0 v1 v2 v3 v4 v5 v6 v7:Value} {ls:List (List (List UInt8))} (h:pJ w [v0,v1,v2,v3,v4,v5,v6,v7] ls) :
  Calls Tryz.prog 142 #[.agg #[v0,v1,v2,v3,v4,v5,v6,v7]] w fun e w'=>∃g,e=.returned (.slice (some ⟨g,0,none⟩) 8 8)∧vI w' g ls∧Below w.heap.size w w' :=
 (Gx h.allS (fun l hl=>(h.small l hl).1)).mono fun _ _ h2=>let ⟨g,e,_,hP⟩:=h2;⟨g,e,hP.rowc h.2.1,hP.bel⟩
theorem OB {v0 v1 v2 v3 v4 v5 v6 v7:Value} {ls:List (List (List UInt8))} (h:pJ w [v0,v1,v2,v3,v4,v5,v6,v7] ls) :
  Calls Tryz.prog 137 #[.agg #[v0,v1,v2,v3,v4,v5,v6,v7]] w fun e w'=>∃g,e=.returned (.slice (some ⟨g,0,none⟩) 8 8)∧vI w' g ls∧Below w.heap.size w w':=by
 refine (sW w h.allS.sl8).mono ?_;rintro e w' ⟨rfl,hk,hb'⟩;refine ⟨_,rfl,⟨h.2.1,hk.lt,fun i hi=>?_⟩,hb'⟩;have hv:i<[v0,v1,v2,v3,v4,v5,v6,v7].length:=by have:=h.2.1;show i<8;omega
 have h2:=((h.below hb').2.2 i _ _ (List.getElem?_eq_getElem hv) (List.getElem?_eq_getElem hi)).1;obtain ⟨ht,A,c,e,hc⟩:=h2;refine ⟨A,c,?_,by rw [e] at ht;exact ht,hc⟩;rw [hk.cell i,← e];simp
theorem QV {k:Nat}:((k:Int) == 0)=(k == 0):=by
 rw [Bool.eq_iff_iff,beq_iff_eq,beq_iff_eq];omega
theorem CQ {v0 v1 v2 v3 v4 v5 v6 v7:Value} {ls:List (List (List UInt8))} (hM:fC w) (hW:gJ w) (h:pJ w [v0,v1,v2,v3,v4,v5,v6,v7] ls) :
  Calls Tryz.prog 214 #[.agg #[v0,v1,v2,v3,v4,v5,v6,v7]] w (eX (prR (prW ls)) w):=by
 obtain ⟨⟨A0,n0,c0,e0⟩,⟨A1,n1,c1,e1⟩,⟨A2,n2,c2,e2⟩,⟨A3,n3,c3,e3⟩,⟨A4,n4,c4,e4⟩,⟨A5,n5,c5,e5⟩,⟨A6,n6,c6,e6⟩,⟨A7,n7,c7,e7⟩⟩:=h.allS.sl8;subst e0 e1 e2 e3 e4 e5 e6 e7
 obtain ⟨W0,hW0⟩:∃W0,W0=w.alloc (.cells #[.slice A0 n0 c0,.slice A1 n1 c1,.slice A2 n2 c2,.slice A3 n3 c3,.slice A4 n4 c4,.slice A5 n5 c5,.slice A6 n6 c6,.slice A7 n7 c7] 24):=⟨_,rfl⟩
 have hb0:Below w.heap.size w W0:=by rw [hW0];exact aa
 have hB0:Blk W0 w.heap.size 24 #[.slice A0 n0 c0,.slice A1 n1 c1,.slice A2 n2 c2,.slice A3 n3 c3,.slice A4 n4 c4,.slice A5 n5 c5,.slice A6 n6 c6,.slice A7 n7 c7]:=by rw [hW0];exact Blk.new w _ _
 have h8:=h.2.1;have HL:=hide (Gf (h.below hb0));have HS:=hide h.small;have HV:=hide (fun (W:World) (hb:Below w.heap.size w W)=>And.intro (hM.below hb) (hW.below hb));have z0:=hB0.cell 0;have z1:=hB0.cell 1;have z2:=hB0.cell 2;have z3:=hB0.cell 3;have z4:=hB0.cell 4;have z5:=hB0.cell 5;have z6:=hB0.cell 6;have z7:=hB0.cell 7;simp at z0 z1 z2 z3 z4 z5 z6 z7;have HB0:=hide hb0;clear h hM hW hb0 hB0;go_enter Tryz.func214,Tryz.ntmps214;go_upto_region 1 with fail;rw [←hW0];clear hW0;go_wp2_with (first | (go_at_call 142;refine HL.out.mono ?_;rintro e w1 ⟨g,rfl,hR,hb1⟩) | fail);have HB1:=hide (HB0.out.trans (hb1.mono HB0.out.size));have HR:=hide hR;clear HL HB0 hb1 hR z0 z1 z2 z3 z4 z5 z6 z7
 go_loopw [9] (fun i wr=>(∃k:Nat,k≤8∧i=.int .i64 k∧Hid (prW ls=prF k (ls.drop k)))∧Hid (Below w.heap.size w wr∧vI wr g ls)) (fun i _=>8 - (intOf i).toNat)
 case atStart=>exact ⟨⟨0,Nat.zero_le _,rfl,hide rfl⟩,hide ⟨HB1.out,HR.out⟩⟩
 case round =>
  obtain ⟨⟨k,hk,rfl,H⟩,HB⟩:=hrel
  by_cases hlt:k<8
  ·have hltI:(k:Int)<8:=by omega
   have hkl:k<ls.length:=by omega
   obtain ⟨A,c,hc0,ht,hcc⟩:=HB.out.2.2.2 k hkl;have hg:=HB.out.2.2.1;have hs:=HS.out _ (List.getElem_mem hkl);have HG0:=hide (Ir (HV.out _ HB.out.1).2 k hlt);have HWr:=hide (C9 (HV.out _ HB.out.1).1 ht hcc hs.1 hs.2 (k == 0));have hkx:=QV (k:=k);have Hno:=hide (fun h=>KM hkl h);have Hgo:=hide (fun h=>M3 hkl h);clear ht hcc hs;generalize ls[k]=l at HWr hc0 Hno Hgo;generalize l.length=nl at HWr hc0;generalize hbw:bs (fT k)=wd at HG0
   by_cases hz:dC l (k == 0)=0
   ·rw [hz] at HWr
    have H2:=hide (H.out.trans (Hgo.out hz));have HN:=hide (fun (W:World)=>Gm wd W);clear hz Hno Hgo H hbw;generalize (k == 0)=kx at HWr hkx;go_wp2_with (first | (go_at_call 272;refine HG0.out.mono ?_;rintro e w2 ⟨rfl,rfl⟩) | (go_at_call 273;refine HWr.out.mono ?_;rintro e w3 ⟨rfl,hb3⟩) | (go_at_call 43;refine (HN.out _).mono ?_;rintro e w4 ⟨rfl,rfl⟩) | fail);have HB3:=hide (And.intro (HB.out.1.trans (hb3.mono HB.out.1.size)) (HB.out.2.below hb3));go_roundw
    case rel=>exact ⟨⟨k+1,hlt,by go_num,H2⟩,HB3⟩
    case measure=>simp [intOf];omega
   ·have hz1:(dC l (k == 0) == 0)=false:=by rw [beq_eq_false_iff_ne];exact hz
    have HO:=hide (fun (W:World)=>bH wd (dC l (k == 0)) hz1 W);have E:=hide (show prR (prW ls)=some ([[112,114,101,102,115],wd.data.toList],dC l (k == 0)) from by rw [H.out,Hno.out hz,← hbw];rfl);have HT:=hide (fun (W:World) (s:ByteArray) (b:Nat) (ps:List (List UInt8)) (k:Int) (h:aT W (aH b) ps k)=>kL s b h);clear hz Hno Hgo H hbw;generalize (k == 0)=kx at HWr hkx HO E hz1;generalize dC l kx=z at HWr HO E hz1;go_wp2_with (first | (go_at_call 272;refine HG0.out.mono ?_;rintro e w2 ⟨rfl,rfl⟩) | (go_at_call 273;refine HWr.out.mono ?_;rintro e w3 ⟨rfl,hb3⟩) | (go_at_call 43;refine (HO.out _).mono ?_;rintro e w4 ⟨b,rfl,hi,hb4⟩;have HT2:=hide (HT.out _ ⟨#[112,114,101,102,115]⟩ b _ _ hi);unfold aH at HT2;try unfold aH) | (go_at_call 47;refine HT2.out.mono ?_;rintro e w5 ⟨b2,rfl,hi2,hb5⟩) | fail);go_ret;have hb45:=hb4.trans (hb5.mono hb4.size);have hb35:=hb3.trans (hb45.mono hb3.size);exact zA E.out (HB.out.1.trans (hb35.mono HB.out.1.size)) rfl hi2
  ·have hltI:¬ (k:Int)<8:=by omega
   have E:=hide (show prR (prW ls)=none from by rw [H.out,Gc (by omega)];rfl);clear H;go_wp2_with fail;go_ret;exact si E.out HB.out.1 rfl
def prK (o:Option (Nat × Int)):Int:=match o with | none=>0 | some (_,k)=>k
def prI (o:Option (Nat × Int)):Int:=match o with | none=>-1 | some (i,_)=>i
theorem qP {v0 v1 v2 v3 v4 v5 v6 v7:Value} {ls:List (List (List UInt8))} (h:pJ w [v0,v1,v2,v3,v4,v5,v6,v7] ls) :
  Calls Tryz.prog 150 #[.agg #[v0,v1,v2,v3,v4,v5,v6,v7]] w (fun e w'=>e=.returned (.tuple #[.int .i64 (prK (prW ls)),.int .i64 (prI (prW ls))])∧Below w.heap.size w w'):=by
 obtain ⟨⟨A0,n0,c0,e0⟩,⟨A1,n1,c1,e1⟩,⟨A2,n2,c2,e2⟩,⟨A3,n3,c3,e3⟩,⟨A4,n4,c4,e4⟩,⟨A5,n5,c5,e5⟩,⟨A6,n6,c6,e6⟩,⟨A7,n7,c7,e7⟩⟩:=h.allS.sl8;subst e0 e1 e2 e3 e4 e5 e6 e7
 obtain ⟨W0,hW0⟩:∃W0,W0=w.alloc (.cells #[.slice A0 n0 c0,.slice A1 n1 c1,.slice A2 n2 c2,.slice A3 n3 c3,.slice A4 n4 c4,.slice A5 n5 c5,.slice A6 n6 c6,.slice A7 n7 c7] 24):=⟨_,rfl⟩
 have hb0:Below w.heap.size w W0:=by rw [hW0];exact aa
 have hB0:Blk W0 w.heap.size 24 #[.slice A0 n0 c0,.slice A1 n1 c1,.slice A2 n2 c2,.slice A3 n3 c3,.slice A4 n4 c4,.slice A5 n5 c5,.slice A6 n6 c6,.slice A7 n7 c7]:=by rw [hW0];exact Blk.new w _ _
 have h8:=h.2.1;have HL:=hide (OB (h.below hb0));have HS:=hide h.small;have z0:=hB0.cell 0;have z1:=hB0.cell 1;have z2:=hB0.cell 2;have z3:=hB0.cell 3;have z4:=hB0.cell 4;have z5:=hB0.cell 5;have z6:=hB0.cell 6;have z7:=hB0.cell 7;simp at z0 z1 z2 z3 z4 z5 z6 z7;have HB0:=hide hb0;clear h hb0 hB0;go_enter Tryz.func150,Tryz.ntmps150;go_upto_region 1 with fail;rw [←hW0];clear hW0;go_wp2_with (first | (go_at_call 137;refine HL.out.mono ?_;rintro e w1 ⟨g,rfl,hR,hb1⟩) | fail);have HB1:=hide (HB0.out.trans (hb1.mono HB0.out.size));have HR:=hide hR;clear HL HB0 hb1 hR z0 z1 z2 z3 z4 z5 z6 z7
 go_loopw [5] (fun i wr=>(∃k:Nat,k≤8∧i=.int .i64 k∧Hid (prW ls=prF k (ls.drop k)))∧Hid (Below w.heap.size w wr∧vI wr g ls)) (fun i _=>8 - (intOf i).toNat)
 case atStart=>exact ⟨⟨0,Nat.zero_le _,rfl,hide rfl⟩,hide ⟨HB1.out,HR.out⟩⟩
 case round =>
  obtain ⟨⟨k,hk,rfl,H⟩,HB⟩:=hrel
  by_cases hlt:k<8
  ·have hltI:(k:Int)<8:=by omega
   have hkl:k<ls.length:=by omega
   obtain ⟨A,c,hc0,ht,hcc⟩:=HB.out.2.2.2 k hkl;have hg:=HB.out.2.2.1;have hs:=HS.out _ (List.getElem_mem hkl);have HWr:=hide (CV ht hcc hs.1 hs.2 (k == 0));have hkx:=QV (k:=k);have Hno:=hide (fun h=>KM hkl h);have Hgo:=hide (fun h=>M3 hkl h);clear ht hcc hs;generalize ls[k]=l at HWr hc0 Hno Hgo;generalize l.length=nl at HWr hc0
   by_cases hz:dC l (k == 0)=0
   ·rw [hz] at HWr
    have H2:=hide (H.out.trans (Hgo.out hz));clear hz Hno Hgo H;generalize (k == 0)=kx at HWr hkx;go_wp2_with (first | (go_at_call 228;refine HWr.out.mono ?_;rintro e w3 ⟨rfl,hb3⟩) | fail);have HB3:=hide (And.intro (HB.out.1.trans (hb3.mono HB.out.1.size)) (HB.out.2.below hb3));go_roundw
    case rel=>exact ⟨⟨k+1,hlt,by go_num,H2⟩,HB3⟩
    case measure=>simp [intOf];omega
   ·have hz1:(dC l (k == 0) == 0)=false:=by rw [beq_eq_false_iff_ne];exact hz
    have hz2:(dC l (k == 0) != 0)=true:=by simp [bne,hz1]
    have E:=hide (show prK (prW ls)=dC l (k == 0)∧prI (prW ls)=k from by rw [H.out,Hno.out hz];exact ⟨rfl,rfl⟩);clear hz Hno Hgo H;generalize (k == 0)=kx at HWr hkx E hz1 hz2;generalize dC l kx=z at HWr E hz1 hz2;go_wp2_with (first | (go_at_call 228;refine HWr.out.mono ?_;rintro e w3 ⟨rfl,hb3⟩) | fail);go_ret2;exact ⟨by rw [E.out.1,E.out.2];rfl,HB.out.1.trans (hb3.mono HB.out.1.size)⟩
  ·have hltI:¬ (k:Int)<8:=by omega
   have E:=hide (show prW ls=none from by rw [H.out,Gc (by omega)]);clear H;go_wp2_with fail;go_ret2;exact ⟨by rw [E.out];rfl,HB.out.1⟩
def SS (o:Option (List UInt8 × Int)):Int:=match o with | none=>0 | some (_,k)=>k
def SV (o:Option (List UInt8 × Int)):List UInt8:=match o with | none=>[] | some (s,_)=>s
theorem Ip {A B:Option Addr} {c d:Nat} {gs:List (List UInt8 × Int)} {al:List (List UInt8)} {lim:Int} (h:GrC w A gs) (hl:gs.length≤1000000) (hy:∀g∈gs,g.1.length≤1000000)
  (h2:Txs w (.slice B al.length d) al) (hc2:al.length≤d) (hl2:al.length≤1000000) (hy2:∀y∈al,y.length≤1000000) :
  Calls Tryz.prog 153 #[.slice A gs.length c,.slice B al.length d,.int .i64 lim] w (fun e w'=>e=.returned (.tuple #[.int .i64 (SS (aV gs al lim)),.string (bs (SV (aV gs al lim)))])∧Below w.heap.size w w'):=by
 have HA:=hide (wm h2 hc2 hl2 hy2);have HG:=hide h;have HY:=hide hy;clear h hy h2 hc2 hl2 hy2;generalize al.length=n2 at HA ⊢
 by_cases h16:16<gs.length
 ·have h16b:(16:Int)<gs.length:=by omega
  have E:=hide (show aV gs al lim=some ([103,114,97,110,116,115],2) from by have hz:grW gs=2:=(by unfold grW;rw [if_pos h16]);rw [oQ al lim (by rw [hz];decide),hz]);clear h16;go_enter Tryz.func153,Tryz.ntmps153;go_wp2_with fail;go_ret2;exact ⟨by rw [E.out];rfl,Below.refl _ _⟩
 ·have h16b:¬ (16:Int)<gs.length:=by omega
  have HE:=hide (show grW gs=grF gs from by unfold grW;rw [if_neg h16]);clear h16;go_enter Tryz.func153,Tryz.ntmps153;go_wp2_with fail
  go_loop [8] (fun i=>∃k:Nat,k≤gs.length∧i=.int .i64 k∧Hid (grF gs=grF (gs.drop k))) (fun i=>gs.length - (intOf i).toNat)
  case atStart=>exact ⟨0,Nat.zero_le _,rfl,hide rfl⟩
  case round =>
   obtain ⟨k,hk,rfl,H⟩:=hrel
   by_cases hlt:k<gs.length
   ·have hltI:(k:Int)<gs.length:=by omega
    obtain ⟨ad,rfl,had,hc0,hc1⟩:=HG.out k hlt;have hus:=HY.out _ (List.getElem_mem hlt);have HF:=hide (H.out.trans (AZ hlt));generalize gs[k]=g at hc0 hc1 hus HF;obtain ⟨u,who⟩:=g;simp only at hc0 hc1 hus HF;have HU:=hide (fun W=>xy (bs u) (Nat.le_trans hus (by decide)) W);rw [aU] at HU;clear H hus
    cases hu:bO u with
    | false =>
     rw [hu] at HU;have E:=hide (show aV gs al lim=some ([103,114,97,110,116,115],3) from by have hz:grW gs=3:=(by rw [HE.out,HF.out,if_pos hu]);rw [oQ al lim (by rw [hz];decide),hz]);clear hu HF HE HG HY;go_wp2_with (first | (go_at_call 229;refine (HU.out _).mono ?_;rintro e w2 ⟨rfl,rfl⟩) | fail);go_ret2;exact ⟨by rw [E.out];rfl,Below.refl _ _⟩
    | true =>
     rw [hu] at HU
     by_cases h1:who<0
     ·have q1:decide (who<0)=true:=decide_eq_true h1
      have E:=hide (show aV gs al lim=some ([103,114,97,110,116,115],5) from by have hz:grW gs=5:=(by rw [HE.out,HF.out,if_neg (by rw [hu];decide),if_pos (wV h1)]);rw [oQ al lim (by rw [hz];decide),hz]);clear hu HF HE HG HY;go_wp2_with (first | (go_at_call 229;refine (HU.out _).mono ?_;rintro e w2 ⟨rfl,rfl⟩) | fail);go_ret2;exact ⟨by rw [E.out];rfl,Below.refl _ _⟩
     ·have q1:decide (who<0)=false:=decide_eq_false h1
      by_cases h2:15<who
      ·have q2:decide (15<who)=true:=decide_eq_true h2
       have E:=hide (show aV gs al lim=some ([103,114,97,110,116,115],5) from by have hz:grW gs=5:=(by rw [HE.out,HF.out,if_neg (by rw [hu];decide),if_pos (wL h2)]);rw [oQ al lim (by rw [hz];decide),hz]);clear hu HF HE HG HY;go_wp2_with (first | (go_at_call 229;refine (HU.out _).mono ?_;rintro e w2 ⟨rfl,rfl⟩) | fail);go_ret2;exact ⟨by rw [E.out];rfl,Below.refl _ _⟩
      ·have q2:decide (15<who)=false:=decide_eq_false h2
       have H2:=hide (show grF gs=grF (gs.drop (k+1)) from by rw [HF.out,if_neg (by rw [hu];decide),if_neg (by rw [xe (by omega) (by omega)];decide)]);clear hu HF HG HY;go_wp2_with (first | (go_at_call 229;refine (HU.out _).mono ?_;rintro e w2 ⟨rfl,rfl⟩) | fail);go_round
       case rel=>exact ⟨k+1,hlt,by go_num,H2⟩
       case measure=>simp [intOf];omega
   ·have hltI:¬ (k:Int)<gs.length:=by omega
    have hz:grW gs=0:=by rw [HE.out,H.out,List.drop_of_length_le (by omega)];rfl
    clear H HG HY HE
    by_cases ha:df al=0
    ·rw [ha] at HA
     by_cases h1:lim<1
     ·have q1:decide (lim<1)=true:=decide_eq_true h1
      have E:=hide (rG hz ha (.inl h1));clear hz ha;go_wp2_with (first | (go_at_call 230;refine HA.out.mono ?_;rintro e w2 ⟨rfl,hb2⟩) | fail);go_ret2;exact ⟨by rw [E.out];rfl,hb2⟩
     ·have q1:decide (lim<1)=false:=decide_eq_false h1
      by_cases h2:20<lim
      ·have q2:decide (20<lim)=true:=decide_eq_true h2
       have E:=hide (rG hz ha (.inr h2));clear hz ha;go_wp2_with (first | (go_at_call 230;refine HA.out.mono ?_;rintro e w2 ⟨rfl,hb2⟩) | fail);go_ret2;exact ⟨by rw [E.out];rfl,hb2⟩
      ·have q2:decide (20<lim)=false:=decide_eq_false h2
       have E:=hide (zl hz ha (by rintro (e | e);exact h1 e;exact h2 e));clear hz ha;go_wp2_with (first | (go_at_call 230;refine HA.out.mono ?_;rintro e w2 ⟨rfl,hb2⟩) | fail);go_ret2;exact ⟨by rw [E.out];rfl,hb2⟩
    ·have ha1:(df al == 0)=false:=by rw [beq_eq_false_iff_ne];exact ha
     have ha2:(df al != 0)=true:=by simp [bne,ha1]
     have E:=hide (rJ lim hz ha);clear hz ha;generalize df al=z at HA E ha1 ha2;go_wp2_with (first | (go_at_call 230;refine HA.out.mono ?_;rintro e w2 ⟨rfl,hb2⟩) | fail);go_ret2;exact ⟨by rw [E.out];rfl,hb2⟩
end
def pl0:List (List UInt8):=[[99,117,114,118,101,50,53,53,49,57,45,115,104,97,50,53,54],[101,99,100,104,45,115,104,97,50,45,110,105,115,116,112,50,53,54],[100,105,102,102,105,101,45,104,101,108,108,109,97,110,45,103,114,111,117,112,45,101,120,99,104,97,110,103,101,45,115,104,97,50,53,54]]
def pl1:List (List UInt8):=[[115,115,104,45,101,100,50,53,53,49,57],[114,115,97,45,115,104,97,50,45,50,53,54]]
def pl2:List (List UInt8):=[[97,101,115,50,53,54,45,103,99,109],[97,101,115,49,50,56,45,99,116,114]]
def pl3:List (List UInt8):=[[97,101,115,50,53,54,45,103,99,109],[97,101,115,49,50,56,45,99,116,114]]
def pl4:List (List UInt8):=[[104,109,97,99,45,115,104,97,50,45,50,53,54],[104,109,97,99,45,115,104,97,50,45,53,49,50]]
def pl5:List (List UInt8):=[[104,109,97,99,45,115,104,97,50,45,50,53,54],[104,109,97,99,45,115,104,97,50,45,53,49,50]]
def pl6:List (List UInt8):=[[110,111,110,101]]
def pl7:List (List UInt8):=[[110,111,110,101]]
def fJ:List (List (List UInt8)):=[pl0,pl1,pl2,pl3,pl4,pl5,pl6,pl7]
theorem ku {w:World} {t:TypeId} (l:List (List UInt8)):bG w.heap.size (w.alloc (.cells ((l.map bs).map Value.string).toArray t)) (.slice (some ⟨w.heap.size,0,none⟩) l.length l.length) l:=by
 refine yN ?_ (Nat.le_refl _);have h:=bK w t (l.map bs) _ rfl;rwa [List.length_map] at h
theorem EA {P:Program} {Q:Exit→Act→World→Prop} {ops:Array Oper} {o:Oper} {a:Act} {w w':World} {K:Act→World→Prop} {F:Prop} (hgd:o.guard=none)
  (hr:(execOp a.eval o).run P w=.ok .skip w') (h:K (a.put o.dst undef) w'):if Region.wanted o (yielded ops a.tmps)=true then Oper.wp P o a w K Q else F:=by
 rw [if_pos (by simp [Region.wanted,hgd])];unfold Oper.wp;rw [hr];exact h
section
variable {w : World}
theorem FO (w:World):Calls Tryz.prog 146 #[] w (fun e w'=>∃v,e=.returned v∧Below w.heap.size w w'∧bG w.heap.size w' v pl2):=by
 have hN:=ku (w:=w) (t:=9) pl2;have hb:=iP (w:=w) (.cells (((pl2).map bs).map Value.string).toArray 9);go_enter Tryz.func146,Tryz.ntmps146;go_wp2_with fail;go_ret;exact ⟨_,rfl,hb,hN⟩
theorem Fz (w:World):Calls Tryz.prog 147 #[] w (fun e w'=>∃v,e=.returned v∧Below w.heap.size w w'∧bG w.heap.size w' v pl4):=by
 have hN:=ku (w:=w) (t:=9) pl4;have hb:=iP (w:=w) (.cells (((pl4).map bs).map Value.string).toArray 9);go_enter Tryz.func147,Tryz.ntmps147;go_wp2_with fail;go_ret;exact ⟨_,rfl,hb,hN⟩
theorem Fu (w:World):Calls Tryz.prog 148 #[] w (fun e w'=>∃v,e=.returned v∧Below w.heap.size w w'∧bG w.heap.size w' v pl6):=by
 have hN:=ku (w:=w) (t:=9) pl6;have hb:=iP (w:=w) (.cells (((pl6).map bs).map Value.string).toArray 9);go_enter Tryz.func148,Tryz.ntmps148;go_wp2_with fail;go_ret;exact ⟨_,rfl,hb,hN⟩
def tC (w:World) (g:Nat) (v0 v1 v2 v3 v4 v5 v6 v7:Value):World:=((((((((w.setCell ⟨g,0,none⟩ v0).setCell ⟨g,1,none⟩ v1).setCell ⟨g,2,none⟩ v2).setCell ⟨g,3,none⟩ v3).setCell ⟨g,4,none⟩ v4).setCell ⟨g,5,none⟩ v5).setCell ⟨g,6,none⟩ v6).setCell ⟨g,7,none⟩ v7)
theorem GX {w:World} {r:Nat} {t:TypeId} {o0 o1 o2 o3 o4 o5 o6 o7:Value} (h:Blk w r t #[o0,o1,o2,o3,o4,o5,o6,o7]) (v0 v1 v2 v3 v4 v5 v6 v7:Value):Blk (tC w r v0 v1 v2 v3 v4 v5 v6 v7) r t #[v0,v1,v2,v3,v4,v5,v6,v7]:=by
 have h1:=((((((((h.set_ 0 v0).set_ 1 v1).set_ 2 v2).set_ 3 v3).set_ 4 v4).set_ 5 v5).set_ 6 v6).set_ 7 v7)
 simpa [tC] using h1
theorem Im {B:Nat} {w0 w:World} {r:Nat} (h:Below B w0 w) (hr:B≤r) (v0 v1 v2 v3 v4 v5 v6 v7:Value):Below B w0 (tC w r v0 v1 v2 v3 v4 v5 v6 v7):=((((((((h.setCell (p:=⟨r,0,none⟩) hr v0).setCell (p:=⟨r,1,none⟩) hr v1).setCell (p:=⟨r,2,none⟩) hr v2).setCell (p:=⟨r,3,none⟩) hr v3).setCell (p:=⟨r,4,none⟩) hr v4).setCell (p:=⟨r,5,none⟩) hr v5).setCell (p:=⟨r,6,none⟩) hr v6).setCell (p:=⟨r,7,none⟩) hr v7)
theorem H5 {lo:Nat} {w:World} {r:Nat} {v:Value} {l:List (List UInt8)} (h:bG lo w v l) (hr:r<lo) (v0 v1 v2 v3 v4 v5 v6 v7:Value):bG lo (tC w r v0 v1 v2 v3 v4 v5 v6 v7) v l:=((((((((h.set_ (p:=⟨r,0,none⟩) hr v0).set_ (p:=⟨r,1,none⟩) hr v1).set_ (p:=⟨r,2,none⟩) hr v2).set_ (p:=⟨r,3,none⟩) hr v3).set_ (p:=⟨r,4,none⟩) hr v4).set_ (p:=⟨r,5,none⟩) hr v5).set_ (p:=⟨r,6,none⟩) hr v6).set_ (p:=⟨r,7,none⟩) hr v7)
theorem RV {x y:Operand} {g:Nat} {B0 B1 B2 B3 B4 B5 B6 B7:Option Addr} {m0 m1 m2 m3 m4 m5 m6 m7 d0 d1 d2 d3 d4 d5 d6 d7:Nat} (o:Oper) (ho:o.op=.store 24 x y) (ρ:Operand→Value) (hρ:ρ x=.pointer (some ⟨g,0,none⟩)) (hρ2:ρ y=.agg #[.slice B0 m0 d0,.slice B1 m1 d1,.slice B2 m2 d2,.slice B3 m3 d3,.slice B4 m4 d4,.slice B5 m5 d5,.slice B6 m6 d6,.slice B7 m7 d7]) (w:World) (hb:Blk w g 24 #[.slice none 0 0,.slice none 0 0,.slice none 0 0,.slice none 0 0,.slice none 0 0,.slice none 0 0,.slice none 0 0,.slice none 0 0]) :
  (execOp ρ o).run Tryz.prog w=.ok .skip (tC w g (.slice B0 m0 d0) (.slice B1 m1 d1) (.slice B2 m2 d2) (.slice B3 m3 d3) (.slice B4 m4 d4) (.slice B5 m5 d5) (.slice B6 m6 d6) (.slice B7 m7 d7)):=by
 obtain ⟨d,op,t,p,af,gd⟩:=o;simp only at ho;subst ho;have c0:=hb.cell 0;have f0:=hb.frozen 0;have c1:=hb.cell 1;have f1:=hb.frozen 1;have c2:=hb.cell 2;have f2:=hb.frozen 2;have c3:=hb.cell 3;have f3:=hb.frozen 3;have c4:=hb.cell 4;have f4:=hb.frozen 4;have c5:=hb.cell 5;have f5:=hb.frozen 5;have c6:=hb.cell 6;have f6:=hb.frozen 6;have c7:=hb.cell 7;have f7:=hb.frozen 7;simp at c0 c1 c2 c3 c4 c5 c6 c7;clear hb;unfold tC;go_simp
theorem ES (hM:fC w):Calls Tryz.prog 84 #[] w (fun e w'=>∃B0 m0 d0 B1 m1 d1 B2 m2 d2 B3 m3 d3 B4 m4 d4 B5 m5 d5 B6 m6 d6 B7 m7 d7,e=.returned (.agg #[.slice B0 m0 d0,.slice B1 m1 d1,.slice B2 m2 d2,.slice B3 m3 d3,.slice B4 m4 d4,.slice B5 m5 d5,.slice B6 m6 d6,.slice B7 m7 d7])∧(∀(i:Nat) v l,([.slice B0 m0 d0,.slice B1 m1 d1,.slice B2 m2 d2,.slice B3 m3 d3,.slice B4 m4 d4,.slice B5 m5 d5,.slice B6 m6 d6,.slice B7 m7 d7]:List Value)[i]?=some v→fJ[i]?=some l→bG w.heap.size w' v l)∧Below w.heap.size w w'):=by
 obtain ⟨W0,hW0⟩:∃W0,W0=w.alloc (.cells #[.slice none 0 0,.slice none 0 0,.slice none 0 0,.slice none 0 0,.slice none 0 0,.slice none 0 0,.slice none 0 0,.slice none 0 0] 24):=⟨_,rfl⟩
 have hb0:Below w.heap.size w W0:=by rw [hW0];exact aa
 have hX0:Blk W0 w.heap.size 24 #[.slice none 0 0,.slice none 0 0,.slice none 0 0,.slice none 0 0,.slice none 0 0,.slice none 0 0,.slice none 0 0,.slice none 0 0]:=by rw [hW0];exact Blk.new w _ _
 have HX:=hide (And.intro hb0 (And.intro hX0 (hM.below hb0)));clear hb0 hX0 hM;go_enter Tryz.func84,Tryz.ntmps84;go_upto_region 4 with fail;rw [←hW0];clear hW0;refine iO (fun W=>Below W0.heap.size W0 W) (fun i=>[1,3,5,6,7,9,11,13,15,17,19,20].contains i) (by kernel_rfl) ?_
 obtain ⟨Wd,hWd⟩:∃Wd,Wd=W0.drew:=⟨_,rfl⟩
 have hSd:Below W0.heap.size W0 Wd:=by rw [hWd];exact (Below.refl _ _).drew
 rw [←hWd];clear hWd;refine ay (i:=0) (oi:=?_) (v:=.pointer (some ⟨0,1,none⟩)) ?_ ?_ ?_ ?_ ?_ ?_ ?_ ?_;rotate_left 1
 ·(first | (simp only [List.getElem?_toArray,List.getElem?_cons_succ,List.getElem?_cons_zero];exact rfl) | exact rfl)
 ·kernel_rfl
 ·kernel_rfl
 ·kernel_rfl
 ·rfl
 ·exact fun _ _ _ h=>h
 ·exact Or.inl ⟨by rfl,fun w _=>by go_simp⟩
 try simp only [Act.put,List.setIfInBounds_toArray,List.set_cons_zero,List.set_cons_succ]
 refine ay (i:=2) (oi:=?_) (v:=.pointer (some ⟨0,2,none⟩)) ?_ ?_ ?_ ?_ ?_ ?_ ?_ ?_;rotate_left 1
 ·(first | (simp only [List.getElem?_toArray,List.getElem?_cons_succ,List.getElem?_cons_zero];exact rfl) | exact rfl)
 ·kernel_rfl
 ·kernel_rfl
 ·kernel_rfl
 ·rfl
 ·exact fun _ _ _ h=>h
 ·exact Or.inl ⟨by rfl,fun w _=>by go_simp⟩
 try simp only [Act.put,List.setIfInBounds_toArray,List.set_cons_zero,List.set_cons_succ]
 refine ay (i:=4) (oi:=?_) (v:=.pointer (some ⟨0,3,none⟩)) ?_ ?_ ?_ ?_ ?_ ?_ ?_ ?_;rotate_left 1
 ·(first | (simp only [List.getElem?_toArray,List.getElem?_cons_succ,List.getElem?_cons_zero];exact rfl) | exact rfl)
 ·kernel_rfl
 ·kernel_rfl
 ·kernel_rfl
 ·rfl
 ·exact fun _ _ _ h=>h
 ·exact Or.inl ⟨by rfl,fun w _=>by go_simp⟩
 try simp only [Act.put,List.setIfInBounds_toArray,List.set_cons_zero,List.set_cons_succ]
 refine ay (i:=8) (oi:=?_) (v:=.func (.func 146) #[] #[]) ?_ ?_ ?_ ?_ ?_ ?_ ?_ ?_;rotate_left 1
 ·(first | (simp only [List.getElem?_toArray,List.getElem?_cons_succ,List.getElem?_cons_zero];exact rfl) | exact rfl)
 ·kernel_rfl
 ·kernel_rfl
 ·kernel_rfl
 ·rfl
 ·exact fun _ _ _ h=>h
 ·exact Or.inl ⟨by rfl,fun w _=>by go_simp⟩
 try simp only [Act.put,List.setIfInBounds_toArray,List.set_cons_zero,List.set_cons_succ]
 refine ay (i:=10) (oi:=?_) (v:=.func (.func 146) #[] #[]) ?_ ?_ ?_ ?_ ?_ ?_ ?_ ?_;rotate_left 1
 ·(first | (simp only [List.getElem?_toArray,List.getElem?_cons_succ,List.getElem?_cons_zero];exact rfl) | exact rfl)
 ·kernel_rfl
 ·kernel_rfl
 ·kernel_rfl
 ·rfl
 ·exact fun _ _ _ h=>h
 ·exact Or.inl ⟨by rfl,fun w _=>by go_simp⟩
 try simp only [Act.put,List.setIfInBounds_toArray,List.set_cons_zero,List.set_cons_succ]
 refine ay (i:=12) (oi:=?_) (v:=.func (.func 147) #[] #[]) ?_ ?_ ?_ ?_ ?_ ?_ ?_ ?_;rotate_left 1
 ·(first | (simp only [List.getElem?_toArray,List.getElem?_cons_succ,List.getElem?_cons_zero];exact rfl) | exact rfl)
 ·kernel_rfl
 ·kernel_rfl
 ·kernel_rfl
 ·rfl
 ·exact fun _ _ _ h=>h
 ·exact Or.inl ⟨by rfl,fun w _=>by go_simp⟩
 try simp only [Act.put,List.setIfInBounds_toArray,List.set_cons_zero,List.set_cons_succ]
 refine ay (i:=14) (oi:=?_) (v:=.func (.func 147) #[] #[]) ?_ ?_ ?_ ?_ ?_ ?_ ?_ ?_;rotate_left 1
 ·(first | (simp only [List.getElem?_toArray,List.getElem?_cons_succ,List.getElem?_cons_zero];exact rfl) | exact rfl)
 ·kernel_rfl
 ·kernel_rfl
 ·kernel_rfl
 ·rfl
 ·exact fun _ _ _ h=>h
 ·exact Or.inl ⟨by rfl,fun w _=>by go_simp⟩
 try simp only [Act.put,List.setIfInBounds_toArray,List.set_cons_zero,List.set_cons_succ]
 refine ay (i:=16) (oi:=?_) (v:=.func (.func 148) #[] #[]) ?_ ?_ ?_ ?_ ?_ ?_ ?_ ?_;rotate_left 1
 ·(first | (simp only [List.getElem?_toArray,List.getElem?_cons_succ,List.getElem?_cons_zero];exact rfl) | exact rfl)
 ·kernel_rfl
 ·kernel_rfl
 ·kernel_rfl
 ·rfl
 ·exact fun _ _ _ h=>h
 ·exact Or.inl ⟨by rfl,fun w _=>by go_simp⟩
 try simp only [Act.put,List.setIfInBounds_toArray,List.set_cons_zero,List.set_cons_succ]
 refine ay (i:=18) (oi:=?_) (v:=.func (.func 148) #[] #[]) ?_ ?_ ?_ ?_ ?_ ?_ ?_ ?_;rotate_left 1
 ·(first | (simp only [List.getElem?_toArray,List.getElem?_cons_succ,List.getElem?_cons_zero];exact rfl) | exact rfl)
 ·kernel_rfl
 ·kernel_rfl
 ·kernel_rfl
 ·rfl
 ·exact fun _ _ _ h=>h
 ·exact Or.inl ⟨by rfl,fun w _=>by go_simp⟩
 try simp only [Act.put,List.setIfInBounds_toArray,List.set_cons_zero,List.set_cons_succ]
 refine aJ (i:=1) (oi:=?_) (v:=.string ⟨#[99,117,114,118,101,50,53,53,49,57,45,115,104,97,50,53,54]⟩) ?_ ?_ ?_ ?_ ?_ ?_ ?_ hSd ?_;rotate_left 1
 ·(first | (simp only [List.getElem?_toArray,List.getElem?_cons_succ,List.getElem?_cons_zero];exact rfl) | exact rfl)
 ·kernel_rfl
 ·kernel_rfl
 ·kernel_rfl
 ·kernel_rfl
 ·exact fun _ _ _ h=>h
 ·refine Or.inl ⟨by rfl,fun w hSw=>?_⟩
  have q:=(HX.out.2.2.below hSw).c1;clear hSw;go_simp
 try simp only [Act.put,List.setIfInBounds_toArray,List.set_cons_zero,List.set_cons_succ]
 refine aJ (i:=3) (oi:=?_) (v:=.string ⟨#[101,99,100,104,45,115,104,97,50,45,110,105,115,116,112,50,53,54]⟩) ?_ ?_ ?_ ?_ ?_ ?_ ?_ hSd ?_;rotate_left 1
 ·(first | (simp only [List.getElem?_toArray,List.getElem?_cons_succ,List.getElem?_cons_zero];exact rfl) | exact rfl)
 ·kernel_rfl
 ·kernel_rfl
 ·kernel_rfl
 ·kernel_rfl
 ·exact fun _ _ _ h=>h
 ·refine Or.inl ⟨by rfl,fun w hSw=>?_⟩
  have q:=(HX.out.2.2.below hSw).c2;clear hSw;go_simp
 try simp only [Act.put,List.setIfInBounds_toArray,List.set_cons_zero,List.set_cons_succ]
 refine aJ (i:=5) (oi:=?_) (v:=.string ⟨#[100,105,102,102,105,101,45,104,101,108,108,109,97,110,45,103,114,111,117,112,45,101,120,99,104,97,110,103,101,45,115,104,97,50,53,54]⟩) ?_ ?_ ?_ ?_ ?_ ?_ ?_ hSd ?_;rotate_left 1
 ·(first | (simp only [List.getElem?_toArray,List.getElem?_cons_succ,List.getElem?_cons_zero];exact rfl) | exact rfl)
 ·kernel_rfl
 ·kernel_rfl
 ·kernel_rfl
 ·kernel_rfl
 ·exact fun _ _ _ h=>h
 ·refine Or.inl ⟨by rfl,fun w hSw=>?_⟩
  have q:=(HX.out.2.2.below hSw).c3;clear hSw;go_simp
 try simp only [Act.put,List.setIfInBounds_toArray,List.set_cons_zero,List.set_cons_succ]
 refine vH (P:=Tryz.prog) (S:=fun W=>Below W0.heap.size W0 W) 8 (fun p=>([6,7,9,11,13,15,17,19]:List Nat).getD p 0) (fun gs=>⟨#[.pointer (some ⟨w.heap.size,0,none⟩),.func (.func 146) #[] #[],.func (.func 147) #[] #[],.func (.func 148) #[] #[],.pointer (some ⟨0,1,none⟩),.string ⟨#[99,117,114,118,101,50,53,53,49,57,45,115,104,97,50,53,54]⟩,.pointer (some ⟨0,2,none⟩),.string ⟨#[101,99,100,104,45,115,104,97,50,45,110,105,115,116,112,50,53,54]⟩,.pointer (some ⟨0,3,none⟩),.string ⟨#[100,105,102,102,105,101,45,104,101,108,108,109,97,110,45,103,114,111,117,112,45,101,120,99,104,97,110,103,101,45,115,104,97,50,53,54]⟩,(gs.getD 0 undef),(gs.getD 1 undef),.func (.func 146) #[] #[],(gs.getD 2 undef),.func (.func 146) #[] #[],(gs.getD 3 undef),.func (.func 147) #[] #[],(gs.getD 4 undef),.func (.func 147) #[] #[],(gs.getD 5 undef),.func (.func 148) #[] #[],(gs.getD 6 undef),.func (.func 148) #[] #[],(gs.getD 7 undef),undef],[]⟩) (fun ds=>#[true,true,true,true,true,true,ds.getD 0 true,ds.getD 1 true,true,ds.getD 2 true,true,ds.getD 3 true,true,ds.getD 4 true,true,ds.getD 5 true,true,ds.getD 6 true,true,ds.getD 7 true,false,false]) (fun p v W=>bG W0.heap.size W v (fJ.getD p [])) 2 ?_ ?_ ?_ ?_ (Ik (by kernel_rfl)) ?_ 8 [false,false,false,false,false,false,false,false] [undef,undef,undef,undef,undef,undef,undef,undef] Wd rfl rfl rfl hSd ?_
 ·exact fun p v w2 w3 h hb=>bG.belowW h hb
 ·exact fun w2 w3 h hb=>h.trans (hb.mono h.size)
 ·intro p hp
  match p,hp with
   | 0,_=>exact ⟨_,rfl,fun gs w2 hg hS2=>by
     match gs,hg with
     | [g0,g1,g2,g3,g4,g5,g6,g7],_=>exact ⟨fun v=>rfl,NH rfl (show (execOp _ _).run Tryz.prog w2=_ from by go_simp;exact ⟨rfl,rfl⟩) (iP _) ((ku (w:=w2) (t:=9) pl0).mono hS2.size)⟩⟩
   | 1,_=>exact ⟨_,rfl,fun gs w2 hg hS2=>by
     match gs,hg with
     | [g0,g1,g2,g3,g4,g5,g6,g7],_=>exact ⟨fun v=>rfl,NH rfl (show (execOp _ _).run Tryz.prog w2=_ from by go_simp;exact ⟨rfl,rfl⟩) (iP _) ((ku (w:=w2) (t:=9) pl1).mono hS2.size)⟩⟩
   | 2,_=>exact ⟨_,rfl,fun gs w2 hg hS2=>by
     match gs,hg with
     | [g0,g1,g2,g3,g4,g5,g6,g7],_=>exact ⟨fun v=>rfl,lX (f:=146) (args:=#[]) rfl (by go_simp) ((FO w2).mono fun _ _ h=>let ⟨v,h1,h2,h3⟩:=h;⟨v,h1,h2,h3.mono hS2.size⟩)⟩⟩
   | 3,_=>exact ⟨_,rfl,fun gs w2 hg hS2=>by
     match gs,hg with
     | [g0,g1,g2,g3,g4,g5,g6,g7],_=>exact ⟨fun v=>rfl,lX (f:=146) (args:=#[]) rfl (by go_simp) ((FO w2).mono fun _ _ h=>let ⟨v,h1,h2,h3⟩:=h;⟨v,h1,h2,h3.mono hS2.size⟩)⟩⟩
   | 4,_=>exact ⟨_,rfl,fun gs w2 hg hS2=>by
     match gs,hg with
     | [g0,g1,g2,g3,g4,g5,g6,g7],_=>exact ⟨fun v=>rfl,lX (f:=147) (args:=#[]) rfl (by go_simp) ((Fz w2).mono fun _ _ h=>let ⟨v,h1,h2,h3⟩:=h;⟨v,h1,h2,h3.mono hS2.size⟩)⟩⟩
   | 5,_=>exact ⟨_,rfl,fun gs w2 hg hS2=>by
     match gs,hg with
     | [g0,g1,g2,g3,g4,g5,g6,g7],_=>exact ⟨fun v=>rfl,lX (f:=147) (args:=#[]) rfl (by go_simp) ((Fz w2).mono fun _ _ h=>let ⟨v,h1,h2,h3⟩:=h;⟨v,h1,h2,h3.mono hS2.size⟩)⟩⟩
   | 6,_=>exact ⟨_,rfl,fun gs w2 hg hS2=>by
     match gs,hg with
     | [g0,g1,g2,g3,g4,g5,g6,g7],_=>exact ⟨fun v=>rfl,lX (f:=148) (args:=#[]) rfl (by go_simp) ((Fu w2).mono fun _ _ h=>let ⟨v,h1,h2,h3⟩:=h;⟨v,h1,h2,h3.mono hS2.size⟩)⟩⟩
   | 7,_=>exact ⟨_,rfl,fun gs w2 hg hS2=>by
     match gs,hg with
     | [g0,g1,g2,g3,g4,g5,g6,g7],_=>exact ⟨fun v=>rfl,lX (f:=148) (args:=#[]) rfl (by go_simp) ((Fu w2).mono fun _ _ h=>let ⟨v,h1,h2,h3⟩:=h;⟨v,h1,h2,h3.mono hS2.size⟩)⟩⟩
 ·intro ds p hd hp
  match ds,hd with
   | [b0,b1,b2,b3,b4,b5,b6,b7],_ =>
    match p,hp with
    | 0,_=>rfl
    | 1,_=>rfl
    | 2,_=>rfl
    | 3,_=>rfl
    | 4,_=>rfl
    | 5,_=>rfl
    | 6,_=>rfl
    | 7,_=>rfl
 ·intro gs W hg hSW hall
  match gs,hg with
  | [g0,g1,g2,g3,g4,g5,g6,g7],_ =>
   have n0:bG W0.heap.size W g0 pl0:=hall 0 _ rfl;have n1:bG W0.heap.size W g1 pl1:=hall 1 _ rfl;have n2:bG W0.heap.size W g2 pl2:=hall 2 _ rfl;have n3:bG W0.heap.size W g3 pl3:=hall 3 _ rfl;have n4:bG W0.heap.size W g4 pl4:=hall 4 _ rfl;have n5:bG W0.heap.size W g5 pl5:=hall 5 _ rfl;have n6:bG W0.heap.size W g6 pl6:=hall 6 _ rfl;have n7:bG W0.heap.size W g7 pl7:=hall 7 _ rfl;obtain ⟨B0,d0,e0,_⟩:=id n0;obtain ⟨B1,d1,e1,_⟩:=id n1;obtain ⟨B2,d2,e2,_⟩:=id n2;obtain ⟨B3,d3,e3,_⟩:=id n3;obtain ⟨B4,d4,e4,_⟩:=id n4;obtain ⟨B5,d5,e5,_⟩:=id n5;obtain ⟨B6,d6,e6,_⟩:=id n6;obtain ⟨B7,d7,e7,_⟩:=id n7
   have hall2:∀(i:Nat) v l,([g0,g1,g2,g3,g4,g5,g6,g7]:List Value)[i]?=some v→fJ[i]?=some l→bG W0.heap.size W v l:=fun i v l h1 h2=>by
    match i,h1,h2 with
    | 0,h1,h2=>cases h1;cases h2;exact n0
    | 1,h1,h2=>cases h1;cases h2;exact n1
    | 2,h1,h2=>cases h1;cases h2;exact n2
    | 3,h1,h2=>cases h1;cases h2;exact n3
    | 4,h1,h2=>cases h1;cases h2;exact n4
    | 5,h1,h2=>cases h1;cases h2;exact n5
    | 6,h1,h2=>cases h1;cases h2;exact n6
    | 7,h1,h2=>cases h1;cases h2;exact n7
    | n+8,h1,_=>simp at h1
   clear n0 n1 n2 n3 n4 n5 n6 n7 hall;subst e0 e1 e2 e3 e4 e5 e6 e7;have hallN:=hide hall2;have hB0:=HX.out.2.1.below hSW HX.out.2.1.lt;simp only [List.replicate,List.getD_cons_zero,List.getD_cons_succ];refine aJ (i:=20) (oi:=?_) (v:=.agg #[.slice B0 pl0.length d0,.slice B1 pl1.length d1,.slice B2 pl2.length d2,.slice B3 pl3.length d3,.slice B4 pl4.length d4,.slice B5 pl5.length d5,.slice B6 pl6.length d6,.slice B7 pl7.length d7]) ?_ ?_ ?_ ?_ ?_ ?_ ?_ hSW ?_;rotate_left 1
   ·(first | (simp only [List.getElem?_toArray,List.getElem?_cons_succ,List.getElem?_cons_zero];exact rfl) | exact rfl)
   ·kernel_rfl
   ·kernel_rfl
   ·kernel_rfl
   ·kernel_rfl
   ·exact fun _ _ _ h=>h
   ·refine Or.inl ⟨by rfl,fun w hSw=>?_⟩
    clear hSw;go_simp
   try simp only [Act.put,List.setIfInBounds_toArray,List.set_cons_zero,List.set_cons_succ]
   refine ah (rs:=[21]) (by kernel_rfl) (by simp) ?_;refine ae.late (o:=?_) ?_ rfl (fun K hK=>?_) ae.nil;rotate_left 1
   ·(first | (simp only [List.getElem?_toArray,List.getElem?_cons_succ,List.getElem?_cons_zero];exact rfl) | exact rfl)
   refine EA rfl (RV (x:=.tmp 0) (y:=.tmp 24) _ rfl _ (by rfl) (by rfl) _ hB0) ?_;refine hK.out _ _ ?_;clear hK K
   try simp only [Act.put,List.setIfInBounds_toArray,List.set_cons_zero,List.set_cons_succ]
   refine dZ (by kernel_rfl) ?_ _;have hXn:=GX hB0 (.slice B0 pl0.length d0) (.slice B1 pl1.length d1) (.slice B2 pl2.length d2) (.slice B3 pl3.length d3) (.slice B4 pl4.length d4) (.slice B5 pl5.length d5) (.slice B6 pl6.length d6) (.slice B7 pl7.length d7);have hBn:=Im (HX.out.1.trans (hSW.mono HX.out.1.size)) (Nat.le_refl _) (.slice B0 pl0.length d0) (.slice B1 pl1.length d1) (.slice B2 pl2.length d2) (.slice B3 pl3.length d3) (.slice B4 pl4.length d4) (.slice B5 pl5.length d5) (.slice B6 pl6.length d6) (.slice B7 pl7.length d7);have HN:=hide (fun (i:Nat) v l (h1:([.slice B0 pl0.length d0,.slice B1 pl1.length d1,.slice B2 pl2.length d2,.slice B3 pl3.length d3,.slice B4 pl4.length d4,.slice B5 pl5.length d5,.slice B6 pl6.length d6,.slice B7 pl7.length d7]:List Value)[i]?=some v) (h2:fJ[i]?=some l)=>(H5 (hallN.out i v l h1 h2) HX.out.2.1.lt (.slice B0 pl0.length d0) (.slice B1 pl1.length d1) (.slice B2 pl2.length d2) (.slice B3 pl3.length d3) (.slice B4 pl4.length d4) (.slice B5 pl5.length d5) (.slice B6 pl6.length d6) (.slice B7 pl7.length d7)).mono HX.out.1.size);generalize tC W w.heap.size (.slice B0 pl0.length d0) (.slice B1 pl1.length d1) (.slice B2 pl2.length d2) (.slice B3 pl3.length d3) (.slice B4 pl4.length d4) (.slice B5 pl5.length d5) (.slice B6 pl6.length d6) (.slice B7 pl7.length d7)=wF at hXn hBn HN ⊢;clear hB0 hSW hallN;go_wp2_with fail;have q0:=hXn.cell 0;have q1:=hXn.cell 1;have q2:=hXn.cell 2;have q3:=hXn.cell 3;have q4:=hXn.cell 4;have q5:=hXn.cell 5;have q6:=hXn.cell 6
   have q7:=hXn.cell 7;simp only [List.getElem?_toArray,List.getElem?_cons_zero,List.getElem?_cons_succ] at q0 q1 q2 q3 q4 q5 q6 q7;exact bodyPost_ret (v:=.agg #[.slice B0 pl0.length d0,.slice B1 pl1.length d1,.slice B2 pl2.length d2,.slice B3 pl3.length d3,.slice B4 pl4.length d4,.slice B5 pl5.length d5,.slice B6 pl6.length d6,.slice B7 pl7.length d7]) (by simp [results,Tryz.results84,go_sem,q0,q1,q2,q3,q4,q5,q6,q7]) rfl ⟨B0,pl0.length,d0,B1,pl1.length,d1,B2,pl2.length,d2,B3,pl3.length,d3,B4,pl4.length,d4,B5,pl5.length,d5,B6,pl6.length,d6,B7,pl7.length,d7,rfl,HN.out,hBn⟩
 ·exact fun p v h1=>by
   match p,h1 with
   | 0,h1=>cases h1
   | 1,h1=>cases h1
   | 2,h1=>cases h1
   | 3,h1=>cases h1
   | 4,h1=>cases h1
   | 5,h1=>cases h1
   | 6,h1=>cases h1
   | 7,h1=>cases h1
   | n+8,h1=>simp at h1
end
end Go.Proofs.YtnhekaepgpbijaaGreatDoor
