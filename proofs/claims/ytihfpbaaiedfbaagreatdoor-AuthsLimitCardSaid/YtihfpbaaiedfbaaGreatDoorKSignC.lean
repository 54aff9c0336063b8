/-
  What is wrong with a signature, as an error and as a text; the contracts of sign's CheckUser and of ref22's Request, User and CheckUser. Conditions: texts of at most 1,000,000 bytes; the library's handle is as it was laid.
-/
import Derived.Test.YtihfpbaaiedfbaaGreatDoorKRdrBG
import Derived.Test.YtihfpbaaiedfbaaGreatDoorKSignQG
import Derived.Test.YtihfpbaaiedfbaaGreatDoorKOpqG
set_option linter.unusedVariables false
set_option linter.unusedSimpArgs false
set_option maxHeartbeats 40000000
set_option maxRecDepth 100000
namespace Go.Proofs.YtihfpbaaiedfbaaGreatDoor
open Go.RowKit Go.ChangeShapes Go.WideShapes Go.Sort
def usrB:ByteArray:=⟨#[117,115,101,114]⟩
noncomputable def chkS (a b:Prop):ByteArray:=@ite _ a (Classical.propDecidable a) keyB (@ite _ b (Classical.propDecidable b) sigB ⟨#[]⟩)
theorem chk_a {a b:Prop} (h:a):chkS a b=keyB:=by unfold chkS;rw [if_pos h]
theorem chk_b {a b:Prop} (h:¬ a) (h2:b):chkS a b=sigB:=by unfold chkS;rw [if_neg h,if_pos h2]
theorem chk_c {a b:Prop} (h:¬ a) (h2:¬ b):chkS a b=⟨#[]⟩:=by unfold chkS;rw [if_neg h,if_neg h2]
theorem or_flip (p q:Option Tm):(p=none∨p≠q)↔(q=none∨q≠p):=by
 constructor
 ·rintro (h | h)
  ·by_cases hq:q=none
   ·exact .inl hq
   ·exact .inr (by rw [h];exact hq)
  ·exact .inr (fun e=>h e.symm)
 ·rintro (h | h)
  ·by_cases hq:p=none
   ·exact .inl hq
   ·exact .inr (by rw [h];exact hq)
  ·exact .inr (fun e=>h e.symm)
def ErrIs (S:Nat→Prop) (W:World) (s1:ByteArray) (k:Int) (s2:ByteArray) (v:Value):Prop :=
 (s2=⟨#[]⟩∧v=.nilIface)∨(s2.size≤1000∧(s2.toList == [])=false∧∃b1 b2,v=.iface 145 (.pointer (some ⟨b1,0,none⟩))∧Flt W b1 b2 s1 s2 k∧¬ S b1∧¬ S b2)
theorem ErrIs.below {S:Nat→Prop} {W W':World} {s1 s2:ByteArray} {k:Int} {v:Value} (h:ErrIs S W s1 k s2 v) (hb:Below W.heap.size W W'):ErrIs S W' s1 k s2 v:=by
 rcases h with h | ⟨h1,h2,b1,b2,h3,h4,h5⟩
 ·exact .inl h
 ·exact .inr ⟨h1,h2,b1,b2,h3,h4.below hb,h5⟩
def ChkE (B:Nat) (w:World) (g:Nat) (T:List Tm) (S:Nat→Prop) (s1:ByteArray) (k:Int) (s2:ByteArray) (m:Nat) (e:Ending) (w':World):Prop :=
 ∃T' S' v,e=.returned v∧T <+: T'∧T'.length≤T.length+m∧Ar B w' g T' S'∧Grown S w S' w'∧ErrIs S' w' s1 k s2 v
theorem keyB_ok:keyB.size≤1000∧(keyB.toList == [])=false:=⟨by decide,by decide +kernel⟩
theorem sigB_ok:sigB.size≤1000∧(sigB.toList == [])=false:=⟨by decide,by decide +kernel⟩
section
variable {B g : Nat} {w w1 w2 : World} {T T1 : List Tm} {S S1 : Nat → Prop}
theorem chkE_wrong {s1 s2:ByteArray} {k:Int} {m:Nat} {e:Ending} (hA:Ar B w1 g T1 S1) (hG:Grown S w S1 w1) (hp:T <+: T1) (hl:T1.length≤T.length+m) (h2:s2.size≤1000∧(s2.toList == [])=false)
  (hw:∃b1 b2,e=.returned (.iface 145 (.pointer (some ⟨b1,0,none⟩)))∧Flt w2 b1 b2 s1 s2 k∧Below w1.heap.size w1 w2∧w1.heap.size≤b1∧w1.heap.size≤b2):ChkE B w g T S s1 k s2 m e w2:=by
 obtain ⟨b1,b2,rfl,hF,hb,l1,l2⟩:=hw
 exact ⟨T1,S1,_,rfl,hp,hl,hA.below hb,hG.trans (Grown.of_below hb),.inr ⟨h2.1,h2.2,b1,b2,rfl,hF,fun h9=>by have:=hA.sL _ h9;omega,fun h9=>by have:=hA.sL _ h9;omega⟩⟩
theorem checkUser_any (h:Use B w g T S) {os okey osig:Option Tm} {n nk ns:Int} {user service alg:ByteArray} (ho:Idn T os n) (hk:Idn T okey nk) (hs:Idn T osig ns) (hz1:user.size≤1000000) (hz2:service.size≤1000000) (hz3:alg.size≤1000000) (hT:T.length≤1000000) :
  Calls Tryz.prog 20 #[.pointer (some ⟨g,0,none⟩),.int .i64 n,.string user,.string service,.string alg,.int .i64 nk,.int .i64 ns] w
   (ChkE B w g T S usrB 12 (chkS (isPb okey=false) (osig=none∨osig≠userO os user service alg (whoO okey))) 11):=by
 have HO:=hide (owner_any h.ar hk)
 have H:=hide h
 have Hs:=hide hs
 have Ho:=hide ho
 clear h hs ho hk
 cases hb:isPb okey with
 | false =>
  rw [hb] at HO
  generalize ((whoO okey:Nat):Int)=who at HO ⊢
  rw [chk_a rfl]
  clear hb
  go_enter Tryz.func20,Tryz.ntmps20
  go_wp2_with fail
  refine HO.out.mono ?_
  rintro e w1 ⟨rfl,hb1⟩
  go_wp2_with fail
  refine (wrong_any usrB keyB 12 (by decide) w1).mono ?_
  intro e w2 hw
  have hF:=hide (chkE_wrong (T:=T) (m:=11) (H.out.below hb1).ar (Grown.of_below hb1) (List.prefix_refl _) (by omega) keyB_ok hw)
  obtain ⟨b1,b2,rfl,_⟩:=hw
  go_wp2_with fail
  go_ret
  exact hF.out
 | true =>
  rw [hb] at HO
  generalize ((whoO okey:Nat):Int)=who at HO ⊢
  clear hb
  have h0:¬ (true=false):=by decide
  obtain ⟨want,hwant⟩:∃want,want=userO os user service alg who:=⟨_,rfl⟩
  obtain ⟨s2,hs2⟩:∃s2,s2=chkS (true=false) (osig=none∨osig≠want):=⟨_,rfl⟩
  rw [←hwant,← hs2]
  have J1:=hide (fun h=>hs2.trans (chk_b h0 h))
  have J2:=hide (fun h=>hs2.trans (chk_c h0 h))
  have HW:=hide hwant
  clear h0 hs2 hwant
  go_enter Tryz.func20,Tryz.ntmps20
  go_wp2_with fail
  refine HO.out.mono ?_
  rintro e w1 ⟨rfl,hb1⟩
  have HU:=hide (suser_any (H.out.below hb1) Ho.out hz1 hz2 hz3 who hT)
  go_wp2_with fail
  refine HU.out.mono ?_
  rintro e w3 ⟨T3,n3,S3,rfl,hid3,hpre3,hl3,hA3,hG3⟩
  rw [←HW.out] at hid3
  have e3:n3=-1↔want=none:=hid3.none_iff
  have e4:n3=ns↔want=osig:=hid3.eq_iff hA3.ok (Hs.out.pre hpre3)
  have HA3:=hide hA3
  have HG3:=hide ((Grown.of_below hb1).trans hG3)
  clear hid3 hA3 hG3 HU
  by_cases c3:n3=-1
  ·have HE:=hide (J1.out ((or_flip _ _).1 (.inl (e3.1 c3))))
   subst c3
   clear e3 e4
   go_wp2_with fail
   refine (wrong_any usrB sigB 12 (by decide) w3).mono ?_
   intro e w4 hw
   have hF:=hide (chkE_wrong (T:=T) (m:=11) HA3.out HG3.out hpre3 hl3 sigB_ok hw)
   obtain ⟨b1,b2,rfl,_⟩:=hw
   go_wp2_with fail
   go_ret
   rw [HE.out]
   exact hF.out
  ·by_cases c4:n3=ns
   ·have hc:¬ (osig=none∨osig≠want):=fun h9=>by
     rcases (or_flip _ _).1 h9 with h8 | h8
     ·exact c3 (e3.2 h8)
     ·exact h8 (e4.1 c4)
    have HE:=hide (J2.out hc)
    subst c4
    clear e3 e4 hc
    go_wp2_with fail
    go_ret
    rw [HE.out]
    exact ⟨T3,S3,_,rfl,hpre3,hl3,HA3.out,HG3.out,.inl ⟨rfl,rfl⟩⟩
   ·have HE:=hide (J1.out ((or_flip _ _).1 (.inr (fun h9=>c4 (e4.2 h9)))))
    clear e3 e4
    go_wp2_with fail
    refine (wrong_any usrB sigB 12 (by decide) w3).mono ?_
    intro e w4 hw
    have hF:=hide (chkE_wrong (T:=T) (m:=11) HA3.out HG3.out hpre3 hl3 sigB_ok hw)
    obtain ⟨b1,b2,rfl,_⟩:=hw
    go_wp2_with fail
    go_ret
    rw [HE.out]
    exact hF.out
end
structure RowB (W0 wr:World) (os:List (Option Tm)) (v:Value) (b:Nat) (t:TypeId) (cs:Array Value):Prop where
 bel:Below W0.heap.size W0 wr
 own:wr.ownsRow W0.heap.size 9 1 v os.length (((os.map txt).map bs).map Value.string)
 blk:Blk wr b t cs
 ne:v.ownBlock≠some b
section
variable {W0 wr wz : World} {os : List (Option Tm)} {v : Value} {b : Nat} {t : TypeId} {cs : Array Value}
theorem RowB.below (h:RowB W0 wr os v b t cs) (hb:Below wr.heap.size wr wz):RowB W0 wz os v b t cs :=
 ⟨h.bel.trans (hb.mono h.bel.size),h.own.kept (only_of_below hb none) (by cases v.ownBlock <;> simp),h.blk.below hb h.blk.lt,h.ne⟩
end
end Go.Proofs.YtihfpbaaiedfbaaGreatDoor
