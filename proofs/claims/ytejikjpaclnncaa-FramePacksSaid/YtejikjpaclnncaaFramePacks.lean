/-
  The law FramePacks: the plain packet of any payload is unpacked as it was; and any unit's body. Conditions: none.
-/
import Derived.Test.YtejikjpaclnncaaFramePlain
import Derived.Test.YtejikjpaclnncaaFrameNeeds
namespace Go.Proofs.Ytejikjpaclnncaa
open Go.ChangeShapes Go.WideShapes Go.ChangeAt Go.RowKit
open Go.ChangeMaps (open_string shut_string)

set_option maxHeartbeats 2000000 in
theorem framePacks_any (s : ByteArray) (w : World) (hs : s.size ≤ maxLen) : Calls Try.prog 3 #[.string s] w fun e w' => e = .returned (.bool true) ∧ Below w.heap.size w w' := by
  unfold maxLen at hs
  have hsz : s.data.toList.length = s.size := rfl
  by_cases h2 : 2000 < s.size
  · go_enter Try.func3, Try.ntmps3
    go_wp2_with (go_at_call 10; refine (awake11 _).mono ?_; rintro e w1 ⟨rfl, hb1⟩)
    go_ret
    exact ⟨rfl, hb1⟩
  by_cases h0 : s = ⟨#[]⟩
  · subst h0
    have hp := pack_any ⟨#[]⟩
    have hu := unit_any ⟨#[]⟩
    rw [show packF (⟨#[]⟩ : ByteArray).data.toList = ([], 4) from rfl] at hp
    rw [show unitF (⟨#[]⟩ : ByteArray).data.toList = ([], 4) from rfl] at hu
    have Hp := hide hp
    have Hu := hide hu
    clear hp hu hs hsz h2
    go_enter Try.func3, Try.ntmps3
    go_wp2_with (first
      | (go_at_call 10; refine (awake11 _).mono ?_; rintro e w1 ⟨rfl, hb1⟩)
      | (go_at_call 11; refine (Hp.out _ (by decide)).mono ?_; rintro e w1 ⟨r, rfl, hr, hb1⟩; obtain rfl : r = ⟨#[]⟩ := data_inj hr; clear hr)
      | (go_at_call 12; refine (Hu.out _ (by decide)).mono ?_; rintro e w1 ⟨r, rfl, hr, hb1⟩; obtain rfl : r = ⟨#[]⟩ := data_inj hr; clear hr))
    go_ret
    refine ⟨rfl, ?_⟩
    (repeat (first | exact Below.refl _ _ | refine below_drewN ?_ _ | refine Below.drew ?_ | refine Below.alloc ?_ (by first | omega | (simp; done) | (simp; omega)) _ | refine Below.setCell ?_ (by first | omega | (simp; done) | (simp; omega)) _ | refine bel_alloc ?_ _ | refine bel_trans ?_ (by assumption) | refine Below.trans ?_ (Below.mono (by assumption) (by first | omega | (simp; done) | (simp; omega)))))
  have hn0 : s.data.toList ≠ [] := fun h => h0 (bytes_ext (by rw [ByteArray.toList_eq, h, toList_nil]))
  have e0 := bytes_some h0
  have hpf : packF s.data.toList = (unitB (packB s.data.toList), 0) := by rw [packF, if_neg hn0, if_neg (by rw [hsz]; omega)]
  have huf : unitF s.data.toList = (unitB s.data.toList, 0) := by rw [unitF, if_neg hn0, if_neg (by rw [hsz]; omega)]
  have hl : (packB s.data.toList).length ≤ 3000 := by
    have := padN_le s.size
    rw [pack_length, hsz]
    omega
  have hlm : (4 + (packB s.data.toList).length) % 8 = 0 := by
    have := padN_mod s.size
    rw [pack_length, hsz]
    omega
  have hpp := fun w => pack_any s w hs
  have huu := fun w => unit_any s w hs
  rw [hpf] at hpp
  rw [huf] at huu
  have Hp := hide hpp
  have Hu := hide huu
  have Hb := hide (bodyF_unit s.data.toList hn0 (by rw [hsz]; omega))
  have Hn := hide (needF_unit (packB s.data.toList) (by simp [packB]) (by omega))
  have Hk := hide (unpackF_pack s.data.toList hn0 (by rw [hsz]; omega))
  have Hlm := hide hlm
  have hn2 : s.size ≤ 2000 := by omega
  clear hpp huu hpf huf hsz h0 hn0 h2 hlm
  go_enter Try.func3, Try.ntmps3
  go_wp2_with fail
  refine (Hp.out _).mono ?_
  rintro e w1 ⟨p, rfl, hp, hb1⟩
  have Hpd := hide hp
  have hpz : p.size ≤ 3004 := by have h := size_le_of hp; rw [length_unit] at h; omega
  have Hpz := hide (show (p.size : Int) = 4 + ((packB s.data.toList).length : Int) by
    have h : p.data.toList.length = 4 + (packB s.data.toList).length := by rw [hp]; exact length_unit _
    have h2 : p.data.toList.length = p.size := rfl
    omega)
  clear hp
  go_wp2_with fail
  refine (Hu.out _).mono ?_
  rintro e w2 ⟨u, rfl, hu, hb2⟩
  have Hud := hide hu
  have huz : u.size ≤ 2004 := by
    have h := size_le_of hu
    have h3 : s.data.toList.length = s.size := rfl
    rw [length_unit, h3] at h
    omega
  clear hu
  go_wp2_with (first
    | (go_at_call 13; refine (unpack_any p _ (by omega)).mono ?_; rw [Hpd.out, Hk.out]; rintro e w3 ⟨b, rfl, hb, hb3⟩; obtain rfl : s = b := (data_inj hb).symm; clear hb)
    | (go_at_call 14; refine (body_any u _ (by omega)).mono ?_; rw [Hud.out, Hb.out]; rintro e w3 ⟨b, rfl, hb, hb4⟩; obtain rfl : s = b := (data_inj hb).symm; clear hb)
    | (go_at_call 15; refine (need_any p _ (by omega)).mono ?_; rw [Hpd.out, Hn.out]; rintro e w3 ⟨rfl, hb5⟩)
    | (go_at_call 10; refine (awake11 _).mono ?_; rintro e w3 ⟨rfl, hb6⟩)
    | (go_at_call 16; refine (rPack_any s _ (by omega)).mono ?_; rintro e w3 ⟨b, rfl, hb, hb7⟩; obtain rfl : p = b := (data_inj (hb.trans Hpd.out.symm)).symm; clear hb)
    | (go_at_call 17; refine (rUnit_any s _ (by omega)).mono ?_; rintro e w3 ⟨b, rfl, hb, _, hb8⟩; obtain rfl : u = b := (data_inj (hb.trans Hud.out.symm)).symm; clear hb))
  all_goals first
    | (go_ret; refine ⟨ret_bool ?_, by (repeat (first | exact Below.refl _ _ | refine below_drewN ?_ _ | refine Below.drew ?_ | refine Below.alloc ?_ (by first | omega | (simp; done) | (simp; omega)) _ | refine Below.setCell ?_ (by first | omega | (simp; done) | (simp; omega)) _ | refine bel_alloc ?_ _ | refine bel_trans ?_ (by assumption) | refine Below.trans ?_ (Below.mono (by assumption) (by first | omega | (simp; done) | (simp; omega)))))⟩; rw [beq_iff_eq]; have g1 := Hpz.out; have g2 := Hlm.out; omega)
    | (exfalso; have g1 := Hpz.out; omega)

set_option maxRecDepth 100000 in
theorem lifted_FramePacks (os : Os) (started : os.Started) (H : Type) (enc : TypeId × Value → H) :
    ReturnsInHanded {} Try.checked os 3 .any (Rows.framePacksSpec.pre6 enc Try.prog Try.f3 Rows.framePacksRow.domain false) (Rows.framePacksSpec.post enc Try.prog Try.f3 false true false false) := by
  refine returnsInHanded_of_change_shaped (C := Try.checked) own started (by kernel_rfl) Try.func3
    (ChangeSpec.witness6 (enc := enc) (C := Try.checked) false ⟨#[], #[.string ByteArray.empty], []⟩ 8 (by kernel_rfl) (by kernel_rfl) (by kernel_rfl) (by kernel_rfl)) ?_
  intro W base args ds gs before hval0 hW hcnd hsz hsh _
  have hval : ∀ (j : Nat) t v, Try.f3.params[j]? = some t → args[j]? = some v → Value.okWide Try.prog W .any base t v := hval0
  have hW' := hW
  obtain ⟨p, q, hA0, hV, rfl, hfz, hnd⟩ := hW
  have hA : DataW.TrodAll enc Try.prog W 0 (fun _ => true) true Try.f3.params.toList args.toList ds p := hA0
  rw [Try.params3] at hA hval
  obtain ⟨v0, vs0, d0, ds0, p0, q0, hargs, rfl, rfl, h0, r0⟩ := trodAll_cons hA
  obtain ⟨rfl, rfl, rfl⟩ := trodAll_nil r0
  obtain rfl : args = #[v0] := by cases args; simp_all
  obtain ⟨s, rfl, _, _, w0⟩ := open_string Try.underlying9 (hval 0 9 v0 rfl rfl) h0
  refine (framePacks_any s W w0).mono fun e W' ⟨he, bel⟩ => ?_
  subst he
  exact ⟨_, rfl, law_post 4 laidOut (by kernel_rfl) rfl Try.underlying4 rfl hW' (fun ds' hl _ => by match ds', hl with | [x0], _ => rfl) bel⟩

theorem over_FramePacks : Rows.framePacksRow.holds Try.pinned (OpenSpec.ofChange Rows.framePacksSpec) :=
  OpenClaim.holds_of_wide 3 Try.f3 rfl rfl rfl rfl rfl rfl rfl ⟨rfl, rfl, rfl, rfl, rfl⟩ rfl rfl rfl rfl rfl (by kernel_rfl) Try.func3 (by kernel_rfl)
    (of_decide_eq_true (by kernel_rfl)) (by unfold Func.isWrapper; first | (rw [if_pos (by decide +kernel)]; kernel_rfl) | (rw [if_neg (by decide +kernel)]; exact ⟨rfl, rfl⟩))
    (fun os started H enc _ => lifted_FramePacks os started H enc)

/-- The given statement. -/
theorem framePacks_holds : Rows.FramePacksSaid := over_FramePacks

#print axioms framePacks_holds
end Go.Proofs.Ytejikjpaclnncaa
