/-
  The last step of the law StreamPieces. Conditions: none.
-/
import Derived.Test.YtejikjpaclnncaaStreamPieces
import Derived.Deep.Slices
import Derived.Deep.Fields
import Derived.ChangeSame
namespace Go.Proofs.Ytejikjpaclnncaa
open Go.ChangeShapes Go.WideShapes Go.ChangeAt Go.RowKit Go.Deep
open Go.ChangeMaps (open_string shut_string)

theorem cell_lt' {w : World} {a : Addr} {v : Value} (h : w.cell? a = some v) : a.block < w.heap.size := by
  rcases Nat.lt_or_ge a.block w.heap.size with hlt | hge
  · exact hlt
  · exfalso
    unfold World.cell? at h
    rw [Array.getElem?_eq_none hge] at h
    simp at h
theorem open_u8s {H : Type} {enc : TypeId × Value → H} {w : World} {base : Nat} {spare : Nat → Bool} {held : Bool} {v : Value} {d : DataW H} {p : List MemPlace} {r : Reach} {b0 : Nat}
    (_hv : Value.okWide Try.prog w r b0 30 v) (h : DataW.Trod enc Try.prog w base spare held 30 v d p) : ∃ n Z, U8s w v n Z := by
  obtain ⟨fuel, hf⟩ := h
  obtain ⟨a0, l0, c0, rfl⟩ := okWide_slice Try.underlying30 _hv
  rcases open_slice Try.underlying30 hf with ⟨hc, _⟩ | ⟨a, len, cap, m, n, D, Pl, hc, hb, hl, hm, hmm, _, hi⟩
  · obtain ⟨rfl, rfl, rfl⟩ : a0 = none ∧ l0 = 0 ∧ c0 = 0 := by simpa [Value.cells] using hc
    exact ⟨0, fun _ => 0, none, 0, rfl, Nat.zero_le _, fun i h => absurd h (Nat.not_lt_zero _)⟩
  · obtain ⟨rfl, rfl, rfl⟩ : a0 = some a ∧ l0 = len ∧ c0 = cap := by simpa [Value.cells] using hc
    have hall : ∀ i, ∃ z : Nat, i < l0 → w.cell? (a.add i) = some (.int .u8 z) ∧ z < 256 := by
      intro i
      by_cases hil : i < l0
      · have him : i < m := by rw [hmm]; split <;> omega
        obtain ⟨cs', hcs, ht⟩ := hi i him
        obtain ⟨x, e0, _, hw⟩ := DataW.trod_int Try.underlying5 ht
        have hx := bounds_u8 hw
        obtain ⟨_, hcl, hat⟩ := World.cells?_some hcs
        have h1 : Try.prog.cellsOf 5 = 1 := by kernel_rfl
        subst e0
        rw [h1] at hat hcl
        have h2 := hat (i := 0) (by omega)
        obtain ⟨z, rfl⟩ := Int.eq_ofNat_of_zero_le (show 0 ≤ x by omega)
        refine ⟨z, fun _ => ⟨?_, by omega⟩⟩
        rw [add_of_add] at h2
        simpa using h2
      · exact ⟨0, fun h => absurd h hil⟩
    obtain ⟨f, hf⟩ := Classical.axiomOfChoice hall
    refine ⟨l0, f, some a, c0, rfl, by omega, fun i hil => ?_⟩
    obtain ⟨k0, hs⟩ := hf i hil
    have hb := cell_lt' k0
    rw [block_of_add] at hb
    exact ⟨a, rfl, hb, k0, hs⟩

set_option maxRecDepth 100000 in
theorem lifted_StreamPieces (os : Os) (started : os.Started) (H : Type) (enc : TypeId × Value → H) :
    ReturnsInHanded {} Try.checked os 7 .any (Rows.streamPiecesSpec.pre6 enc Try.prog Try.f7 Rows.streamPiecesRow.domain false) (Rows.streamPiecesSpec.post enc Try.prog Try.f7 false true false false) := by
  refine returnsInHanded_of_change_shaped (C := Try.checked) own started (by kernel_rfl) Try.func7
    (ChangeSpec.witness6 (enc := enc) (C := Try.checked) false ⟨#[], #[.string ByteArray.empty, .slice none 0 0], []⟩ 8 (by kernel_rfl) (by kernel_rfl) (by kernel_rfl) (by kernel_rfl)) ?_
  intro W base args ds gs before hval0 hW hcnd hsz hsh _
  have hval : ∀ (j : Nat) t v, Try.f7.params[j]? = some t → args[j]? = some v → Value.okWide Try.prog W .any base t v := hval0
  have hW' := hW
  obtain ⟨p, q, hA0, hV, rfl, hfz, hnd⟩ := hW
  have hA : DataW.TrodAll enc Try.prog W 0 (fun _ => true) true Try.f7.params.toList args.toList ds p := hA0
  rw [Try.params7] at hA hval
  obtain ⟨v0, vs0, d0, ds0, p0, q0, hargs, rfl, rfl, h0, r0⟩ := trodAll_cons hA
  obtain ⟨v1, vs1, d1, ds1, p1, q1, rfl, rfl, rfl, h1, r1⟩ := trodAll_cons r0
  obtain ⟨rfl, rfl, rfl⟩ := trodAll_nil r1
  obtain rfl : args = #[v0, v1] := by cases args; simp_all
  obtain ⟨s, rfl, _, _, w0⟩ := open_string Try.underlying9 (hval 0 9 v0 rfl rfl) h0
  obtain ⟨n1, Z1, H1⟩ := open_u8s (hval 1 30 v1 rfl rfl) h1
  refine (streamPieces_any w0 H1).mono fun e W' ⟨he, bel⟩ => ?_
  subst he
  exact ⟨_, rfl, law_post 4 laidOut (by kernel_rfl) rfl Try.underlying4 rfl hW' (fun ds' hl _ => by match ds', hl with | [x0, x1], _ => rfl) bel⟩

theorem over_StreamPieces : Rows.streamPiecesRow.holds Try.pinned (OpenSpec.ofChange Rows.streamPiecesSpec) :=
  OpenClaim.holds_of_wide 7 Try.f7 rfl rfl rfl rfl rfl rfl rfl ⟨rfl, rfl, rfl, rfl, rfl⟩ rfl rfl rfl rfl rfl (by kernel_rfl) Try.func7 (by kernel_rfl)
    (of_decide_eq_true (by kernel_rfl)) (by unfold Func.isWrapper; first | (rw [if_pos (by decide +kernel)]; kernel_rfl) | (rw [if_neg (by decide +kernel)]; exact ⟨rfl, rfl⟩))
    (fun os started H enc _ => lifted_StreamPieces os started H enc)

/-- The given statement. -/
theorem streamPieces_holds : Rows.StreamPiecesSaid := over_StreamPieces

#print axioms streamPieces_holds
end Go.Proofs.Ytejikjpaclnncaa
