/-
  The law KexinitCookies: cookies are the reference's, unlike ones for unlike small numbers; and Same is the reference's. Conditions: none.
-/
import Derived.Test.YtnkkmhlppghajaaKexB
import Derived.Test.YtnkkmhlppghajaaKexC
import Derived.Test.YtnkkmhlppghajaaKexD
namespace Go.Proofs.Ytnkkmhlppghajaa
open Go.ChangeShapes Go.WideShapes Go.ChangeAt Go.RowKit
open Go.ChangeMaps (open_string shut_string)

theorem cookies_any {a0 a1 b0 b1 : Int} {us1 us2 : List Value} {x y : Ini} {w : World} (ha0 : a0 ≤ 9223372036854775807) (ha1 : a1 ≤ 9223372036854775807) (hb0 : b0 ≤ 9223372036854775807) (hb1 : b1 ≤ 9223372036854775807) (h1 : IniV w us1 x) (h2 : IniV w us2 y) :
    Calls Try.prog 3 #[.agg #[.int .i64 a0, .int .i64 a1], .agg #[.int .i64 b0, .int .i64 b1], .agg (us1 ++ us2).toArray] w fun e w' => e = .returned (.bool true) ∧ Below w.heap.size w w' := by
  by_cases fx : fewI x = true
  · by_cases fy : fewI y = true
    · exact cookies_tt ha0 ha1 hb0 hb1 h1 h2 fx fy
    · exact cookies_tf ha0 ha1 hb0 hb1 h1 h2 fx fy
  · exact cookies_f ha0 ha1 hb0 hb1 h1 h2 fx
theorem wf_le {n : Int} (h : (Lit.int .i64 n).wf = true) : n ≤ 9223372036854775807 := by
  simp [Lit.wf, IntKind.min, IntKind.max, IntKind.signed, IntKind.bits] at h
  omega
theorem open_inis {H : Type} {enc : TypeId × Value → H} {w : World} {base : Nat} {spare : Nat → Bool} {held : Bool} {v : Value} {d : DataW H} {p : List MemPlace} {r : Reach} {b0 : Nat}
    (hv : Value.okWide Try.prog w r b0 29 v) (h : DataW.Trod enc Try.prog w base spare held 29 v d p) : ∃ us1 us2 x y, v = .agg (us1 ++ us2).toArray ∧ IniV w us1 x ∧ IniV w us2 y := by
  obtain ⟨cs, rfl, ho⟩ := open_array 6 (l := iniS ++ (iniS ++ [])) Try.underlying29 (by kernel_rfl) hv h
  obtain ⟨x, us1, us2, rfl, h1, h2⟩ := open_ini ho
  obtain ⟨y, us3, us4, rfl, h3, h4⟩ := open_ini h2
  obtain rfl : us4 = [] := by
    cases us4 with
    | nil => rfl
    | cons a b => simp [Shp.oks] at h4
  exact ⟨us1, us3, x, y, by simp, h1, h3⟩

set_option maxRecDepth 100000 in
theorem lifted_KexinitCookies (os : Os) (started : os.Started) (H : Type) (enc : TypeId × Value → H) :
    ReturnsInHanded {} Try.checked os 3 .any (Rows.kexinitCookiesSpec.pre6 enc Try.prog Try.f3 Rows.kexinitCookiesRow.domain false) (Rows.kexinitCookiesSpec.post enc Try.prog Try.f3 false true false false) := by
  refine returnsInHanded_of_change_shaped (C := Try.checked) own started (by kernel_rfl) Try.func3
    (ChangeSpec.witness6 (enc := enc) (C := Try.checked) false ⟨#[], #[.agg #[.int .i64 0, .int .i64 0], .agg #[.int .i64 0, .int .i64 0], .agg #[.string ByteArray.empty, .slice none 0 0, .slice none 0 0, .slice none 0 0, .slice none 0 0, .slice none 0 0, .slice none 0 0, .slice none 0 0, .slice none 0 0, .slice none 0 0, .slice none 0 0, .bool false, .bool false, .bool false, .bool false, .bool false, .string ByteArray.empty, .slice none 0 0, .slice none 0 0, .slice none 0 0, .slice none 0 0, .slice none 0 0, .slice none 0 0, .slice none 0 0, .slice none 0 0, .slice none 0 0, .slice none 0 0, .bool false, .bool false, .bool false, .bool false, .bool false]], []⟩ 8 (by kernel_rfl) (by kernel_rfl) (by kernel_rfl) (by kernel_rfl)) ?_
  intro W base args ds gs before hval0 hW hcnd hsz hsh _
  have hval : ∀ (j : Nat) t v, Try.f3.params[j]? = some t → args[j]? = some v → Value.okWide Try.prog W .any base t v := hval0
  have hW' := hW
  obtain ⟨p, q, hA0, hV, rfl, hfz, hnd⟩ := hW
  have hA : DataW.TrodAll enc Try.prog W 0 (fun _ => true) true Try.f3.params.toList args.toList ds p := hA0
  rw [Try.params3] at hA hval
  obtain ⟨v0, vs0, d0, ds0, p0, q0, hargs, rfl, rfl, h0, r0⟩ := trodAll_cons hA
  obtain ⟨v1, vs1, d1, ds1, p1, q1, rfl, rfl, rfl, h1, r1⟩ := trodAll_cons r0
  obtain ⟨v2, vs2, d2, ds2, p2, q2, rfl, rfl, rfl, h2, r2⟩ := trodAll_cons r1
  obtain ⟨rfl, rfl, rfl⟩ := trodAll_nil r2
  obtain rfl : args = #[v0, v1, v2] := by cases args; simp_all
  obtain ⟨l0, hl0, hv0, w0⟩ := open_arr_int Try.underlying22 Try.underlying3 (by kernel_rfl) (by kernel_rfl) (hval 0 22 v0 rfl rfl) h0
  match l0, hl0 with
  | [a0, a1], _ =>
  simp only [List.map_cons, List.map_nil] at hv0
  subst hv0
  obtain ⟨l1, hl1, hv1, w1⟩ := open_arr_int Try.underlying22 Try.underlying3 (by kernel_rfl) (by kernel_rfl) (hval 1 22 v1 rfl rfl) h1
  match l1, hl1 with
  | [b0, b1], _ =>
  simp only [List.map_cons, List.map_nil] at hv1
  subst hv1
  obtain ⟨us1, us2, x, y, rfl, hx2, hy2⟩ := open_inis (hval 2 29 v2 rfl rfl) h2
  refine (cookies_any (wf_le (w0 a0 (by simp))) (wf_le (w0 a1 (by simp))) (wf_le (w1 b0 (by simp))) (wf_le (w1 b1 (by simp))) hx2 hy2).mono fun e W' ⟨he, bel⟩ => ?_
  subst he
  exact ⟨_, rfl, law_post 4 laidOut (by kernel_rfl) rfl Try.underlying4 rfl hW' (fun ds' hl _ => by match ds', hl with | [x0, x1, x2], _ => rfl) bel⟩

theorem over_KexinitCookies : Rows.kexinitCookiesRow.holds Try.pinned (OpenSpec.ofChange Rows.kexinitCookiesSpec) :=
  OpenClaim.holds_of_wide 3 Try.f3 rfl rfl rfl rfl rfl rfl rfl ⟨rfl, rfl, rfl, rfl, rfl⟩ rfl rfl rfl rfl rfl (by kernel_rfl) Try.func3 (by kernel_rfl)
    (of_decide_eq_true (by kernel_rfl)) (by unfold Func.isWrapper; first | (rw [if_pos (by decide +kernel)]; kernel_rfl) | (rw [if_neg (by decide +kernel)]; exact ⟨rfl, rfl⟩))
    (fun os started H enc _ => lifted_KexinitCookies os started H enc)

/-- The given statement. -/
theorem kexinitCookies_holds : Rows.KexinitCookiesSaid := over_KexinitCookies

end Go.Proofs.Ytnkkmhlppghajaa
