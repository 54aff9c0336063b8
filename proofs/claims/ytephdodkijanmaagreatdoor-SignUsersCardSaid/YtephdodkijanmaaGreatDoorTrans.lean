/-
  The contracts of trans's asked, List and Hash. Conditions: texts of at most a million bytes.
-/
import Derived.Test.YtephdodkijanmaaGreatDoorMakesA
import Derived.Test.YtephdodkijanmaaGreatDoorWholeA
import Derived.Test.YtephdodkijanmaaGreatDoorEncA
set_option linter.unusedVariables false
set_option linter.unusedSimpArgs false
namespace Go.Proofs.YtephdodkijanmaaGreatDoor
open Go.RowKit Go.ChangeShapes Go.WideShapes Go.Sort

theorem DataP.from_ {B g : Nat} {w w2 w' : World} {T : List Tm} {S : Nat → Prop} {os : List (Option Tm)} {e : Ending} (h : DataP B w2 g T S os e w') (hb : Below w.heap.size w w2) : DataP B w g T S os e w' := by
  obtain ⟨T', S', v, h1, ⟨⟨ns, h2, h2'⟩, h2''⟩, h3, h4, h5, h6⟩ := h
  exact ⟨T', S', v, h1, ⟨⟨ns, own_base h2 hb.size, h2'⟩, h2''⟩, h3, h4, h5, (Grown.of_below hb).trans h6⟩
theorem DataP.nil_ {B g : Nat} {w w' : World} {T : List Tm} {S : Nat → Prop} (h : Ar B w g T S) (hb : Below w.heap.size w w') : DataP B w g T S [] (.returned (.slice none 0 0)) w' :=
  ⟨T, S, _, rfl, ido_nil _ _ _ _, List.prefix_refl _, Nat.le_refl _, h.below hb, Grown.of_below hb⟩
/-- Parts, as trans has them. -/
def partsV (p : PartsP) (nk ne nf ns : Int) : Value :=
  .agg #[.string p.v0, .string p.v1, .string p.v2, .string p.v3, .int .i64 nk, .bool p.asks, .int .u32 p.w0, .int .u32 p.w1, .int .u32 p.w2, .string p.gp, .string p.gg, .int .i64 ne, .int .i64 nf, .int .i64 ns]
/-- Numbers that fit. -/
structure PFit (p : PartsP) : Prop where
  w0 : p.w0 < 4294967296
  w1 : p.w1 < 4294967296
  w2 : p.w2 < 4294967296
  v0 : p.v0.size ≤ 1000000
  v1 : p.v1.size ≤ 1000000
  v2 : p.v2.size ≤ 1000000
  v3 : p.v3.size ≤ 1000000
  gp : p.gp.size ≤ 300000
  gg : p.gg.size ≤ 300000
section
variable {B g : Nat} {w : World} {T : List Tm} {S : Nat → Prop}
theorem DataP.open_ {os : List (Option Tm)} {e : Ending} {w' : World} (h : DataP B w g T S os e w') : ∃ T' S' A c, e = .returned (.slice A os.length c) ∧ IdO w.heap.size w' T' os (.slice A os.length c) S' ∧ T <+: T' ∧ T'.length ≤ T.length + os.length ∧ Ar B w' g T' S' ∧ Grown S w S' w' := by
  obtain ⟨T', S', v, h1, h2, h3⟩ := h
  obtain ⟨A, c, rfl⟩ := h2.sl
  exact ⟨T', S', A, c, h1, h2, h3⟩
end
end Go.Proofs.YtephdodkijanmaaGreatDoor
