/-
  What is listed of the variables of prefs gives their cells. Conditions: none.
-/
import Derived.Test.YtjaipdenahlheaaDoorKCfC
import Derived.Test.YtjaipdenahlheaaDoorKMsgG
import Derived.Test.YtjaipdenahlheaaDoorCards
import Derived.Test.YtjaipdenahlheaaDoorTie
import Derived.Lib.LaidTab
import Derived.Stop.LaidErr
import Derived.Lay
import Derived.SevenTiedAt
import Derived.LaidHandle
import Derived.MakeChecks
import Derived.Lib.LaidU8
set_option linter.unusedVariables false
set_option linter.unusedSimpArgs false
namespace Go.Proofs.YtjaipdenahlheaaDoor
open Go.RowKit Go.ChangeShapes Go.WideShapes Go.ChangeAt
theorem str_of_trodC {H : Type} {enc : TypeId × Value → H} {w : World} {base : Nat} {sp : Nat → Bool} {held : Bool} {fuel : Nat} {c : Value} {y : DataW H × List MemPlace}
    (h : DataW.trod enc Tryd.prog w base sp held fuel 9 [c] = some y) : ∃ s : ByteArray, c = .string s ∧ y = (.lit (.string s.data.toList), []) := by
  obtain ⟨s, hc, hy, _⟩ := DataW.trod_string Tryd.underlying9 h
  simp only [List.cons.injEq, and_true] at hc
  exact ⟨s, hc, hy⟩
theorem ba_of_listC {s : ByteArray} {l : List UInt8} (h : s.data.toList = l) : s = ⟨l.toArray⟩ := by rw [← h, Lib.mk_data]
theorem meth_of {W : World} (h : Lib.VarReads Tryd.prog W "shibboleth/prefs.methods" Rows.laid_shibboleth_prefs_methods) : MethV W := by
  obtain ⟨g, t, cs, fuel, p, hg, ht, hvar, hd⟩ := h
  have hg0 : Tryd.prog.globalNamed "shibboleth/prefs.methods" = some 0 := by kernel_rfl
  have ht0 : (Tryd.prog.globals[0]?).map (·.type) = some 60 := by kernel_rfl
  have hc1 : Tryd.prog.cellsOf 60 = 4 := by kernel_rfl
  have hc2 : Tryd.prog.cellsOf 9 = 1 := by kernel_rfl
  obtain rfl := Option.some.inj (hg0.symm.trans hg)
  obtain rfl := Option.some.inj (ht0.symm.trans ht)
  have key : cs = #[.string ⟨#[]⟩, .string ⟨#[99, 117, 114, 118, 101, 50, 53, 53, 49, 57, 45, 115, 104, 97, 50, 53, 54]⟩, .string ⟨#[101, 99, 100, 104, 45, 115, 104, 97, 50, 45, 110, 105, 115, 116, 112, 50, 53, 54]⟩, .string ⟨#[100, 105, 102, 102, 105, 101, 45, 104, 101, 108, 108, 109, 97, 110, 45, 103, 114, 111, 117, 112, 45, 101, 120, 99, 104, 97, 110, 103, 101, 45, 115, 104, 97, 50, 53, 54]⟩] := by
    obtain ⟨l⟩ := cs
    cases fuel with
    | zero => simp [DataW.trod] at hd
    | succ fuel =>
      simp only [DataW.trod, Tryd.underlying60, hc1, hc2] at hd
      split at hd
      · rename_i hl
        obtain ⟨c0, c1, c2, c3, rfl⟩ : ∃ c0 c1 c2 c3, l = [c0, c1, c2, c3] := by
          match l, hl with
          | [x0, x1, x2, x3], _ => exact ⟨x0, x1, x2, x3, rfl⟩
        have e : List.range 4 = [0, 1, 2, 3] := rfl
        rw [e] at hd
        simp only [Option.map_eq_some_iff, List.mapM_cons, List.mapM_nil, Option.bind_eq_bind, Option.bind_eq_some_iff, Option.pure_def, Option.some.injEq] at hd
        obtain ⟨xs, ⟨y0, h0, _, ⟨y1, h1, _, ⟨y2, h2, _, ⟨y3, h3, _, rfl, rfl⟩, rfl⟩, rfl⟩, rfl⟩, hx⟩ := hd
        obtain ⟨n0, rfl, rfl⟩ := str_of_trodC h0
        obtain ⟨n1, rfl, rfl⟩ := str_of_trodC h1
        obtain ⟨n2, rfl, rfl⟩ := str_of_trodC h2
        obtain ⟨n3, rfl, rfl⟩ := str_of_trodC h3
        simp [Rows.laid_shibboleth_prefs_methods] at hx
        obtain ⟨⟨e0, e1, e2, e3⟩, _⟩ := hx
        rw [show n0 = ⟨#[]⟩ from by cases n0; simpa using e0, ba_of_listC e1, ba_of_listC e2, ba_of_listC e3]
      · cases hd
  subst key
  have hv := fun i => World.var?_cell hg0 hvar i
  exact ⟨by simpa using hv 0, by simpa using hv 1, by simpa using hv 2, by simpa using hv 3⟩
theorem word_of {W : World} (h : Lib.VarReads Tryd.prog W "shibboleth/prefs.words" Rows.laid_shibboleth_prefs_words) : WordV W := by
  obtain ⟨g, t, cs, fuel, p, hg, ht, hvar, hd⟩ := h
  have hg0 : Tryd.prog.globalNamed "shibboleth/prefs.words" = some 1 := by kernel_rfl
  have ht0 : (Tryd.prog.globals[1]?).map (·.type) = some 90 := by kernel_rfl
  have hc1 : Tryd.prog.cellsOf 90 = 8 := by kernel_rfl
  have hc2 : Tryd.prog.cellsOf 9 = 1 := by kernel_rfl
  obtain rfl := Option.some.inj (hg0.symm.trans hg)
  obtain rfl := Option.some.inj (ht0.symm.trans ht)
  have key : cs = #[.string ⟨#[107, 101, 120]⟩, .string ⟨#[104, 111, 115, 116]⟩, .string ⟨#[101, 110, 99, 45, 99]⟩, .string ⟨#[101, 110, 99, 45, 115]⟩, .string ⟨#[109, 97, 99, 45, 99]⟩, .string ⟨#[109, 97, 99, 45, 115]⟩, .string ⟨#[99, 111, 109, 112, 45, 99]⟩, .string ⟨#[99, 111, 109, 112, 45, 115]⟩] := by
    obtain ⟨l⟩ := cs
    cases fuel with
    | zero => simp [DataW.trod] at hd
    | succ fuel =>
      simp only [DataW.trod, Tryd.underlying90, hc1, hc2] at hd
      split at hd
      · rename_i hl
        obtain ⟨c0, c1, c2, c3, c4, c5, c6, c7, rfl⟩ : ∃ c0 c1 c2 c3 c4 c5 c6 c7, l = [c0, c1, c2, c3, c4, c5, c6, c7] := by
          match l, hl with
          | [x0, x1, x2, x3, x4, x5, x6, x7], _ => exact ⟨x0, x1, x2, x3, x4, x5, x6, x7, rfl⟩
        have e : List.range 8 = [0, 1, 2, 3, 4, 5, 6, 7] := rfl
        rw [e] at hd
        simp only [Option.map_eq_some_iff, List.mapM_cons, List.mapM_nil, Option.bind_eq_bind, Option.bind_eq_some_iff, Option.pure_def, Option.some.injEq] at hd
        obtain ⟨xs, ⟨y0, h0, _, ⟨y1, h1, _, ⟨y2, h2, _, ⟨y3, h3, _, ⟨y4, h4, _, ⟨y5, h5, _, ⟨y6, h6, _, ⟨y7, h7, _, rfl, rfl⟩, rfl⟩, rfl⟩, rfl⟩, rfl⟩, rfl⟩, rfl⟩, rfl⟩, hx⟩ := hd
        obtain ⟨n0, rfl, rfl⟩ := str_of_trodC h0
        obtain ⟨n1, rfl, rfl⟩ := str_of_trodC h1
        obtain ⟨n2, rfl, rfl⟩ := str_of_trodC h2
        obtain ⟨n3, rfl, rfl⟩ := str_of_trodC h3
        obtain ⟨n4, rfl, rfl⟩ := str_of_trodC h4
        obtain ⟨n5, rfl, rfl⟩ := str_of_trodC h5
        obtain ⟨n6, rfl, rfl⟩ := str_of_trodC h6
        obtain ⟨n7, rfl, rfl⟩ := str_of_trodC h7
        simp [Rows.laid_shibboleth_prefs_words] at hx
        obtain ⟨⟨e0, e1, e2, e3, e4, e5, e6, e7⟩, _⟩ := hx
        rw [ba_of_listC e0, ba_of_listC e1, ba_of_listC e2, ba_of_listC e3, ba_of_listC e4, ba_of_listC e5, ba_of_listC e6, ba_of_listC e7]
      · cases hd
  subst key
  have hv := fun i => World.var?_cell hg0 hvar i
  exact ⟨by simpa using hv 0, by simpa using hv 1, by simpa using hv 2, by simpa using hv 3, by simpa using hv 4, by simpa using hv 5, by simpa using hv 6, by simpa using hv 7⟩
end Go.Proofs.YtjaipdenahlheaaDoor
