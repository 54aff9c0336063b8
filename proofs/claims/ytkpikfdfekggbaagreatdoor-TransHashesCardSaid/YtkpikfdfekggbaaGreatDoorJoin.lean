/-
  The contract of term.join: numbers as a text. Conditions: the numbers are not below 0; the library's table is as it was laid.
-/
import Derived.Test.YtkpikfdfekggbaaGreatDoorArenaA
import Derived.Test.YtkpikfdfekggbaaGreatDoorBuilder
import Derived.Lib.SmallJoins
import Derived.Lib.ItoaLen
namespace Go.Proofs.YtkpikfdfekggbaaGreatDoor
open Go.RowKit Go.ChangeShapes Go.WideShapes Go.Sort

/-- The library's table is as it was laid. -/
def Tab (w : World) : Prop := Lib.TabIs Tryz.prog w "internal/strconv.uint64pow10" .u64 Lib.pow10Tab
theorem tabGlobal : ∃ g, Tryz.prog.globalNamed "internal/strconv.uint64pow10" = some g := ⟨1, by kernel_rfl⟩
theorem Tab.below {w w' : World} (h : Tab w) (hb : Below w.heap.size w w') : Tab w' := by
  obtain ⟨g, hg⟩ := tabGlobal
  exact Joins.tab_stays hg h hb (Nat.le_refl _)
theorem itoa_nat (i : Nat) : Lib.itoa (i : Int) = Lib.decDigits i := by
  unfold Lib.itoa
  rw [if_neg (by omega)]
  rfl
theorem below_grown (w : World) (k : Nat) (os : Array Obj) : Below w.heap.size w (grow (w.drewN k) os) :=
  ⟨rfl, rfl, rfl, by simp [grow], fun k hk => by simp [grow, Array.getElem?_append, hk]⟩
theorem bld_new (w : World) : Bld w.heap.size w.heap.size [] (w.alloc (.cells #[.pointer none, .slice none 0 0] 109)) :=
  .inl ⟨Nat.le_refl _, _, heap_alloc_new w _, World.ownsRow_nil _ _ _ _, by simp [Value.ownBlock]⟩
theorem bld_below {B b : Nat} {l : List UInt8} {w w' : World} (h : Bld B b l w) (hb : Below w.heap.size w w') : Bld B b l w' := by
  have key : ∀ p, Lib.BuilderAt 109 5 B b p (Lib.byteCells l) w → Lib.BuilderAt 109 5 B b p (Lib.byteCells l) w' := by
    rintro p ⟨h1, v, h2, h3, h4⟩
    exact ⟨h1, v, Blk.below (cs := #[p, v]) h2 hb (Blk.lt (cs := #[p, v]) h2), h3.kept (only_of_below hb none) (by cases v.ownBlock <;> simp), h4⟩
  rcases h with h | h
  · exact .inl (key _ h)
  · exact .inr (key _ h)
theorem itoa_any (n : Nat) (w : World) (hn : n ≤ 9223372036854775807) (ht : Tab w) : Calls Tryz.prog 128 #[.int .i64 n] w fun e w' => e = .returned (.string ⟨(Lib.decDigits n).toArray⟩) ∧ Below w.heap.size w w' := by
  refine (Tryz.strconv_Itoa n (by omega) (by omega) w ht).mono ?_
  rintro e w' ⟨rfl, k, os, rfl⟩
  exact ⟨by rw [itoa_nat], below_grown w k os⟩
theorem dec_len (n : Nat) (h : n ≤ 9223372036854775807) : (Lib.decDigits n).length ≤ 21 := by
  have := Lib.itoa_length_le (n : Int) (by omega) (by omega)
  rwa [itoa_nat] at this
theorem joinS_len {js : List Nat} (h : ∀ j ∈ js, j ≤ 9223372036854775807) : (joinS js).length ≤ js.length * 22 := by
  induction js with
  | nil => simp [joinS]
  | cons j js ih =>
    have h1 := dec_len j (h j (by simp))
    have h2 := ih fun x hx => h x (by simp [hx])
    have : joinS (j :: js) = Lib.decDigits j ++ 32 :: joinS js := by simp [joinS]
    rw [this]
    simp only [List.length_append, List.length_cons]
    omega
set_option maxHeartbeats 1000000 in
theorem join_any {v : Value} {js : List Nat} {w : World} (h : Ids w v (js.map Int.ofNat)) (ht : Tab w) (hl : js.length ≤ 1000000) (hj : ∀ j ∈ js, j ≤ 9223372036854775807) :
    Calls Tryz.prog 105 #[v] w fun e w' => e = .returned (.string (joinB js)) ∧ Below w.heap.size w w' := by
  obtain ⟨A, c, rfl, hr⟩ := h
  simp only [List.length_map] at hr ⊢
  have HB := hide (bld_new w)
  have Hj := hide hj
  have Ht := hide ht
  clear hj ht
  go_enter Tryz.func105, Tryz.ntmps105
  go_wp2
  go_loopw [8, 5] (fun i _ wr => ∃ k : Nat, k ≤ js.length ∧ i = .int .i64 k ∧ Bld w.heap.size w.heap.size (joinS (js.take k)) wr ∧ Below w.heap.size w wr) (fun i _ _ => js.length - (intOf i).toNat)
  case atStart => exact ⟨0, Nat.zero_le _, rfl, HB.out, by (repeat (first | exact Below.refl _ _ | refine below_drewN ?_ _ | refine Below.drew ?_ | refine Below.alloc ?_ (by first | omega | (simp; done) | (simp; omega)) _ | refine Below.setCell ?_ (by first | omega | (simp; done) | (simp; omega)) _ | refine bel_alloc ?_ _ | refine bel_trans ?_ (by assumption) | refine Below.trans ?_ (Below.mono (by assumption) (by first | omega | (simp; done) | (simp; omega)))))⟩
  case round =>
    obtain ⟨k, hk, rfl, hB, hbr⟩ := hrel
    by_cases hlt : k < js.length
    · have hki : (k : Int) < js.length := by omega
      obtain ⟨ad, u, rfl, _, hab, hu, hc0⟩ := hr.at_ hlt
      simp only [List.getElem?_map, List.getElem?_eq_getElem hlt, Option.map_some, Option.some.injEq] at hu
      subst hu
      have hc := cellAdd hbr hab hc0
      have hjk := Hj.out _ (List.getElem_mem hlt)
      have hT := joinS_len (js := js.take k) (fun x hx => Hj.out x (List.mem_of_mem_take hx))
      have hs := joinS_snoc (js.take k) js[k]
      rw [← List.take_succ_eq_append_getElem hlt] at hs
      have Hs := hide hs
      have hdl := dec_len js[k] hjk
      clear hs hc0
      generalize js[k] = n at hc hjk hdl Hs
      have hI := hide (itoa_any n wr hjk (Ht.out.below hbr))
      have hws := hbr.size
      have hTl : (js.take k).length ≤ js.length := List.length_take_le' _ _
      have hsz : (⟨(Lib.decDigits n).toArray⟩ : ByteArray).size ≤ 21 := hdl
      have hlen : (joinS (js.take k)).length + ((⟨(Lib.decDigits n).toArray⟩ : ByteArray) ++ (⟨#[32]⟩ : ByteArray)).size ≤ 140737488355328 := by
        rw [ByteArray.size_append]
        have : (⟨#[32]⟩ : ByteArray).size = 1 := rfl
        omega
      have Hlen := hide hlen
      clear hT hlen
      go_wp2_with (first
        | (go_at_call 128; refine hI.out.mono ?_; rintro e w1 ⟨rfl, hb1⟩; have hB1 := bld_below hB hb1; have ha1 := hbr.trans (hb1.mono hws); have hz1 := ha1.size)
        | (go_at_call 88; refine (bld_write _ hB1 Hlen.out hz1).mono ?_; rintro e w2 ⟨rfl, hB2, hb2⟩))
      go_round
      case rel =>
        refine ⟨k + 1, hlt, by go_num, ?_, ha1.trans hb2⟩
        rw [Hs.out]
        simpa using hB2
      case measure => simp [intOf]; omega
    · have hki : ¬ (k : Int) < js.length := by omega
      obtain rfl : k = js.length := by omega
      rw [List.take_length] at hB
      go_wp2_with (go_at_call 53; refine (bld_string hB hbr.size).mono ?_; rintro e w1 ⟨rfl, hb1⟩)
      go_ret
      exact ⟨rfl, hbr.trans hb1⟩
end Go.Proofs.YtkpikfdfekggbaaGreatDoor
