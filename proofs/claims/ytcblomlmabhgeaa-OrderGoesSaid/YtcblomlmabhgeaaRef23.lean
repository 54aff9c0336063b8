/-
  The contracts of the reference for package order. Conditions: none.
-/
import Derived.Test.YtcblomlmabhgeaaRef06c
import Derived.Test.YtcblomlmabhgeaaOrder
namespace Go.Proofs.Ytcblomlmabhgeaa
open Go.RowKit

/-- A slice of ints that reads as the list l. -/
def Ints (lo : Nat) (w : World) (v : Value) (l : List Int) : Prop := ∃ A c, v = .slice A l.length c ∧ Sl lo w 1 A l.length (l.map (Value.int .i64))
theorem ints_new (w : World) (t : TypeId) (l : List Int) (v : Value) (hv : v = .slice (some ⟨w.heap.size, 0, none⟩) l.length l.length) : Ints w.heap.size (w.alloc (.cells (l.map (Value.int .i64)).toArray t)) v l := by
  subst hv
  have h := Blk.new w t (l.map (Value.int .i64)).toArray
  refine ⟨_, _, rfl, by simp, fun _ => ⟨_, rfl, Nat.le_refl _, h.lt, fun j u hu => ?_⟩⟩
  rw [add_zero_, h.cell j]
  simpa using hu
theorem Sl.num {lo : Nat} {w : World} {A : Option Addr} {l : List Int} {k : Nat} (h : Sl lo w 1 A l.length (l.map (Value.int .i64))) (hk : k < l.length) :
    ∃ ad, A = some ad ∧ ad.block < w.heap.size ∧ w.cell? (ad.add k) = some (.int .i64 l[k]) := by
  obtain ⟨ad, u, hA, _, hb, hu, hc⟩ := h.at_ hk
  simp only [List.getElem?_map, List.getElem?_eq_getElem hk, Option.map_some, Option.some.injEq] at hu
  subst hu
  exact ⟨ad, hA, hb, hc⟩
set_option maxHeartbeats 400000 in
theorem has_any {lo : Nat} {v : Value} {l : List Int} (n : Int) (w : World) (h : Ints lo w v l) (hl : l.length ≤ 9223372036854775807) :
    Calls Try.prog 32 #[v, .int .i64 n] w fun e w' => e = .returned (.bool (decide (n ∈ l))) ∧ w = w' := by
  obtain ⟨A, c, rfl, hr⟩ := h
  go_enter Try.func32, Try.ntmps32
  go_wp2
  go_loop [5] (fun i => ∃ k : Nat, k ≤ l.length ∧ i = .int .i64 k ∧ ∀ j (h : j < l.length), j < k → l[j] ≠ n) (fun i => l.length - (intOf i).toNat)
  case atStart => exact ⟨0, Nat.zero_le _, rfl, by simp⟩
  case round =>
    obtain ⟨k, hk, rfl, hno⟩ := hrel
    by_cases hlt : k < l.length
    · obtain ⟨ad, rfl, hlo, hc⟩ := hr.num hlt
      by_cases he : l[k] = n
      · have hm : n ∈ l := by rw [← he]; exact List.getElem_mem hlt
        generalize l[k] = x at hc he
        subst he
        clear hno
        go_wp2
        go_ret
        exact ⟨ret_bool (by simp_all), rfl⟩
      · have hno' : ∀ j (h : j < l.length), j < k + 1 → l[j] ≠ n := by
          intro j h hj
          by_cases hjk : j = k
          · subst hjk; exact he
          · exact hno j h (by omega)
        have Hno := hide hno'
        generalize l[k] = x at hc he
        clear hno hno'
        go_wp2
        go_round
        case rel => exact ⟨k + 1, hlt, by go_num, Hno.out⟩
        case measure => simp [intOf]; omega
    · have hm : n ∉ l := by
        intro hm
        obtain ⟨j, hj, e⟩ := List.getElem_of_mem hm
        exact hno j hj (by omega) e
      clear hno
      go_wp2
      go_ret
      exact ⟨ret_bool (by simp_all), rfl⟩
theorem has_noise (n : Int) (b : Nat) (w : World) (hb : b = w.heap.size) : Calls Try.prog 32 #[.slice (some ⟨b, 0, none⟩) 3 3, .int .i64 n] (w.alloc (.cells #[.int .i64 2, .int .i64 3, .int .i64 4] 3)) fun e w' => e = .returned (.bool (decide (n ∈ [(2 : Int), (3 : Int), (4 : Int)]))) ∧ w.alloc (.cells #[.int .i64 2, .int .i64 3, .int .i64 4] 3) = w' :=
  has_any (lo := w.heap.size) (l := [2, 3, 4]) n _ (ints_new w 3 [2, 3, 4] _ (by rw [hb]; rfl)) (by decide)
theorem has_srv (n : Int) (b : Nat) (w : World) (hb : b = w.heap.size) : Calls Try.prog 32 #[.slice (some ⟨b, 0, none⟩) 3 3, .int .i64 n] (w.alloc (.cells #[.int .i64 20, .int .i64 5, .int .i64 50] 3)) fun e w' => e = .returned (.bool (decide (n ∈ [(20 : Int), (5 : Int), (50 : Int)]))) ∧ w.alloc (.cells #[.int .i64 20, .int .i64 5, .int .i64 50] 3) = w' :=
  has_any (lo := w.heap.size) (l := [20, 5, 50]) n _ (ints_new w 3 [20, 5, 50] _ (by rw [hb]; rfl)) (by decide)
theorem has_cli (n : Int) (b : Nat) (w : World) (hb : b = w.heap.size) : Calls Try.prog 32 #[.slice (some ⟨b, 0, none⟩) 7 7, .int .i64 n] (w.alloc (.cells #[.int .i64 20, .int .i64 6, .int .i64 7, .int .i64 51, .int .i64 52, .int .i64 53, .int .i64 60] 3)) fun e w' => e = .returned (.bool (decide (n ∈ [(20 : Int), (6 : Int), (7 : Int), (51 : Int), (52 : Int), (53 : Int), (60 : Int)]))) ∧ w.alloc (.cells #[.int .i64 20, .int .i64 6, .int .i64 7, .int .i64 51, .int .i64 52, .int .i64 53, .int .i64 60] 3) = w' :=
  has_any (lo := w.heap.size) (l := [20, 6, 7, 51, 52, 53, 60]) n _ (ints_new w 3 [20, 6, 7, 51, 52, 53, 60] _ (by rw [hb]; rfl)) (by decide)
theorem of_word (n : Int) (w : World) : Calls Try.prog 18 #[.int .i64 n] w fun e w' => ∃ fv, e = .returned (.agg #[.int .i64 (rowOf n).1, .string (word n), fv]) ∧ Strs w.heap.size w' fv (forms n) ∧ Below w.heap.size w w' := by
  have h := of_any n w
  rw [rowOf_word, rowOf_forms] at h
  exact h
def rjudge (p : Int) (f s : Bool) (n : Int) : Int :=
  if p < 1 ∨ 4 < p ∨ n < 0 ∨ 255 < n then 0 else if n = 1 then 4
  else if p < 4 then (if (p = 1 ∧ n = 20) ∨ (p = 2 ∧ 30 ≤ n ∧ n ≤ 49) ∨ (p = 3 ∧ n = 21) then 1 else if n ∈ [(2 : Int), 3, 4] ∧ f = false then 2 else 0)
  else if n ∈ [(2 : Int), 3, 4] ∨ (n = 7 ∧ s = true) then 2 else if n ∈ (if s then [(20 : Int), 5, 50] else [20, 6, 7, 51, 52, 53, 60]) then 1
  else if 0 < (word n).size ∨ (30 ≤ n ∧ n ≤ 49) then 0 else 3
set_option maxHeartbeats 4000000 in
theorem rjudge_any (p n : Int) (f s : Bool) (w : World) : Calls Try.prog 15 #[.int .i64 p, .bool f, .bool s, .int .i64 n] w fun e w' => e = .returned (.int .i64 (rjudge p f s n)) ∧ Below w.heap.size w w' := by
  go_enter Try.func15, Try.ntmps15
  go_wp2_with (first
    | (go_at_call 32; ((with_reducible refine (has_noise _ _ _ (by simp)).mono ?_); rintro e w' ⟨rfl, rfl⟩))
    | (go_at_call 32; ((with_reducible refine (has_srv _ _ _ (by simp)).mono ?_); rintro e w' ⟨rfl, rfl⟩))
    | (go_at_call 32; ((with_reducible refine (has_cli _ _ _ (by simp)).mono ?_); rintro e w' ⟨rfl, rfl⟩))
    | (go_at_call 18; refine (of_word _ _).mono ?_; rintro e w1 ⟨v, rfl, ⟨A, c, rfl, hr⟩, hb⟩))
  all_goals (go_ret; refine ⟨ret_int ?_, ?_⟩)
  all_goals try (repeat (first | exact Below.refl _ _ | refine below_drewN ?_ _ | refine Below.drew ?_ | refine Below.alloc ?_ (by first | omega | (simp; done) | (simp; omega)) _ | refine Below.setCell ?_ (by first | omega | (simp; done) | (simp; omega)) _ | refine bel_trans ?_ (by assumption) | refine Below.trans ?_ (Below.mono (by assumption) (by first | omega | (simp; done) | (simp; omega)))))
  all_goals (unfold rjudge; (repeat (first | rfl | rw [if_pos (by first | omega | (simp_all; done) | (simp_all; omega))] | rw [if_neg (by first | omega | (simp_all; done) | (simp_all; omega))])))
end Go.Proofs.Ytcblomlmabhgeaa
