/-
  Several of my texts in one: ParseB, RefE.
-/
import Derived.Test.YtfjegckomjpkdaaDoorParseA
import Derived.Test.YtfjegckomjpkdaaDoorMakeA
set_option linter.unusedVariables false
set_option linter.unusedSimpArgs false
/-
  The contract of the reference's Parse, at any place of any text. Conditions: texts of moderate length.
-/
namespace Go.Proofs.YtfjegckomjpkdaaDoor
open Go.RowKit Go.ChangeShapes Go.WideShapes Go.Sort

set_option maxHeartbeats 1000000 in
set_option maxRecDepth 100000 in
theorem parse_end (s : ByteArray) (p : Nat) (hp : p = s.size) (hs : s.size ≤ 131072) (w : World) : Calls Tryd.prog 18 #[.string s, .int .i64 p] w (Parsed s p w) := by
  have HN := hide (show NoT (s.data.toList.drop p) by
    rw [List.drop_eq_nil_of_le (by show s.size ≤ p; omega)]
    exact noT_nil)
  have hi : ¬ (p : Int) < s.size := by omega
  have hi2 : (s.size : Int) ≤ p := by omega
  clear hp
  go_enter Tryd.func18, Tryd.ntmps18
  go_wp2_with fail
  exact bodyPost_ret (v := .tuple #[.agg #[.int .i64 0, .int .i64 0, .int .i64 0, .string ⟨#[]⟩, .slice none 0 0], .int .i64 p, .bool false]) (by simp [results, Tryd.results18, go_sem]) rfl (Parsed.no HN.out (by (repeat (first | exact Below.refl _ _ | refine below_drewN ?_ _ | refine Below.drew ?_ | refine Below.alloc ?_ (by first | omega | (simp; done) | (simp; omega)) _ | refine Below.setCell ?_ (by first | omega | (simp; done) | (simp; omega)) _ | refine bel_alloc ?_ _ | refine bel_trans ?_ (by assumption) | refine Below.trans ?_ (Below.mono (by assumption) (by first | omega | (simp; done) | (simp; omega)))))))
theorem parse_any (s : ByteArray) (hs : s.size ≤ 131072) : ∀ (m p : Nat) (w : World), s.size - p ≤ m → p ≤ s.size → Calls Tryd.prog 18 #[.string s, .int .i64 p] w (Parsed s p w) := by
  intro m
  induction m with
  | zero => exact fun p w h1 h2 => parse_end s p (by omega) hs w
  | succ m ih =>
    intro p w h1 h2
    by_cases hp : p < s.size
    · exact parse_step s hs m ih p hp h1 w
    · exact parse_end s p (by omega) hs w
end Go.Proofs.YtfjegckomjpkdaaDoor

/-
  The contract of the reference's Exp. Conditions: terms that may be.
-/
namespace Go.Proofs.YtfjegckomjpkdaaDoor
open Go.RowKit Go.ChangeShapes Go.WideShapes Go.Sort

theorem ins_snoc (x y : Tm) : ∀ M : List Tm, ins x (M ++ [y]) = if M.any (tlt x) then ins x M ++ [y] else if tlt x y then M ++ [x, y] else M ++ [y, x]
  | [] => by
    show (if tlt x y then _ else _) = _
    rfl
  | z :: M => by
    show (if tlt x z then _ else _) = _
    have ih := ins_snoc x y M
    by_cases h : tlt x z = true
    · rw [if_pos h, if_pos (by simp [h])]
      show _ = (if tlt x z then _ else _) ++ [y]
      rw [if_pos h]
      rfl
    · rw [if_neg h]
      have h2 : tlt x z = false := by simpa using h
      rw [show (List.append M [y]) = M ++ [y] from rfl, ih]
      simp only [List.any_cons, h2, Bool.false_or]
      by_cases h3 : M.any (tlt x) = true
      · rw [if_pos h3, if_pos h3]
        show _ = (if tlt x z then _ else _) ++ [y]
        rw [if_neg h]
        rfl
      · rw [if_neg h3, if_neg h3]
        split <;> rfl
theorem ins_no {x : Tm} : ∀ {M : List Tm}, M.any (tlt x) = false → ins x M = M ++ [x]
  | [], _ => rfl
  | z :: M, h => by
    simp only [List.any_cons, Bool.or_eq_false_iff] at h
    show (if tlt x z then _ else _) = _
    rw [if_neg (by rw [h.1]; simp), ins_no h.2]
    rfl
/-- What Exp's loop has behind a part of the exponents. -/
def insTo (x : Tm) (M : List Tm) : List Tm := if M.any (tlt x) then ins x M else M
theorem insTo_snoc (x y : Tm) (M : List Tm) : insTo x (M ++ [y]) = if M.any (tlt x) then insTo x M ++ [y] else if tlt x y then insTo x M ++ [x, y] else insTo x M ++ [y] := by
  unfold insTo
  rw [List.any_append, ins_snoc]
  by_cases h : M.any (tlt x) = true
  · simp [h]
  · have h2 : M.any (tlt x) = false := by simpa using h
    simp only [h2, Bool.false_or]
    by_cases h3 : tlt x y = true
    · simp [h3]
    · simp [h3]
theorem insTo_len (x : Tm) (M : List Tm) : (insTo x M).length ≤ M.length + 1 := by
  unfold insTo
  split
  · rw [ins_len]; omega
  · omega
theorem tExp_share {t x : Tm} (ht : fine t) (hx : fine x) (kt : t.k = 5) (kx : x.k = 2) (h8 : t.l.length < 8) :
    fitsL (head 5 0 0 t.s.data.toList ((ins x t.l).map enc).length ++ ((ins x t.l).map enc).flatten) = txt (tExp (some t) (some x)) := by
  have gs := share_good ht.1 kt
  have h1 := gs.1
  simp only [hd] at h1
  have hkk : ∀ z ∈ ins x t.l, z.k = 2 := fun z hz => by
    rcases mem_ins.1 hz with rfl | hz
    · exact kx
    · exact gs.2.1 z hz
  have hgg : goods (ins x t.l) := (goods_iff _).2 fun z hz => by
    rcases mem_ins.1 hz with rfl | hz
    · exact hx.1
    · exact (goods_iff _).1 gs.2.2.2 z hz
  have e : ((ins x t.l).map enc).flatten = encs (ins x t.l) := by rw [encs_flat, List.flatMap]
  show _ = txt (if _ then _ else none)
  rw [if_pos ⟨kt, kx, h8⟩, e]
  show _ = enc _
  have e2 : enc (.mk 5 0 0 t.s (ins x t.l)) = head 5 0 0 t.s.data.toList ((ins x t.l).map enc).length ++ encs (ins x t.l) := by simp [enc]
  rw [e2]
  unfold fitsL
  rw [if_pos]
  rw [List.length_append, head5_len, encs_nonces hgg hkk, ins_len, size_len]
  omega
theorem tExp_kind {o p : Option Tm} (h : kindO o ≠ 5 ∨ kindO p ≠ 2) : tExp o p = none := by
  cases o with
  | none => rfl
  | some s => cases p with
    | none => rfl
    | some x =>
      show (if _ then _ else none) = none
      rw [if_neg]
      rintro ⟨h1, h2, _⟩
      rcases h with h | h
      · exact h h1
      · exact h h2
theorem kindO_some {o : Option Tm} {k : Nat} (h : kindO o = k) (hk : k ≠ 0) : ∃ t, o = some t ∧ t.k = k := by
  cases o with
  | none => exact absurd h.symm hk
  | some t => exact ⟨t, rfl, h⟩
theorem own_map_snoc {w : World} {B : Nat} {e : TypeId} {v : Value} {M : List Tm} {y : Tm} (h : w.ownsRow B e 1 v (M.length + 1) (((M.map enc).map bs).map Value.string ++ [.string (bs (enc y))])) : w.ownsRow B e 1 v (M ++ [y]).length ((((M ++ [y]).map enc).map bs).map Value.string) := by simpa using h
/-- Parse of a term's own bytes. -/
theorem parse_own {t : Tm} (ht : fine t) (w : World) : Calls Tryd.prog 18 #[.string (bs (enc t)), .int .i64 0] w fun e w' => Below w.heap.size w w' ∧ ∃ (A : Option Addr) (c : Nat), Txs w' (.slice A t.l.length c) (t.l.map enc) ∧
    e = .returned (.tuple #[.agg #[.int .i64 t.k, .int .i64 t.a, .int .i64 t.b, .string t.s, .slice A t.l.length c], .int .i64 ((enc t).length : Nat), .bool true]) := by
  refine (parse_any (bs (enc t)) (by rw [bs_size]; exact ht.2) _ 0 w (Nat.le_refl _) (Nat.zero_le _)).mono ?_
  rintro e w' ⟨hb, h⟩
  refine ⟨hb, ?_⟩
  rw [List.drop_zero, bs_data] at h
  rcases h with ⟨hn, _⟩ | ⟨u, q, A, n, c, hg, _, hq, he, hT, rfl⟩
  · exact absurd (by simp) (hn t [] ht.1)
  · obtain ⟨rfl, hd⟩ := enc_inj t u [] _ ht.1 hg (by rw [List.append_nil]; exact he)
    have hq2 : q = (enc t).length := by
      have h9 := congrArg List.length hd
      rw [List.length_drop] at h9
      rw [bs_size] at hq
      simp only [List.length_nil] at h9
      omega
    subst hq2
    obtain ⟨A', c', e', hc⟩ := hT.open_
    injection e' with e1 e2 e3
    subst e1 e2
    rw [List.length_map] at hT ⊢
    exact ⟨A, c, hT, rfl⟩
end Go.Proofs.YtfjegckomjpkdaaDoor
