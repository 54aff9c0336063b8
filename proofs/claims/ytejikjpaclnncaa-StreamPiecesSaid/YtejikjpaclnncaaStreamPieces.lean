/-
  The law StreamPieces: in how many pieces bytes come plays no part. Conditions: none.
-/
import Derived.Test.YtejikjpaclnncaaDrain
import Derived.Test.YtejikjpaclnncaaLaw
namespace Go.Proofs.Ytejikjpaclnncaa
open Go.ChangeShapes Go.WideShapes Go.ChangeAt Go.RowKit Go.Deep
open Go.ChangeMaps (open_string shut_string)

/-- A slice of bytes. -/
def U8s (w : World) (v : Value) (n : Nat) (Z : Nat → Nat) : Prop :=
  ∃ A c, v = .slice A n c ∧ n ≤ maxLen ∧ ∀ i, i < n → ∃ ad, A = some ad ∧ ad.block < w.heap.size ∧ w.cell? (ad.add i) = some (.int .u8 (Z i)) ∧ Z i < 256
theorem sfeed_all {t r : ByteArray} {g : Nat} {y : Int} {w : World} (h : Stm w g t y) (hs : t.size + r.size ≤ 1000000) :
    Calls Try.prog 23 #[.pointer (some ⟨g, 0, none⟩), .string r] w fun e w' => ∃ t', e = .returned (.tuple #[]) ∧ Stm w' g t' y ∧ feed (toL t, y) (toL r) = (toL t', y) ∧ w.grownBy w' (some g) := by
  by_cases hy : y = 0
  · subst hy
    refine (sfeed_any (t := r) h hs).mono ?_
    rintro e w' ⟨rfl, h2, ho⟩
    refine ⟨_, rfl, h2, ?_, ho⟩
    rw [feed_ok rfl]
    show (toL t ++ toL r, (0 : Int)) = (toL (t ++ r), 0)
    rw [toL, toL, toL, data_append]
  · refine (sfeed_broken (t := r) h hy).mono ?_
    rintro e w' ⟨rfl, rfl⟩
    exact ⟨t, rfl, h, feed_broken hy _, only_refl _ _⟩
theorem Dr.le {p p1 : St} {o : List (List UInt8)} (h : Dr p o p1) : p1.1.length ≤ p.1.length := by
  obtain ⟨q, hu, _, rfl⟩ := h
  have h1 := hu.len
  have h2 : (uT q).2.1.length ≤ q.1.length := unit_le q.1 q.2
  omega
theorem DR.le {p p1 : St} {b b1 : Bool} {o : List (List UInt8)} (h : DR p b o p1 b1) : p1.1.length ≤ p.1.length := by
  have h2 : (lT p).2.1.length ≤ p.1.length := line_le p.1 p.2
  rcases h with ⟨rfl, d1, rfl⟩ | ⟨rfl, t1, ⟨u1, rfl, d1⟩, rfl⟩ | ⟨rfl, t1, rfl, rfl, rfl⟩
  · exact d1.le
  · exact Nat.le_trans d1.le h2
  · exact h2
theorem own_fr {w w' : World} {B : Nat} {e : TypeId} {size n g : Nat} {v : Value} {xs : List Value} (h : w.ownsRow B e size v n xs) (k : Fr w.heap.size g w w') (hg : g < B) : w'.ownsRow B e size v n xs := by
  refine ⟨h.1, ?_⟩
  rcases h.2 with h1 | ⟨g', cap, cur, hv, hb, hc, hr⟩
  · exact .inl h1
  · exact .inr ⟨g', cap, cur, hv, hb, (k.block g' (Blk.lt (cs := cur) (t := e) hc) (by omega)).trans hc, hr⟩
theorem own_slice {w : World} {B : Nat} {e : TypeId} {size n : Nat} {v : Value} {xs : List Value} (h : w.ownsRow B e size v n xs) : ∃ A c, v = .slice A n c := by
  rcases h.2 with ⟨rfl, rfl⟩ | ⟨g', cap, cur, hv, _⟩
  · exact ⟨none, 0, rfl⟩
  · exact ⟨_, _, hv⟩
theorem toL_map {a b : List ByteArray} (h : a.map toL = b.map toL) : a = b := by
  induction a generalizing b with
  | nil => cases b with
    | nil => rfl
    | cons y b => cases h
  | cons x a ih => cases b with
    | nil => cases h
    | cons y b =>
      simp only [List.map_cons, List.cons.injEq] at h
      rw [data_inj h.1, ih h.2]
theorem feed_take (l : List UInt8) {m n : Nat} (h : m ≤ n) : feed (l.take m, 0) ((l.drop m).take (n - m)) = (l.take n, 0) := by
  rw [feed_ok rfl]
  show (l.take m ++ (l.drop m).take (n - m), (0 : Int)) = _
  rw [← List.take_add, Nat.add_sub_cancel' h]
theorem nil_app (s : ByteArray) : (⟨#[]⟩ : ByteArray) ++ s = s := data_inj (by rw [data_append]; rfl)
theorem extract_toL (s : ByteArray) (m n : Nat) : toL (s.extract m n) = ((toL s).drop m).take (n - m) := by
  rw [toL, toL, Lib.extract_data]
theorem DR.piece {l : List UInt8} {m n : Nat} {o1 o2 : List (List UInt8)} {p1 p2 : St} {b1 b2 : Bool} {p : St} (h : DR (l.take m, 0) false o1 p1 b1) (hf : feed p1 ((l.drop m).take (n - m)) = p) (h2 : DR p b1 o2 p2 b2) (hm : m ≤ n) : DR (l.take n, 0) false (o1 ++ o2) p2 b2 := by
  subst hf
  rw [← feed_take l hm]
  exact h.more h2
theorem Fr.below {B g lo : Nat} {w w' : World} (h : Fr B g w w') (h1 : lo ≤ B) (h2 : lo ≤ g) : Below lo w w' := ⟨h.os, h.tape, h.output, h.size, fun i hi => h.block i (by omega) (by omega)⟩
theorem Fr.stm {B g g' : Nat} {w w' : World} {s : ByteArray} {y : Int} (h : Fr B g w w') (hs : Stm w g' s y) (h1 : g' < B) (h2 : g' ≠ g) : Stm w' g' s y := (h.block g' h1 h2).trans hs
theorem ext_size (s : ByteArray) {m q : Nat} (h : m ≤ q) (h2 : q ≤ s.size) : (s.extract m q).size = q - m := by
  show (toL (s.extract m q)).length = _
  rw [extract_toL, List.length_take, List.length_drop, show (toL s).length = s.size from rfl]
  omega
theorem feed_len {t t4 r : ByteArray} {y y4 : Int} {d : Nat} (h : feed (toL t, y) (toL r) = (toL t4, y4)) (hd : r.size = d) : t4.size ≤ t.size + d := by
  have h1 : (feed (toL t, y) (toL r)).1.length = t4.size := by rw [h]; rfl
  rw [← h1, ← hd]
  unfold feed
  split
  · show (toL t ++ toL r).length ≤ _
    rw [List.length_append]
    exact Nat.le_refl _
  · exact Nat.le_add_right _ _
set_option maxRecDepth 100000 in
set_option maxHeartbeats 2000000 in
theorem streamPieces_any {s : ByteArray} {v : Value} {n : Nat} {Z : Nat → Nat} {w : World} (hs : s.size ≤ maxLen) (hz : U8s w v n Z) : Calls Try.prog 7 #[.string s, v] w fun e w' => e = .returned (.bool true) ∧ Below w.heap.size w w' := by
  obtain ⟨A, c, rfl, hn, hi⟩ := hz
  unfold maxLen at hs hn
  have Hi := hide hi
  clear hi
  by_cases h2 : 2000 < s.size
  · go_enter Try.func7, Try.ntmps7
    go_wp2_with (go_at_call 21; refine (awake13 _).mono ?_; rintro e w1 ⟨rfl, hb1⟩)
    go_ret
    exact ⟨rfl, hb1⟩
  have h2i : (s.size : Int) ≤ 2000 := by omega
  have h2d : decide ((2000 : Int) < s.size) = false := by simp; omega
  by_cases h20 : 20 < n
  · go_enter Try.func7, Try.ntmps7
    go_wp2_with (go_at_call 21; refine (awake13 _).mono ?_; rintro e w1 ⟨rfl, hb1⟩)
    go_ret
    exact ⟨rfl, hb1⟩
  have h20i : (n : Int) ≤ 20 := by omega
  go_enter Try.func7, Try.ntmps7
  go_wp2_with fail
  refine (snew_any _).mono ?_
  rintro e w1 ⟨rfl, h1, hb1⟩
  go_wp2_with fail
  refine (snew_any _).mono ?_
  rintro e w2 ⟨rfl, h3, hb3⟩
  have hlt1 := Blk.lt h1
  have hne : w.heap.size ≠ w1.heap.size := by omega
  have h4 : Stm w2 w.heap.size ⟨#[]⟩ 0 := Blk.below h1 hb3 hlt1
  have hb4 : Below w.heap.size w w2 := bel_trans hb1 hb3
  go_wp2_with (go_at_call 23; refine (sfeed_any (t := s) h4 (by show 0 + _ ≤ _; omega)).mono ?_; rintro e w3 ⟨rfl, h5, ho5⟩; rw [nil_app] at h5)
  have h6 : Stm w3 w1.heap.size ⟨#[]⟩ 0 := Blk.only h3 ho5 (Ne.symm hne)
  have hb6 : Below w.heap.size w w3 := below_only hb4 ho5 (Nat.le_refl _) hb4.size
  have hB2 : w1.heap.size < w3.heap.size := Blk.lt h6
  have hB1 : w.heap.size < w3.heap.size := Blk.lt h5
  have hg2 : w.heap.size ≤ w1.heap.size := by omega
  clear h1 hb1 h3 hb3 h4 hb4 ho5 hlt1
  generalize w1.heap.size = g2 at h6 hB2 hg2 hne ⊢
  obtain ⟨B, hB⟩ : ∃ B, B = w3.heap.size := ⟨_, rfl⟩
  rw [← hB] at hB1 hB2
  have HB := hide hB
  clear hB
  have hsl : (toL s).length = s.size := rfl
  go_loopw [8, 9, 10, 11] (fun vb lined from_ i wr => ∃ (k m : Nat) (o : List ByteArray) (t : ByteArray) (y : Int) (lb : Bool), i = .int .i64 k ∧ from_ = .int .i64 m ∧ lined = .bool lb ∧ m ≤ s.size ∧ k ≤ m ∧ DR ((toL s).take m, 0) false (o.map toL) (toL t, y) lb ∧
      wr.ownsRow B 9 1 vb o.length (o.map Value.string) ∧ Stm wr g2 t y ∧ Stm wr w.heap.size s 0 ∧ Below w.heap.size w wr ∧ B ≤ wr.heap.size) (fun _ _ f _ _ => s.size - (intOf f).toNat)
  case atStart => exact ⟨0, 0, [], ⟨#[]⟩, 0, false, rfl, rfl, rfl, Nat.zero_le _, Nat.le_refl _, DR.empty, World.ownsRow_nil _ _ _ _, h6, h5, hb6, by rw [HB.out]; exact Nat.le_refl _⟩
  case round =>
    obtain ⟨k, m, o, t, y, lb, rfl, rfl, rfl, hm, hkm, hdr, hown, hst, hsx, hbw, hBw⟩ := hrel
    have hws := hbw.size
    have hol := hdr.len
    have htl := hdr.le
    have htz : (toL t).length = t.size := rfl
    have hol2 : o.length ≤ m + 1 := by
      have h : (o.map toL).length ≤ ((toL s).take m).length + 1 := hol
      rw [List.length_map, List.length_take] at h
      omega
    have htm : t.size ≤ m := by
      have h : (toL t).length ≤ ((toL s).take m).length := htl
      rw [List.length_take] at h
      omega
    have Hdr := hide hdr
    clear hol htl hdr htz
    by_cases hlt : m < s.size
    · have hk2 : (k : Int) ≤ s.size := by omega
      have hk1 : k < 9223372036854775000 := by omega
      by_cases hn0 : n = 0
      · have hnt : ¬ (0 : Int) < n := by omega
        have hnd : decide ((0 : Int) < n) = false := by simp; omega
        have Hn0 := hide hn0
        clear hn0
        obtain ⟨q, hq, hmq, hqs⟩ : ∃ q : Nat, min ((m : Int) + 1) (s.size : Int) = (q : Int) ∧ m < q ∧ q ≤ s.size := ⟨(min ((m : Int) + 1) (s.size : Int)).toNat, by omega, by omega, by omega⟩
        have hqi : (q : Int) ≤ s.size := by omega
        have hmqi : (m : Int) ≤ q := by omega
        have hxs := ext_size s (Nat.le_of_lt hmq) hqs
        go_wp2_with (first
          | (go_at_call 23; refine (sfeed_all (r := s.extract m q) hst (by rw [hxs]; omega)).mono ?_; rintro e w4 ⟨t4, rfl, h4, hfe, ho4⟩; have Hfe := hide hfe; have hsz := feed_len hfe hxs; have hown4 := own_only hown ho4 hB2; have hsx4 := Blk.only hsx ho4 hne; have hbw4 := below_only hbw ho4 hg2 hws; have hw4 := ho4.size; clear hfe)
          | (go_at_call 24; refine (drain_any h4 (by omega) hown4 (by omega) hB2 (by omega)).mono ?_; rintro e w5 hp5; obtain ⟨v5, o5, t5, y5, b5, rfl, hdr5, hown5, hst5, hfr5⟩ := hp5; have Hdr5 := hide hdr5; clear hdr5))
        go_round
        case rel =>
          have hx := Hfe.out
          rw [extract_toL] at hx
          have hp := Hdr.out.piece hx Hdr5.out (Nat.le_of_lt hmq)
          rw [← List.map_append] at hp
          refine ⟨k + 1, q, o ++ o5, t5, y5, b5, by go_num, rfl, rfl, hqs, by omega, hp, by rw [List.length_append]; exact hown5, hst5, hfr5.stm hsx4 hB1 hne, hbw4.trans (hfr5.below (Nat.le_of_lt hB1) hg2), ?_⟩
          have := hfr5.size
          omega
        case measure => simp [intOf]; omega
      · have hrem : Int.tmod (k : Int) (n : Int) = ((k % n : Nat) : Int) := rfl
        have hj : k % n < n := Nat.mod_lt _ (by omega)
        have hn1 : (0 : Int) < n := by omega
        obtain ⟨ad, rfl, hb, c1, hz⟩ := Hi.out (k % n) hj
        have d1 : wr.cell? (ad.add (k % n)) = some (.int .u8 (Z (k % n))) := (hbw.cell (by rw [block_of_add]; exact hb)).trans c1
        clear c1
        generalize k % n = j at hrem hj hz d1
        generalize Z j = z at hz d1
        obtain ⟨q, hq, hmq, hqs⟩ : ∃ q : Nat, min ((m : Int) + (1 + (z : Int))) (s.size : Int) = (q : Int) ∧ m < q ∧ q ≤ s.size := ⟨(min ((m : Int) + (1 + (z : Int))) (s.size : Int)).toNat, by omega, by omega, by omega⟩
        have hqi : (q : Int) ≤ s.size := by omega
        have hmqi : (m : Int) ≤ q := by omega
        have hxs := ext_size s (Nat.le_of_lt hmq) hqs
        go_wp2_with (first
          | (go_at_call 23; refine (sfeed_all (r := s.extract m q) hst (by rw [hxs]; omega)).mono ?_; rintro e w4 ⟨t4, rfl, h4, hfe, ho4⟩; have Hfe := hide hfe; have hsz := feed_len hfe hxs; have hown4 := own_only hown ho4 hB2; have hsx4 := Blk.only hsx ho4 hne; have hbw4 := below_only hbw ho4 hg2 hws; have hw4 := ho4.size; clear hfe)
          | (go_at_call 24; refine (drain_any h4 (by omega) hown4 (by omega) hB2 (by omega)).mono ?_; rintro e w5 hp5; obtain ⟨v5, o5, t5, y5, b5, rfl, hdr5, hown5, hst5, hfr5⟩ := hp5; have Hdr5 := hide hdr5; clear hdr5))
        go_round
        case rel =>
          have hx := Hfe.out
          rw [extract_toL] at hx
          have hp := Hdr.out.piece hx Hdr5.out (Nat.le_of_lt hmq)
          rw [← List.map_append] at hp
          refine ⟨k + 1, q, o ++ o5, t5, y5, b5, by go_num, rfl, rfl, hqs, by omega, hp, by rw [List.length_append]; exact hown5, hst5, hfr5.stm hsx4 hB1 hne, hbw4.trans (hfr5.below (Nat.le_of_lt hB1) hg2), ?_⟩
          have := hfr5.size
          omega
        case measure => simp [intOf]; omega
    · have hms : m = s.size := by omega
      have hnlt : ¬ (m : Int) < s.size := by omega
      have hk2 : (k : Int) ≤ s.size := by omega
      have hall := Hdr.out
      rw [List.take_of_length_le (by rw [hsl, hms]; exact Nat.le_refl _)] at hall
      have Hall := hide hall
      clear hall
      obtain ⟨A2, c2, rfl⟩ := own_slice hown
      have hown0 : wr.ownsRow wr.heap.size 9 1 (.slice none 0 0) 0 (([] : List ByteArray).map Value.string) := World.ownsRow_nil _ _ _ _
      have hB2r : g2 < wr.heap.size := by omega
      have hB1r : w.heap.size < wr.heap.size := by omega
      have hms' := hms
      clear hms
      go_wp2_with (first
        | (go_at_call 24; refine (drain_any hsx (by omega) hown0 (Nat.le_refl _) hB1r (by omega)).mono ?_; rintro e w5 hp5; obtain ⟨v5, o5, t5, y5, b5, rfl, hdr5, hown5, hst5, hfr5⟩ := hp5; obtain ⟨e1, e2, rfl⟩ := hdr5.det Hall.out; obtain rfl := toL_map e1; obtain ⟨e3, rfl⟩ := Prod.mk.inj e2; obtain rfl : t5 = t := data_inj e3; obtain ⟨A5, c5, rfl⟩ := own_slice hown5; rw [Nat.zero_add] at hown5 ⊢; have hsy5 := hfr5.stm hst hB2r (Ne.symm hne); have hownb := own_fr hown hfr5 hB1; have hbw5 := hbw.trans (hfr5.below (Nat.le_of_lt hB1r) (Nat.le_refl _)); clear hdr5 e1 e2 e3)
        | (go_at_call 25; with_reducible refine (sleft_any hst5).mono ?_; rintro e w6 ⟨rfl, rfl⟩)
        | (go_at_call 25; with_reducible refine (sleft_any hsy5).mono ?_; rintro e w6 ⟨rfl, rfl⟩)
        | (go_at_call 26; with_reducible refine (sbroken_any hst5).mono ?_; rintro e w6 ⟨rfl, rfl⟩)
        | (go_at_call 26; with_reducible refine (sbroken_any hsy5).mono ?_; rintro e w6 ⟨rfl, rfl⟩))
      have Ra := Reads.of_own hown5
      have Rb := Reads.of_own hownb
      rw [List.nil_append] at Ra
      have hol3 : o5.length ≤ 2001 := by omega
      clear hown5 hownb hown hown0 hst5 hsy5 hst hsx
      go_loopw [14] (fun i wv => ∃ j : Nat, j ≤ o5.length ∧ i = .int .i64 j ∧ Below w5.heap.size w5 wv) (fun i _ => o5.length - (intOf i).toNat)
      case atStart => exact ⟨0, Nat.zero_le _, rfl, Below.refl _ _⟩
      case round =>
        obtain ⟨j, hj, rfl, hbv⟩ := hrel
        by_cases hjl : j < o5.length
        · have hji : (j : Int) < o5.length := by omega
          obtain ⟨ad, u, rfl, hb1, hu, hc⟩ := Ra.at_ hjl
          obtain ⟨ad2, u2, rfl, hb2, hu2, hc2⟩ := Rb.at_ hjl
          rw [hu, Option.some.injEq] at hu2
          subst hu2
          rw [List.getElem?_map, List.getElem?_eq_getElem hjl, Option.map_some, Option.some.injEq] at hu
          subst hu
          generalize o5[j] = r at hc hc2
          have hd := cellAdd hbv hb1 hc
          have hd2 := cellAdd hbv hb2 hc2
          clear hc hc2
          go_wp2
          go_quiet (fail)
          go_wp2
          go_round
          case rel => exact ⟨j + 1, hjl, by go_num, by (repeat (first | exact Below.refl _ _ | refine below_drewN ?_ _ | refine Below.drew ?_ | refine Below.alloc ?_ (by first | omega | (simp; done) | (simp; omega)) _ | refine Below.setCell ?_ (by first | omega | (simp; done) | (simp; omega)) _ | refine bel_alloc ?_ _ | refine bel_trans ?_ (by assumption) | refine Below.trans ?_ (Below.mono (by assumption) (by first | omega | (simp; done) | (simp; omega)))))⟩
          case measure => simp [intOf]; omega
        · have hji : ¬ (j : Int) < o5.length := by omega
          go_wp2_with (go_at_call 21; refine (awake13 _).mono ?_; rintro e w7 ⟨rfl, hb7⟩)
          go_ret
          exact ⟨rfl, hbw5.trans ((hbv.trans (hb7.mono hbv.size)).mono hbw5.size)⟩
end Go.Proofs.Ytejikjpaclnncaa
