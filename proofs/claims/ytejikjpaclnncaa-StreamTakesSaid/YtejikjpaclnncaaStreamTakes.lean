/-
  The law StreamTakes: what any calls take out of a stream, one behind the other. Conditions: none.
-/
import Derived.Test.YtejikjpaclnncaaStreamLaw
namespace Go.Proofs.Ytejikjpaclnncaa
open Go.ChangeShapes Go.WideShapes Go.ChangeAt Go.RowKit Go.Deep
open Go.ChangeMaps (open_string shut_string)

theorem quiet_eq {P : Program} {f : FuncId} {args : Array Value} {w : World} {n : Nat} {v : Value} (h : Calls P f args (w.drewN n) fun e w' => e = .returned v ∧ w.drewN n = w') :
    Calls P f args (w.drewN n) fun e w'' => e = .returned v ∧ ∃ m, w'' = w.drewN m := h.mono fun _ _ ⟨he, hm⟩ => ⟨he, n, hm.symm⟩
theorem stm_drewN {w : World} {g : Nat} {s : ByteArray} {e : Int} (h : Stm w g s e) (n : Nat) : Stm (w.drewN n) g s e := h
set_option maxRecDepth 100000 in
set_option maxHeartbeats 2000000 in
theorem streamTakes_any {v : Value} {n : Nat} {K : Nat → Int} {S : Nat → ByteArray} {w : World} (h : Acts w v n K S) : Calls Try.prog 8 #[v] w fun e w' => e = .returned (.bool true) ∧ Below w.heap.size w w' := by
  have hfew := few13_any h
  obtain ⟨A, c, rfl, hn, hi⟩ := h
  unfold maxLen at hn
  have Hi := hide hi
  clear hi
  go_enter Try.func8, Try.ntmps8
  go_wp2_with fail
  refine hfew.mono ?_
  rintro e w1 ⟨he, rfl⟩
  rcases he with rfl | ⟨rfl, hn30, hsz⟩
  · go_wp2_with (go_at_call 21; refine (awake13 _).mono ?_; rintro e w1 ⟨rfl, hb1⟩)
    go_ret
    exact ⟨rfl, hb1⟩
  have Hsz := hide hsz
  clear hsz hfew
  go_wp2_with (go_at_call 22; refine (snew_any _).mono ?_; rintro e w1 ⟨rfl, h1, hb1⟩)
  have hx1 := Blk.lt h1
  have hr1 : Rst (w1.alloc (.cells #[.string ⟨#[]⟩, .int .i64 0] 46)) w1.heap.size ⟨#[]⟩ 0 := Blk.new _ _ _
  have hs1 : Stm (w1.alloc (.cells #[.string ⟨#[]⟩, .int .i64 0] 46)) w.heap.size ⟨#[]⟩ 0 := Blk.alloc h1 _
  have hbb : Below w.heap.size w (w1.alloc (.cells #[.string ⟨#[]⟩, .int .i64 0] 46)) := by (repeat (first | exact Below.refl _ _ | refine below_drewN ?_ _ | refine Below.drew ?_ | refine Below.alloc ?_ (by first | omega | (simp; done) | (simp; omega)) _ | refine Below.setCell ?_ (by first | omega | (simp; done) | (simp; omega)) _ | refine bel_alloc ?_ _ | refine bel_trans ?_ (by assumption) | refine Below.trans ?_ (Below.mono (by assumption) (by first | omega | (simp; done) | (simp; omega)))))
  have hg2 : w.heap.size ≤ w1.heap.size := hb1.size
  have hne : w.heap.size ≠ w1.heap.size := by omega
  go_wp2
  generalize w1.alloc (.cells #[.string ⟨#[]⟩, .int .i64 0] 46) = w2 at hr1 hs1 hbb ⊢
  generalize w1.heap.size = g2 at hr1 hg2 hne ⊢
  clear h1 hb1 hx1
  go_loopw [5] (fun i wr => ∃ (k : Nat) (s : ByteArray) (e : Int), k ≤ n ∧ i = .int .i64 k ∧ Stm wr w.heap.size s e ∧ Rst wr g2 s e ∧ Below w.heap.size w wr ∧ s.size ≤ 2000 * k) (fun i _ => n - (intOf i).toNat)
  case atStart => exact ⟨0, ⟨#[]⟩, 0, Nat.zero_le _, rfl, hs1, hr1, hbb, Nat.zero_le _⟩
  case round =>
    obtain ⟨k, s, e0, hk, rfl, hs, hr, hbw, hsk⟩ := hrel
    by_cases hlt : k < n
    · obtain ⟨ad, rfl, hb, c1, c2, _⟩ := Hi.out k hlt
      have hS := Hsz.out k hlt
      have d1 : wr.cell? (ad.add (k * 2)) = some (.int .i64 (K k)) := (hbw.cell (by rw [block_of_add]; exact hb)).trans c1
      have d2 : wr.cell? (ad.add (k * 2 + 1)) = some (.string (S k)) := (hbw.cell (by rw [block_of_add]; exact hb)).trans c2
      have d2' := cell_off (j := 0) d2
      have hws := hbw.size
      by_cases h0 : K k = 0
      · rw [h0] at c1 d1
        by_cases he : e0 = 0
        · subst he
          go_wp2_with (first
            | (go_at_call 23; refine (sfeed_any (t := S k) hs (by omega)).mono ?_; rintro e w3 ⟨rfl, hs3, ho3⟩; have hr3 : Rst w3 g2 s 0 := Blk.only hr ho3 (Ne.symm hne); have hbw3 := below_only hbw ho3 (Nat.le_refl _) hbw.size; have d13 := (hbw3.cell (by rw [block_of_add]; exact hb)).trans c1; have d23 := cell_off (j := 0) ((hbw3.cell (by rw [block_of_add]; exact hb)).trans c2))
            | (go_at_call 28; refine (rfeed_any (t := S k) hr3 (by omega)).mono ?_; rintro e w4 ⟨rfl, hr4, ho4⟩; have hs4 := Blk.only hs3 ho4 hne; have hbw4 := below_only hbw3 ho4 hg2 hbw3.size))
          have q0 := Blk.cell hr4 0
          have q1 := Blk.cell hr4 1
          simp only [List.getElem?_toArray, List.getElem?_cons_zero, List.getElem?_cons_succ] at q0 q1
          go_quiet (first | (go_at_call 25; exact quiet_eq (sleft_any (stm_drewN hs4 _))) | (go_at_call 26; exact quiet_eq (sbroken_any (stm_drewN hs4 _))))
          go_wp2
          go_round
          case rel => exact ⟨k + 1, s ++ S k, 0, hlt, by go_num, hs4, hr4, by (repeat (first | exact Below.refl _ _ | refine below_drewN ?_ _ | refine Below.drew ?_ | refine Below.alloc ?_ (by first | omega | (simp; done) | (simp; omega)) _ | refine Below.setCell ?_ (by first | omega | (simp; done) | (simp; omega)) _ | refine bel_alloc ?_ _ | refine bel_trans ?_ (by assumption) | refine Below.trans ?_ (Below.mono (by assumption) (by first | omega | (simp; done) | (simp; omega))))), by rw [ByteArray.size_append]; omega⟩
          case measure => simp [intOf]; omega
        · go_wp2_with (first
            | (go_at_call 23; refine (sfeed_broken (t := S k) hs he).mono ?_; rintro e w3 ⟨rfl, rfl⟩)
            | (go_at_call 28; refine (rfeed_broken (t := S k) hr he).mono ?_; rintro e w3 ⟨rfl, rfl⟩))
          have hr4 := hr
          have hs4 := hs
          have q0 := Blk.cell hr4 0
          have q1 := Blk.cell hr4 1
          simp only [List.getElem?_toArray, List.getElem?_cons_zero, List.getElem?_cons_succ] at q0 q1
          go_quiet (first | (go_at_call 25; exact quiet_eq (sleft_any (stm_drewN hs4 _))) | (go_at_call 26; exact quiet_eq (sbroken_any (stm_drewN hs4 _))))
          go_wp2
          go_round
          case rel => exact ⟨k + 1, s, e0, hlt, by go_num, hs4, hr4, by (repeat (first | exact Below.refl _ _ | refine below_drewN ?_ _ | refine Below.drew ?_ | refine Below.alloc ?_ (by first | omega | (simp; done) | (simp; omega)) _ | refine Below.setCell ?_ (by first | omega | (simp; done) | (simp; omega)) _ | refine bel_alloc ?_ _ | refine bel_trans ?_ (by assumption) | refine Below.trans ?_ (Below.mono (by assumption) (by first | omega | (simp; done) | (simp; omega))))), by omega⟩
          case measure => simp [intOf]; omega
      have f0 : (K k == 0) = false := by simp [h0]
      by_cases h1 : K k = 1
      · rw [h1] at c1 d1 f0
        have L1 := hide (line_any hs (by omega))
        have L2 := hide (fun w3 h => rline_any (w := w3) (g := g2) (s := s) (e0 := e0) h (by omega))
        have hle := line_le s.data.toList e0
        have hsl : s.data.toList.length = s.size := rfl
        generalize lineD s.data.toList e0 = p at L1 L2 hle
        obtain ⟨⟨x1, x2, x3⟩, x4, x5⟩ := p
        go_wp2_with (first
          | (go_at_call 29; refine L1.out.mono ?_; rintro e w3 ⟨r, t, rfl, hrr, hs3, ht, ho3⟩; have hr3 : Rst w3 g2 s e0 := Blk.only hr ho3 (Ne.symm hne); have hbw3 := below_only hbw ho3 (Nat.le_refl _) hbw.size; have d13 := (hbw3.cell (by rw [block_of_add]; exact hb)).trans c1; have d23 := cell_off (j := 0) ((hbw3.cell (by rw [block_of_add]; exact hb)).trans c2); have Hr := hide hrr; have Ht := hide ht; clear hrr ht)
          | (go_at_call 30; refine (L2.out _ hr3).mono ?_; rintro e w4 ⟨r2, t2, rfl, hr2, hr4, ht2, ho4⟩; obtain rfl : r2 = r := data_inj (hr2.trans Hr.out.symm); obtain rfl : t2 = t := data_inj (ht2.trans Ht.out.symm); clear hr2 ht2; have hs4 := Blk.only hs3 ho4 hne; have hbw4 := below_only hbw3 ho4 hg2 hbw3.size))
        have htl : t2.data.toList.length = t2.size := rfl
        rw [Ht.out] at htl
        have q0 := Blk.cell hr4 0
        have q1 := Blk.cell hr4 1
        simp only [List.getElem?_toArray, List.getElem?_cons_zero, List.getElem?_cons_succ] at q0 q1
        go_quiet (first | (go_at_call 25; exact quiet_eq (sleft_any (stm_drewN hs4 _))) | (go_at_call 26; exact quiet_eq (sbroken_any (stm_drewN hs4 _))))
        go_wp2
        go_round
        case rel => exact ⟨k + 1, t2, x5, hlt, by go_num, hs4, hr4, by (repeat (first | exact Below.refl _ _ | refine below_drewN ?_ _ | refine Below.drew ?_ | refine Below.alloc ?_ (by first | omega | (simp; done) | (simp; omega)) _ | refine Below.setCell ?_ (by first | omega | (simp; done) | (simp; omega)) _ | refine bel_alloc ?_ _ | refine bel_trans ?_ (by assumption) | refine Below.trans ?_ (Below.mono (by assumption) (by first | omega | (simp; done) | (simp; omega))))), by omega⟩
        case measure => simp [intOf]; omega
      have f1 : (K k == 1) = false := by simp [h1]
      by_cases h2 : K k = 2
      · rw [h2] at c1 d1 f0
        have L1 := hide (unitU_any hs (by omega))
        have L2 := hide (fun w3 h => runit_any (w := w3) (g := g2) (s := s) (e0 := e0) h (by omega))
        have hle := unit_le s.data.toList e0
        have hsl : s.data.toList.length = s.size := rfl
        generalize unitD s.data.toList e0 = p at L1 L2 hle
        obtain ⟨⟨x1, x2, x3⟩, x4, x5⟩ := p
        go_wp2_with (first
          | (go_at_call 31; refine L1.out.mono ?_; rintro e w3 ⟨r, t, rfl, hrr, hs3, ht, ho3⟩; have hr3 : Rst w3 g2 s e0 := Blk.only hr ho3 (Ne.symm hne); have hbw3 := below_only hbw ho3 (Nat.le_refl _) hbw.size; have d13 := (hbw3.cell (by rw [block_of_add]; exact hb)).trans c1; have d23 := cell_off (j := 0) ((hbw3.cell (by rw [block_of_add]; exact hb)).trans c2); have Hr := hide hrr; have Ht := hide ht; clear hrr ht)
          | (go_at_call 32; refine (L2.out _ hr3).mono ?_; rintro e w4 ⟨r2, t2, rfl, hr2, hr4, ht2, ho4⟩; obtain rfl : r2 = r := data_inj (hr2.trans Hr.out.symm); obtain rfl : t2 = t := data_inj (ht2.trans Ht.out.symm); clear hr2 ht2; have hs4 := Blk.only hs3 ho4 hne; have hbw4 := below_only hbw3 ho4 hg2 hbw3.size))
        have htl : t2.data.toList.length = t2.size := rfl
        rw [Ht.out] at htl
        have q0 := Blk.cell hr4 0
        have q1 := Blk.cell hr4 1
        simp only [List.getElem?_toArray, List.getElem?_cons_zero, List.getElem?_cons_succ] at q0 q1
        go_quiet (first | (go_at_call 25; exact quiet_eq (sleft_any (stm_drewN hs4 _))) | (go_at_call 26; exact quiet_eq (sbroken_any (stm_drewN hs4 _))))
        go_wp2
        go_round
        case rel => exact ⟨k + 1, t2, x5, hlt, by go_num, hs4, hr4, by (repeat (first | exact Below.refl _ _ | refine below_drewN ?_ _ | refine Below.drew ?_ | refine Below.alloc ?_ (by first | omega | (simp; done) | (simp; omega)) _ | refine Below.setCell ?_ (by first | omega | (simp; done) | (simp; omega)) _ | refine bel_alloc ?_ _ | refine bel_trans ?_ (by assumption) | refine Below.trans ?_ (Below.mono (by assumption) (by first | omega | (simp; done) | (simp; omega))))), by omega⟩
        case measure => simp [intOf]; omega
      have f2 : (K k == 2) = false := by simp [h2]
      have hts : (if e0 = 0 then (⟨#[]⟩ : ByteArray) else s).size ≤ s.size := by
        split
        · exact Nat.zero_le _
        · exact Nat.le_refl _
      have L1 := hide (sclose_any hs)
      have L2 := hide (fun w3 h => rclose_any (w := w3) (g := g2) (s := s) (x := e0) h)
      generalize (if e0 = 0 then (⟨#[]⟩ : ByteArray) else s) = t at L1 L2 hts
      generalize (if e0 = 0 then 1 else e0) = x at L1 L2
      go_wp2_with (first
        | (go_at_call 33; refine L1.out.mono ?_; rintro e w3 ⟨rfl, hs3, ho3⟩; have hr3 : Rst w3 g2 s e0 := Blk.only hr ho3 (Ne.symm hne); have hbw3 := below_only hbw ho3 (Nat.le_refl _) hbw.size; have d13 := (hbw3.cell (by rw [block_of_add]; exact hb)).trans c1; have d23 := cell_off (j := 0) ((hbw3.cell (by rw [block_of_add]; exact hb)).trans c2))
        | (go_at_call 34; refine (L2.out _ hr3).mono ?_; rintro e w4 ⟨rfl, hr4, ho4⟩; have hs4 := Blk.only hs3 ho4 hne; have hbw4 := below_only hbw3 ho4 hg2 hbw3.size))
      have q0 := Blk.cell hr4 0
      have q1 := Blk.cell hr4 1
      simp only [List.getElem?_toArray, List.getElem?_cons_zero, List.getElem?_cons_succ] at q0 q1
      go_quiet (first | (go_at_call 25; exact quiet_eq (sleft_any (stm_drewN hs4 _))) | (go_at_call 26; exact quiet_eq (sbroken_any (stm_drewN hs4 _))))
      go_wp2
      go_round
      case rel => exact ⟨k + 1, t, x, hlt, by go_num, hs4, hr4, by (repeat (first | exact Below.refl _ _ | refine below_drewN ?_ _ | refine Below.drew ?_ | refine Below.alloc ?_ (by first | omega | (simp; done) | (simp; omega)) _ | refine Below.setCell ?_ (by first | omega | (simp; done) | (simp; omega)) _ | refine bel_alloc ?_ _ | refine bel_trans ?_ (by assumption) | refine Below.trans ?_ (Below.mono (by assumption) (by first | omega | (simp; done) | (simp; omega))))), by omega⟩
      case measure => simp [intOf]; omega
    · go_wp2_with (first
        | (go_at_call 23; refine (nfeed_any _ _).mono ?_; rintro e w3 ⟨rfl, rfl⟩)
        | (go_at_call 33; refine (nclose_any _).mono ?_; rintro e w3 ⟨rfl, rfl⟩)
        | (go_at_call 29; refine (nline_any _).mono ?_; rintro e w3 ⟨rfl, rfl⟩)
        | (go_at_call 25; refine (nleft_any _).mono ?_; rintro e w3 ⟨rfl, rfl⟩)
        | (go_at_call 26; refine (nbroken_any _).mono ?_; rintro e w3 ⟨rfl, rfl⟩)
        | (go_at_call 21; refine (awake13 _).mono ?_; rintro e w4 ⟨rfl, hb4⟩))
      go_ret
      exact ⟨rfl, by (repeat (first | exact Below.refl _ _ | refine below_drewN ?_ _ | refine Below.drew ?_ | refine Below.alloc ?_ (by first | omega | (simp; done) | (simp; omega)) _ | refine Below.setCell ?_ (by first | omega | (simp; done) | (simp; omega)) _ | refine bel_alloc ?_ _ | refine bel_trans ?_ (by assumption) | refine Below.trans ?_ (Below.mono (by assumption) (by first | omega | (simp; done) | (simp; omega)))))⟩
end Go.Proofs.Ytejikjpaclnncaa
