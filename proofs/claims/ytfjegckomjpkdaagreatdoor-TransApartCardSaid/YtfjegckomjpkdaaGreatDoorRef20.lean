/-
  The contracts of the reference's List and Hash of parts. Conditions: numbers fit.
-/
import Derived.Test.YtfjegckomjpkdaaGreatDoorWholeA
import Derived.Test.YtfjegckomjpkdaaGreatDoorTrans
set_option linter.unusedVariables false
set_option linter.unusedSimpArgs false
namespace Go.Proofs.YtfjegckomjpkdaaGreatDoor
open Go.RowKit Go.ChangeShapes Go.WideShapes Go.Sort

/-- Terms' texts in a row of the call's own. -/
structure Row (W0 wr : World) (os : List (Option Tm)) (v : Value) : Prop where
  bel : Below W0.heap.size W0 wr
  own : wr.ownsRow W0.heap.size 9 1 v os.length (((os.map txt).map bs).map Value.string)
section
variable {W0 wr wz : World} {os : List (Option Tm)} {v : Value}
theorem Row.below (h : Row W0 wr os v) (hb : Below wr.heap.size wr wz) : Row W0 wz os v :=
  ⟨h.bel.trans (hb.mono h.bel.size), h.own.kept (only_of_below hb none) (by cases v.ownBlock <;> simp)⟩
theorem row_nil (W0 : World) : Row W0 W0 [] (.slice none 0 0) := ⟨Below.refl _ _, World.ownsRow_nil _ _ _ _⟩
theorem Row.txs (h : Row W0 wr os v) : Txs wr v (os.map txt) := own_txs h.own (by simp)
theorem wp_row {ops : Array Oper} {rest : List Oper} {o : Oper} {a : Act} {Q : Exit → Act → World → Prop} (x : Option Tm) (n m : Nat) (hn : os.length = n) (hm : m = n + 1) (hgd : o.guard = none) (s y : Operand)
    (ho : o.op = .call { callee := .builtin .append, args := #[s, y], argTypes := #[29, 29] }) (hR : Row W0 wr os v) (hs : a.eval s = v) (hy : a.eval y = .slice (some ⟨wr.heap.size, 0, none⟩) 1 1) (hl : n ≤ 1000000)
    (h : ∀ A c w', Row W0 w' (os ++ [x]) (.slice A m c) → (os ++ [x]).length = m → wpList Tryz.prog ops Q rest (a.put o.dst (.slice A m c)) w') : wpList Tryz.prog ops Q (o :: rest) a (wr.alloc (.cells #[.string (bs (txt x))] 9)) := by
  obtain ⟨iS, hiS, hS0, hS1, hS2⟩ := info_parts infoStr
  have hsz := hR.bel.size
  subst hn hm
  refine wpList_append_any _ hgd s y 29 ho W0.heap.size 9 iS (.string ⟨#[]⟩) 1 16 Tryz.underlying29 hiS hS0 hS1 hS2 rfl (by decide) v os.length _ hs (hR.own.alloc _) _ (some ⟨_, 0, none⟩) 1 1 [.string (bs (txt x))] hy (reads_blk (Blk.new _ _ _) rfl) (by simp [Value.oneCell']) (by unfold maxLen; omega) (by omega) (by simp; omega) ?_
  intro v' w' hown hgr _
  have hlo := fun i hi => (hR.own.lt i hi).1
  have hb : Below W0.heap.size W0 w' := (hR.bel.alloc hR.bel.size _).grown hgr (by simp; omega) hlo
  obtain ⟨A, c, rfl⟩ := own_sl hown
  exact h A c w' ⟨hb, by simpa using hown⟩ (by simp)
end
/-- Parts, as the reference has them. -/
def parts2V (p : PartsP) : Value :=
  .agg #[.string p.v0, .string p.v1, .string p.v2, .string p.v3, .string (bs (txt p.key)), .bool p.asks, .int .i64 p.w0, .int .i64 p.w1, .int .i64 p.w2, .string p.gp, .string p.gg, .string (bs (txt p.e)), .string (bs (txt p.f)), .string (bs (txt p.k))]
theorem wholeL_len {s : ByteArray} (h : s.size ≤ 300000) : (wholeL s.data.toList).length ≤ 1000000 := by
  have h2 := signL_len (plainL s.data.toList)
  have h3 := plainL_len s.data.toList
  have h4 := size_len s
  unfold wholeL
  rw [List.length_append, q4_len]
  omega
def vsP (p : PartsP) : List ByteArray := [p.v0, p.v1, p.v2, p.v3]
def wsP (p : PartsP) : List Nat := [p.w0, p.w1, p.w2]
theorem take_map_snoc {α β : Type} (f : α → β) {l : List α} {i : Nat} (h : i < l.length) : (l.map f).take (i + 1) = (l.map f).take i ++ [f l[i]] := by
  rw [List.take_succ_eq_append_getElem (by rw [List.length_map]; exact h), List.getElem_map]
theorem partsO_fine (p : PartsP) (hf : PFit p) (fk : fineO p.key) (fe : fineO p.e) (ff : fineO p.f) (fs : fineO p.k) : ∀ o ∈ partsO p, fineO o := by
  intro o ho
  have h := hf
  unfold partsO at ho
  simp only [List.mem_append, List.mem_cons, List.not_mem_nil, or_false] at ho
  rcases ho with ((rfl | rfl | rfl | rfl | rfl) | ho) | rfl | rfl | rfl
  · exact tData_fine (by have := h.v0; omega)
  · exact tData_fine (by have := h.v1; omega)
  · exact tData_fine (by have := h.v2; omega)
  · exact tData_fine (by have := h.v3; omega)
  · exact fk
  · exact askO_fine p ⟨by have := h.gp; omega, by have := h.gg; omega⟩ o ho
  · exact fe
  · exact ff
  · exact fs
section
variable {w : World}
set_option maxHeartbeats 4000000 in
set_option maxRecDepth 100000 in
theorem rList20_any (p : PartsP) (hf : PFit p) (fk : fineO p.key) (fe : fineO p.e) (ff : fineO p.f) (fs : fineO p.k) (w : World) : Calls Tryz.prog 47 #[parts2V p] w (Says (txt (transO p)) w) := by
  unfold parts2V
  obtain ⟨W0, hW0⟩ : ∃ W0, W0 = w.alloc (.cells #[.string p.v0, .string p.v1, .string p.v2, .string p.v3, .string (bs (txt p.key)), .bool p.asks, .int .i64 p.w0, .int .i64 p.w1, .int .i64 p.w2, .string p.gp, .string p.gg, .string (bs (txt p.e)), .string (bs (txt p.f)), .string (bs (txt p.k))] 88) := ⟨_, rfl⟩
  have hbW : Below w.heap.size w W0 := by rw [hW0]; exact (Below.refl _ _).alloc (Nat.le_refl _) _
  have hM : Blk W0 w.heap.size 88 #[.string p.v0, .string p.v1, .string p.v2, .string p.v3, .string (bs (txt p.key)), .bool p.asks, .int .i64 p.w0, .int .i64 p.w1, .int .i64 p.w2, .string p.gp, .string p.gg, .string (bs (txt p.e)), .string (bs (txt p.f)), .string (bs (txt p.k))] := by rw [hW0]; exact Blk.new _ _ _
  have hwz := hM.lt
  have KC := hide (fun (W : World) (hb : Below W0.heap.size W0 W) => hM.below hb hM.lt)
  have Hf := hide hf
  have hPF := hide (partsO_fine p hf fk fe ff fs)
  have HP := hide (show partsO p = (vsP p).map tData ++ [p.key] ++ askO p ++ [p.e, p.f, p.k] from rfl)
  clear hM hf fk fe ff fs
  go_enter Tryz.func47, Tryz.ntmps47
  go_wp2_with fail
  rw [← hW0]
  clear hW0
  go_loopw [4, 3] (fun vi v wr => ∃ (i : Nat) (A : Option Addr) (c : Nat), vi = .int .i64 i ∧ i ≤ 4 ∧ v = .slice A i c ∧ Row W0 wr (((vsP p).map tData).take i) (.slice A i c)) (fun vi _ _ => 4 - (intOf vi).toNat)
  case atStart => exact ⟨0, none, 0, rfl, by omega, rfl, row_nil W0⟩
  case round =>
    obtain ⟨i, A, c, rfl, hi, rfl, hR⟩ := hrel
    have hlen : ((vsP p).map tData).length = 4 := rfl
    have hvl : (vsP p).length = 4 := rfl
    have Hil := hide (show (((vsP p).map tData).take i).length = i by rw [List.length_take, hlen]; omega)
    clear hlen
    by_cases h4 : i < 4
    · have hii : (i : Int) < 4 := by omega
      have hk := KC.out wr hR.bel
      have hcell : wr.cell? ⟨w.heap.size, i, none⟩ = some (.string ((vsP p)[i]'(by omega))) := by
        obtain rfl | rfl | rfl | rfl : i = 0 ∨ i = 1 ∨ i = 2 ∨ i = 3 := by omega
        · exact hk.cell 0
        · exact hk.cell 1
        · exact hk.cell 2
        · exact hk.cell 3
      have hsz : ((vsP p)[i]'(by omega)).size ≤ 1000000 := by
        have := Hf.out
        obtain rfl | rfl | rfl | rfl : i = 0 ∨ i = 1 ∨ i = 2 ∨ i = 3 := by omega
        · exact this.v0
        · exact this.v1
        · exact this.v2
        · exact this.v3
      have Hsn := hide (take_map_snoc tData (l := vsP p) (i := i) (by omega))
      generalize (vsP p)[i]'(by omega) = s at hcell hsz Hsn
      have HD := hide (fun W => rData_s s W (by omega))
      clear hk
      go_wp2_with (first
        | (go_at_call 69; refine (HD.out _).mono ?_; rintro e w1 ⟨rfl, hb1⟩; replace hR := hR.below hb1)
        | (at_builtin; refine wp_row (tData s) i (i + 1) Hil.out rfl rfl (.tmp 10) (.tmp 16) rfl hR rfl rfl (by omega) ?_; intro A6 c6 w6 hR6 _; rw [← Hsn.out] at hR6))
      exact ⟨⟨i + 1, A6, c6, by go_num, by omega, rfl, hR6⟩, by simp [intOf]; omega⟩
    · obtain rfl : i = 4 := by omega
      rw [List.take_of_length_le (by rw [List.length_map, hvl]; omega)] at Hil hR
      generalize (vsP p).map tData = os at HP Hil hR
      have k4 : wr.cell? ⟨w.heap.size, 4, none⟩ = some (.string (bs (txt p.key))) := (KC.out wr hR.bel).cell 4
      go_wp2_with (at_builtin; refine wp_row p.key 4 5 Hil.out rfl rfl (.tmp 18) (.tmp 21) rfl hR rfl rfl (by omega) ?_; intro A6 c6 w6 hR6 hL6)
      have Hos5 := hL6
      clear Hil hR k4
      have HF := hide (fun l (hl : l = os ++ [p.key] ++ askO p ++ [p.e, p.f, p.k]) => (show ∀ o ∈ l, fineO o from by rw [hl, ← HP.out]; exact hPF.out))
      have HT := hide (show transO p = tList (os ++ [p.key] ++ askO p ++ [p.e, p.f, p.k]) from by unfold transO; rw [HP.out])
      have k5 : w6.cell? ⟨w.heap.size, 5, none⟩ = some (.bool p.asks) := (KC.out w6 hR6.bel).cell 5
      clear HP
      cases hp : p.asks with
      | false =>
        have hO : askO p = [] := by unfold askO; rw [hp]; rfl
        rw [hO, List.append_nil] at HF HT
        rw [hp] at k5
        have k11 : w6.cell? ⟨w.heap.size, 11, none⟩ = some (.string (bs (txt p.e))) := (KC.out w6 hR6.bel).cell 11
        go_loopw [5, 3] (fun vi v wr => vi = .int .i64 0 ∧ v = .slice A6 5 c6 ∧ wr = w6) (fun vi _ _ => 0)
        case atStart => exact ⟨rfl, rfl, rfl⟩
        case round =>
          obtain ⟨rfl, rfl, rfl⟩ := hrel
          go_wp2_with (first
            | (at_builtin; refine wp_row p.e 5 6 hL6 rfl rfl (.tmp 58) (.tmp 61) rfl hR6 rfl rfl (by omega) ?_; intro A7 c7 w7 hR7 hL7; have k12 : w7.cell? ⟨w.heap.size, 12, none⟩ = some (.string (bs (txt p.f))) := (KC.out w7 hR7.bel).cell 12)
              | (at_builtin; refine wp_row p.f 6 7 hL7 rfl rfl (.tmp 63) (.tmp 66) rfl hR7 rfl rfl (by omega) ?_; intro A8 c8 w8 hR8 hL8; have k13 : w8.cell? ⟨w.heap.size, 13, none⟩ = some (.string (bs (txt p.k))) := (KC.out w8 hR8.bel).cell 13)
              | (at_builtin; refine wp_row p.k 7 8 hL8 rfl rfl (.tmp 68) (.tmp 71) rfl hR8 rfl rfl (by omega) ?_; intro A9 c9 w9 hR9 hL9)
              | (go_at_call 70; refine (rList_any hR9.txs (HF.out _ (by simp)) (by rw [hL9]; omega)).mono ?_; rintro e w10 ⟨rfl, hb10⟩))
          go_ret
          exact ⟨by rw [HT.out]; simp, hbW.trans ((hR9.bel.mono (Nat.le_of_lt hwz)).trans (hb10.mono (Nat.le_trans (Nat.le_of_lt hwz) hR9.bel.size)))⟩
      | true =>
        have hO : askO p = (wsP p).map (fun n => tData (bs (q4 n))) ++ [tData (bs (wholeL p.gp.data.toList)), tData (bs (wholeL p.gg.data.toList))] := by unfold askO; rw [if_pos hp]; rfl
        rw [hO] at HF HT
        have hwl : (wsP p).length = 3 := rfl
        rw [hp] at k5
        clear hO k5
        have Hos := hide Hos5
        clear Hos5
        go_loopw [5, 3] (fun vi v wr => ∃ (j : Nat) (A : Option Addr) (c : Nat), vi = .int .i64 j ∧ j ≤ 3 ∧ v = .slice A (5 + j) c ∧ Row W0 wr (os ++ [p.key] ++ ((wsP p).map (fun n => tData (bs (q4 n)))).take j) (.slice A (5 + j) c)) (fun vi _ _ => 3 - (intOf vi).toNat)
        case atStart => exact ⟨0, A6, c6, rfl, by omega, rfl, by simpa using hR6⟩
        case round =>
          obtain ⟨j, A, c, rfl, hj, rfl, hR⟩ := hrel
          have Hjl := hide (show (os ++ [p.key] ++ ((wsP p).map (fun n => tData (bs (q4 n)))).take j).length = 5 + j by rw [List.length_append, Hos.out, List.length_take, List.length_map, hwl]; omega)
          have k5 : wr.cell? ⟨w.heap.size, 5, none⟩ = some (.bool true) := by rw [← hp]; exact (KC.out wr hR.bel).cell 5
          by_cases h3 : j < 3
          · have hii : (j : Int) < 3 := by omega
            have hk := KC.out wr hR.bel
            have hcell : wr.cell? ⟨w.heap.size, 6 + j, none⟩ = some (.int .i64 ((wsP p)[j]'(by omega) : Nat)) := by
              obtain rfl | rfl | rfl : j = 0 ∨ j = 1 ∨ j = 2 := by omega
              · exact hk.cell 6
              · exact hk.cell 7
              · exact hk.cell 8
            have hwf : (wsP p)[j]'(by omega) < 4294967296 := by
              have := Hf.out
              obtain rfl | rfl | rfl : j = 0 ∨ j = 1 ∨ j = 2 := by omega
              · exact this.w0
              · exact this.w1
              · exact this.w2
            have Hsn := hide (take_map_snoc (fun n => tData (bs (q4 n))) (l := wsP p) (i := j) (by omega))
            generalize (wsP p)[j]'(by omega) = n at hcell hwf Hsn
            have HU := hide (fun W => rU32_any n W hwf)
            have HD := hide (fun W => rData_any (q4 n) W (by rw [q4_len]; omega))
            clear hk hp
            go_wp2_with (first
              | (go_at_call 18; refine (HU.out _).mono ?_; rintro e w1 ⟨rfl, hb1⟩; replace hR := hR.below hb1)
              | (go_at_call 69; refine (HD.out _).mono ?_; rintro e w2 ⟨rfl, hb2⟩; replace hR := hR.below hb2)
              | (at_builtin; refine wp_row (tData (bs (q4 n))) (5 + j) (5 + (j + 1)) Hjl.out rfl rfl (.tmp 31) (.tmp 38) rfl hR rfl rfl (by omega) ?_; intro A7 c7 w7 hR7 _; rw [List.append_assoc, ← Hsn.out] at hR7))
            exact ⟨⟨j + 1, A7, c7, by go_num, by omega, rfl, hR7⟩, by simp [intOf]; omega⟩
          · obtain rfl : j = 3 := by omega
            rw [List.take_of_length_le (by rw [List.length_map, hwl]; omega)] at Hjl hR
            generalize (wsP p).map (fun n => tData (bs (q4 n))) = ws at HF HT Hjl hR
            have Hf2 := Hf.out
            have HW1 := hide (fun W => rWhole_any p.gp W (by have := Hf2.gp; omega))
            have HW2 := hide (fun W => rWhole_any p.gg W (by have := Hf2.gg; omega))
            have HD1 := hide (fun W => rData_any (wholeL p.gp.data.toList) W (by have := wholeL_len Hf2.gp; omega))
            have HD2 := hide (fun W => rData_any (wholeL p.gg.data.toList) W (by have := wholeL_len Hf2.gg; omega))
            clear Hf2
            have k9 : wr.cell? ⟨w.heap.size, 9, none⟩ = some (.string p.gp) := (KC.out wr hR.bel).cell 9
            go_wp2_with (first
              | (go_at_call 74; (with_reducible refine (HW1.out _).mono ?_); rintro e w1 ⟨rfl, hb1⟩; replace hR := hR.below hb1)
              | (go_at_call 69; (with_reducible refine (HD1.out _).mono ?_); rintro e w2 ⟨rfl, hb2⟩; replace hR := hR.below hb2)
              | (at_builtin; refine wp_row (tData (bs (wholeL p.gp.data.toList))) 8 9 Hjl.out rfl rfl (.tmp 42) (.tmp 48) rfl hR rfl rfl (by omega) ?_; intro A5 c5 w5 hR5 hL5; have k10 : w5.cell? ⟨w.heap.size, 10, none⟩ = some (.string p.gg) := (KC.out w5 hR5.bel).cell 10)
              | (go_at_call 74; (with_reducible refine (HW2.out _).mono ?_); rintro e w3 ⟨rfl, hb3⟩; replace hR5 := hR5.below hb3)
              | (go_at_call 69; (with_reducible refine (HD2.out _).mono ?_); rintro e w4 ⟨rfl, hb4⟩; replace hR5 := hR5.below hb4)
              | (at_builtin; refine wp_row (tData (bs (wholeL p.gg.data.toList))) 9 10 hL5 rfl rfl (.tmp 50) (.tmp 56) rfl hR5 rfl rfl (by omega) ?_; intro A6 c6 w6 hR6 hL6; have k11 : w6.cell? ⟨w.heap.size, 11, none⟩ = some (.string (bs (txt p.e))) := (KC.out w6 hR6.bel).cell 11)
              | (at_builtin; refine wp_row p.e 10 11 hL6 rfl rfl (.tmp 58) (.tmp 61) rfl hR6 rfl rfl (by omega) ?_; intro A7 c7 w7 hR7 hL7; have k12 : w7.cell? ⟨w.heap.size, 12, none⟩ = some (.string (bs (txt p.f))) := (KC.out w7 hR7.bel).cell 12)
              | (at_builtin; refine wp_row p.f 11 12 hL7 rfl rfl (.tmp 63) (.tmp 66) rfl hR7 rfl rfl (by omega) ?_; intro A8 c8 w8 hR8 hL8; have k13 : w8.cell? ⟨w.heap.size, 13, none⟩ = some (.string (bs (txt p.k))) := (KC.out w8 hR8.bel).cell 13)
              | (at_builtin; refine wp_row p.k 12 13 hL8 rfl rfl (.tmp 68) (.tmp 71) rfl hR8 rfl rfl (by omega) ?_; intro A9 c9 w9 hR9 hL9)
              | (go_at_call 70; refine (rList_any hR9.txs (HF.out _ (by simp)) (by rw [hL9]; omega)).mono ?_; rintro e w10 ⟨rfl, hb10⟩))
            go_ret
            exact ⟨by rw [HT.out]; simp, hbW.trans ((hR9.bel.mono (Nat.le_of_lt hwz)).trans (hb10.mono (Nat.le_trans (Nat.le_of_lt hwz) hR9.bel.size)))⟩
theorem rHash20_any (p : PartsP) (hf : PFit p) (fk : fineO p.key) (fe : fineO p.e) (ff : fineO p.f) (fs : fineO p.k) (ft : fineO (transO p)) (w : World) : Calls Tryz.prog 48 #[parts2V p] w (Says (txt (hashO p)) w) := by
  have HL := hide (fun W => rList20_any p hf fk fe ff fs W)
  have HH := hide (fun W => rHash_any ft W)
  clear hf fk fe ff fs ft
  unfold parts2V at *
  unfold hashO
  go_enter Tryz.func48, Tryz.ntmps48
  go_wp2_with (first
    | (go_at_call 47; refine (HL.out _).mono ?_; rintro e w1 ⟨rfl, hb1⟩)
    | (go_at_call 75; refine (HH.out _).mono ?_; rintro e w2 ⟨rfl, hb2⟩))
  go_ret
  exact ⟨rfl, by (repeat (first | exact Below.refl _ _ | refine below_drewN ?_ _ | refine Below.drew ?_ | refine Below.alloc ?_ (by first | omega | (simp; done) | (simp; omega)) _ | refine Below.setCell ?_ (by first | omega | (simp; done) | (simp; omega)) _ | refine bel_alloc ?_ _ | refine bel_trans ?_ (by assumption) | refine Below.trans ?_ (Below.mono (by assumption) (by first | omega | (simp; done) | (simp; omega)))))⟩
end
end Go.Proofs.YtfjegckomjpkdaaGreatDoor
