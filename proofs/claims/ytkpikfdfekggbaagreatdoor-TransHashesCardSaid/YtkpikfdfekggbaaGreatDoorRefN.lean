/-
  The contracts of the reference for package term: Derive and List. Conditions: texts are of moderate length.
-/
import Derived.Test.YtkpikfdfekggbaaGreatDoorRefM
namespace Go.Proofs.YtkpikfdfekggbaaGreatDoor
open Go.RowKit Go.ChangeShapes Go.WideShapes Go.Sort

@[go_sem] theorem nums_bs (c : Nat) : strOfNums [(c : Int)] = bs [UInt8.ofNat c] := bs_eq (by rw [strOfNums_data]; simp)
set_option maxHeartbeats 2000000 in
set_option maxRecDepth 100000 in
theorem rDerive_any (c : Nat) (hc : c < 256) {o p q : Option Tm} (ho : fineO o) (hp : fineO p) (hq : fineO q) (w : World) : Calls Tryz.prog 86 #[.int .u8 c, .string (bs (txt o)), .string (bs (txt p)), .string (bs (txt q))] w (Says (txt (tDerive c o p q)) w) := by
  cases o with
  | none =>
    change Calls Tryz.prog 86 #[.int .u8 c, .string ⟨#[]⟩, .string (bs (txt p)), .string (bs (txt q))] w (Says [] w)
    go_enter Tryz.func86, Tryz.ntmps86
    go_wp2
    go_ret
    exact ⟨rfl, by (repeat (first | exact Below.refl _ _ | refine below_drewN ?_ _ | refine Below.drew ?_ | refine Below.alloc ?_ (by first | omega | (simp; done) | (simp; omega)) _ | refine Below.setCell ?_ (by first | omega | (simp; done) | (simp; omega)) _ | refine bel_alloc ?_ _ | refine bel_trans ?_ (by assumption) | refine Below.trans ?_ (Below.mono (by assumption) (by first | omega | (simp; done) | (simp; omega)))))⟩
  | some t =>
    have hl1 := (ho t rfl).2
    have hE1 := enc_isE t
    cases p with
    | none =>
      change Calls Tryz.prog 86 #[.int .u8 c, .string (bs (enc t)), .string ⟨#[]⟩, .string (bs (txt q))] w (Says [] w)
      go_enter Tryz.func86, Tryz.ntmps86
      go_wp2
      go_ret
      exact ⟨rfl, by (repeat (first | exact Below.refl _ _ | refine below_drewN ?_ _ | refine Below.drew ?_ | refine Below.alloc ?_ (by first | omega | (simp; done) | (simp; omega)) _ | refine Below.setCell ?_ (by first | omega | (simp; done) | (simp; omega)) _ | refine bel_alloc ?_ _ | refine bel_trans ?_ (by assumption) | refine Below.trans ?_ (Below.mono (by assumption) (by first | omega | (simp; done) | (simp; omega)))))⟩
    | some u =>
      have hl2 := (hp u rfl).2
      have hE2 := enc_isE u
      cases q with
      | none =>
        change Calls Tryz.prog 86 #[.int .u8 c, .string (bs (enc t)), .string (bs (enc u)), .string ⟨#[]⟩] w (Says [] w)
        go_enter Tryz.func86, Tryz.ntmps86
        go_wp2
        go_ret
        exact ⟨rfl, by (repeat (first | exact Below.refl _ _ | refine below_drewN ?_ _ | refine Below.drew ?_ | refine Below.alloc ?_ (by first | omega | (simp; done) | (simp; omega)) _ | refine Below.setCell ?_ (by first | omega | (simp; done) | (simp; omega)) _ | refine bel_alloc ?_ _ | refine bel_trans ?_ (by assumption) | refine Below.trans ?_ (Below.mono (by assumption) (by first | omega | (simp; done) | (simp; omega)))))⟩
      | some z =>
        have hl3 := (hq z rfl).2
        have hE3 := enc_isE z
        have hc0 : (0 : Int) ≤ c := by omega
        have hc1 : (c : Int) < 256 := by omega
        have HT := hide (fun W => rTag_at 8 8 rfl W (by omega))
        have HF := hide (fun W => rFits_any (UInt8.ofNat (240 + 8) :: UInt8.ofNat c :: (enc t ++ (enc u ++ enc z))) W (by simp; omega))
        have Hl := hide (show fitsL (UInt8.ofNat (240 + 8) :: UInt8.ofNat c :: (enc t ++ (enc u ++ enc z))) = txt (lim (.mk 8 0 c eB [t, u, z])) from lim_txt (by simp [enc, encs, head, mid]))
        change Calls Tryz.prog 86 #[.int .u8 c, .string (bs (enc t)), .string (bs (enc u)), .string (bs (enc z))] w (Says (txt (lim (.mk 8 0 c eB [t, u, z]))) w)
        generalize enc t = et at hl1 HF Hl hE1
        generalize enc u = eu at hl2 HF Hl hE2
        generalize enc z = ez at hl3 HF Hl hE3
        go_enter Tryz.func86, Tryz.ntmps86
        go_wp2_with fail
        go_region_with (first
          | (go_at_call 110; refine (HT.out _).mono ?_; rintro e w2 ⟨rfl, hb2⟩; try have hcv := conv1_below hb2)
          | (go_at_call 109; refine (HF.out _).mono ?_; rintro e w3 ⟨rfl, hb3⟩))
        all_goals go_wp2
        all_goals go_ret
        all_goals exact ⟨ret_bsb Hl.out, by (repeat (first | exact Below.refl _ _ | refine below_drewN ?_ _ | refine Below.drew ?_ | refine Below.alloc ?_ (by first | omega | (simp; done) | (simp; omega)) _ | refine Below.setCell ?_ (by first | omega | (simp; done) | (simp; omega)) _ | refine bel_alloc ?_ _ | refine bel_trans ?_ (by assumption) | refine Below.trans ?_ (Below.mono (by assumption) (by first | omega | (simp; done) | (simp; omega)))))⟩
theorem tList_at {os : List (Option Tm)} {r : List Tm} (h : os.length ≤ 32) (hr : os = r.map some) : tList os = lim (.mk 10 0 0 eB r) := by
  unfold tList
  rw [if_pos h, hr, alls_some]
theorem tList_none {os : List (Option Tm)} (h : none ∈ os) : tList os = none := by
  unfold tList
  split
  · rw [alls_none h]
  · rfl
/-- The head of a list. -/
def head10 (n : Nat) : List UInt8 := UInt8.ofNat (240 + 10) :: q4 n
theorem head10_len (n : Nat) : (head10 n).length = 5 := rfl
theorem enc_list (r : List Tm) : enc (.mk 10 0 0 eB r) = head10 r.length ++ encs r := by simp [enc, head, mid, head10]
/-- A list that is too long whatever follows. -/
theorem tList_big {os : List (Option Tm)} {r : List Tm} {k : Nat} (hk : os.take k = r.map some) (h : 131072 < 5 + (encs r).length) : tList os = none := by
  unfold tList
  split
  · cases e : alls os with
    | none => rfl
    | some m =>
      have hm := alls_mem e
      have h2 : m.take k = r := by
        rw [hm, ← List.map_take] at hk
        exact (List.map_inj_right fun _ _ e => by injection e).1 hk
      have h3 : encs m = encs r ++ encs (m.drop k) := by
        rw [← h2, ← encs_append, List.take_append_drop]
      show lim _ = none
      unfold lim
      rw [if_neg]
      rw [enc_list, List.length_append, head10_len, h3, List.length_append]
      omega
  · rfl
set_option maxHeartbeats 2000000 in
theorem rList_any {w : World} {v : Value} {os : List (Option Tm)} (hS : Txs w v (os.map txt)) (hf : ∀ o ∈ os, fineO o) (h1 : os.length ≤ 1000000000) :
    Calls Tryz.prog 70 #[v] w (Says (txt (tList os)) w) := by
  obtain ⟨A, c, rfl, hc⟩ := hS.open_
  simp only [List.length_map] at hc ⊢
  by_cases h32 : os.length ≤ 32
  · have HC := hide hc
    have HT := hide (fun W => rTag_at 10 10 rfl W (by omega))
    have HU := hide (fun W => rU32_any os.length W (by omega))
    have Hf := hide hf
    have hi : ¬ (32 : Int) < os.length := by omega
    clear hS hc hf
    go_enter Tryz.func70, Tryz.ntmps70
    go_wp2_with (first
      | (go_at_call 110; refine (HT.out _).mono ?_; rintro e w1 ⟨rfl, hb1⟩)
      | (go_at_call 18; refine (HU.out _).mono ?_; rintro e w2 ⟨rfl, hb2⟩))
    go_loopw [4, 3] (fun i s wr => ∃ (k : Nat) (r : List Tm), k ≤ os.length ∧ i = .int .i64 k ∧ s = .string (bs (head10 os.length ++ encs r)) ∧ Hid (os.take k = r.map some) ∧ 5 + (encs r).length ≤ 131072 ∧ w2 = wr) (fun i _ _ => os.length - (intOf i).toNat)
    case atStart => exact ⟨0, [], Nat.zero_le _, rfl, by simp [encs, head10], hide rfl, by simp [encs], rfl⟩
    case round =>
      obtain ⟨k, r, hk, rfl, rfl, Hr, hlen, rfl⟩ := hrel
      by_cases hlt : k < os.length
      · have hki : (k : Int) < os.length := by omega
        obtain ⟨ad, rfl, hab, hcc⟩ := HC.out k (by simpa using hlt)
        have hc0 : w2.cell? (ad.add k) = some (.string (bs (txt os[k]))) := by
          have h9 := cellAdd (w := w) (B := w.heap.size) (w' := w2) (by (repeat (first | exact Below.refl _ _ | refine below_drewN ?_ _ | refine Below.drew ?_ | refine Below.alloc ?_ (by first | omega | (simp; done) | (simp; omega)) _ | refine Below.setCell ?_ (by first | omega | (simp; done) | (simp; omega)) _ | refine bel_alloc ?_ _ | refine bel_trans ?_ (by assumption) | refine Below.trans ?_ (Below.mono (by assumption) (by first | omega | (simp; done) | (simp; omega)))))) hab hcc
          simpa using h9
        clear hcc
        cases e : os[k] with
        | none =>
          have Ho := hide (show txt (tList os) = [] by
            rw [tList_none (by rw [← e]; exact List.getElem_mem hlt)]
            rfl)
          rw [Ho.out]
          rw [e] at hc0
          change w2.cell? (ad.add k) = some (.string ⟨#[]⟩) at hc0
          clear e
          go_wp2
          go_ret
          exact ⟨rfl, by (repeat (first | exact Below.refl _ _ | refine below_drewN ?_ _ | refine Below.drew ?_ | refine Below.alloc ?_ (by first | omega | (simp; done) | (simp; omega)) _ | refine Below.setCell ?_ (by first | omega | (simp; done) | (simp; omega)) _ | refine bel_alloc ?_ _ | refine bel_trans ?_ (by assumption) | refine Below.trans ?_ (Below.mono (by assumption) (by first | omega | (simp; done) | (simp; omega)))))⟩
        | some t =>
          have hft := (Hf.out _ (List.getElem_mem hlt) t e).2
          have hE := enc_isE t
          rw [e] at hc0
          change w2.cell? (ad.add k) = some (.string (bs (enc t))) at hc0
          have Hr2 := hide (show os.take (k + 1) = (r ++ [t]).map some by
            rw [List.take_succ_eq_append_getElem hlt, Hr.out, e]
            simp)
          have hes := encs_append r [t]
          have he1 : encs [t] = enc t := by simp [encs]
          rw [he1] at hes
          have Hes := hide hes
          clear e hes he1
          have hh := head10_len os.length
          have hl2 : (head10 os.length ++ encs r).length ≤ 131072 := by rw [List.length_append, hh]; omega
          have hl3 : (head10 os.length ++ encs r ++ enc t).length = 5 + (encs (r ++ [t])).length := by
            rw [Hes.out, List.length_append, List.length_append, hh, List.length_append]
            omega
          have Ha := hide (show head10 os.length ++ encs r ++ enc t = head10 os.length ++ encs (r ++ [t]) by rw [Hes.out, List.append_assoc])
          rw [List.length_append] at hl3
          clear hh
          generalize enc t = et at hft hE hc0 hl3 Ha
          by_cases hbig : 5 + (encs (r ++ [t])).length ≤ 131072
          · have hbi : ¬ (131072 : Int) < ((head10 os.length ++ encs r).length : Int) + (et.length : Int) := by omega
            generalize head10 os.length ++ encs r = hp at hl2 hl3 Ha hbi
            have Hl3 := hide hl3
            clear hl3
            go_wp2
            exact ⟨⟨k + 1, r ++ [t], hlt, by go_num, by rw [Ha.out], Hr2, hbig, trivial⟩, by simp [intOf]; omega⟩
          · have hbi : (131072 : Int) < ((head10 os.length ++ encs r).length : Int) + (et.length : Int) := by omega
            have Ho := hide (show txt (tList os) = [] by
              rw [tList_big Hr2.out (by omega)]
              rfl)
            rw [Ho.out]
            generalize head10 os.length ++ encs r = hp at hl2 hl3 Ha hbi
            have Hl3 := hide hl3
            clear hl3
            go_wp2
            go_ret
            exact ⟨rfl, by (repeat (first | exact Below.refl _ _ | refine below_drewN ?_ _ | refine Below.drew ?_ | refine Below.alloc ?_ (by first | omega | (simp; done) | (simp; omega)) _ | refine Below.setCell ?_ (by first | omega | (simp; done) | (simp; omega)) _ | refine bel_alloc ?_ _ | refine bel_trans ?_ (by assumption) | refine Below.trans ?_ (Below.mono (by assumption) (by first | omega | (simp; done) | (simp; omega)))))⟩
      · have hki : ¬ (k : Int) < os.length := by omega
        obtain rfl : k = os.length := by omega
        have hr := Hr.out
        rw [List.take_length] at hr
        have hrl : r.length = os.length := by rw [hr]; simp
        have Ho := hide (show txt (tList os) = head10 os.length ++ encs r by
          rw [tList_at h32 hr, lim, if_pos (by rw [enc_list, List.length_append, head10_len]; omega)]
          show enc _ = _
          rw [enc_list, hrl])
        clear hr hrl
        go_wp2
        go_ret
        exact ⟨ret_bsb Ho.out.symm, by (repeat (first | exact Below.refl _ _ | refine below_drewN ?_ _ | refine Below.drew ?_ | refine Below.alloc ?_ (by first | omega | (simp; done) | (simp; omega)) _ | refine Below.setCell ?_ (by first | omega | (simp; done) | (simp; omega)) _ | refine bel_alloc ?_ _ | refine bel_trans ?_ (by assumption) | refine Below.trans ?_ (Below.mono (by assumption) (by first | omega | (simp; done) | (simp; omega)))))⟩
  · have Ho := hide (show txt (tList os) = [] by rw [tList_long h32]; rfl)
    rw [Ho.out]
    have hi : (32 : Int) < os.length := by omega
    clear hS hc hf
    go_enter Tryz.func70, Tryz.ntmps70
    go_wp2
    go_ret
    exact ⟨rfl, by (repeat (first | exact Below.refl _ _ | refine below_drewN ?_ _ | refine Below.drew ?_ | refine Below.alloc ?_ (by first | omega | (simp; done) | (simp; omega)) _ | refine Below.setCell ?_ (by first | omega | (simp; done) | (simp; omega)) _ | refine bel_alloc ?_ _ | refine bel_trans ?_ (by assumption) | refine Below.trans ?_ (Below.mono (by assumption) (by first | omega | (simp; done) | (simp; omega)))))⟩
end Go.Proofs.YtkpikfdfekggbaaGreatDoor
