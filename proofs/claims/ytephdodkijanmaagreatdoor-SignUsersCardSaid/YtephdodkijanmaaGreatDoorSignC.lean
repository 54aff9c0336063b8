/-
  What is wrong with a signature, as an error and as a text; the contracts of sign's CheckUser and of ref22's Request, User and CheckUser. Conditions: texts of at most 1,000,000 bytes; the library's handle is as it was laid.
-/
import Derived.Test.YtephdodkijanmaaGreatDoorSignR
import Derived.Test.YtephdodkijanmaaGreatDoorSignQ
import Derived.Test.YtephdodkijanmaaGreatDoorOwnerR
set_option linter.unusedVariables false
set_option linter.unusedSimpArgs false
namespace Go.Proofs.YtephdodkijanmaaGreatDoor
open Go.RowKit Go.ChangeShapes Go.WideShapes Go.Sort
def usrB : ByteArray := ⟨#[117, 115, 101, 114]⟩
/-- What is wrong: the key, else the signature, else nothing. -/
noncomputable def chkS (a b : Prop) : ByteArray := @ite _ a (Classical.propDecidable a) keyB (@ite _ b (Classical.propDecidable b) sigB ⟨#[]⟩)
theorem chk_a {a b : Prop} (h : a) : chkS a b = keyB := by unfold chkS; rw [if_pos h]
theorem chk_b {a b : Prop} (h : ¬ a) (h2 : b) : chkS a b = sigB := by unfold chkS; rw [if_neg h, if_pos h2]
theorem chk_c {a b : Prop} (h : ¬ a) (h2 : ¬ b) : chkS a b = ⟨#[]⟩ := by unfold chkS; rw [if_neg h, if_neg h2]
theorem or_flip (p q : Option Tm) : (p = none ∨ p ≠ q) ↔ (q = none ∨ q ≠ p) := by
  constructor
  · rintro (h | h)
    · by_cases hq : q = none
      · exact .inl hq
      · exact .inr (by rw [h]; exact hq)
    · exact .inr (fun e => h e.symm)
  · rintro (h | h)
    · by_cases hq : p = none
      · exact .inl hq
      · exact .inr (by rw [h]; exact hq)
    · exact .inr (fun e => h e.symm)
/-- An error within two places, or none. -/
def ErrIs (S : Nat → Prop) (W : World) (s1 : ByteArray) (k : Int) (s2 : ByteArray) (v : Value) : Prop :=
  (s2 = ⟨#[]⟩ ∧ v = .nilIface) ∨ (s2.size ≤ 1000 ∧ (s2.toList == []) = false ∧ ∃ b1 b2, v = .iface 139 (.pointer (some ⟨b1, 0, none⟩)) ∧ Flt W b1 b2 s1 s2 k ∧ ¬ S b1 ∧ ¬ S b2)
theorem ErrIs.below {S : Nat → Prop} {W W' : World} {s1 s2 : ByteArray} {k : Int} {v : Value} (h : ErrIs S W s1 k s2 v) (hb : Below W.heap.size W W') : ErrIs S W' s1 k s2 v := by
  rcases h with h | ⟨h1, h2, b1, b2, h3, h4, h5⟩
  · exact .inl h
  · exact .inr ⟨h1, h2, b1, b2, h3, h4.below hb, h5⟩
/-- What a check of a signature answers. -/
def ChkE (B : Nat) (w : World) (g : Nat) (T : List Tm) (S : Nat → Prop) (s1 : ByteArray) (k : Int) (s2 : ByteArray) (m : Nat) (e : Ending) (w' : World) : Prop :=
  ∃ T' S' v, e = .returned v ∧ T <+: T' ∧ T'.length ≤ T.length + m ∧ Ar B w' g T' S' ∧ Grown S w S' w' ∧ ErrIs S' w' s1 k s2 v
section
variable {w : World}
theorem toldE_any {S : Nat → Prop} {s1 s2 : ByteArray} {k : Int} {v : Value} (hg : Hand w) (h : ErrIs S w s1 k s2 v) (h1 : s1.size ≤ 1000) :
    Calls Tryz.prog 20 #[v, .int .i64 k, .string s1, .string s2] w (fun e w' => e = .returned (.bool true) ∧ Below w.heap.size w w') := by
  rcases h with ⟨rfl, rfl⟩ | ⟨h2, h3, b1, b2, rfl, h4, _⟩
  · refine (told_nil k s1 w).mono ?_
    rintro e w' ⟨rfl, rfl⟩
    exact ⟨rfl, Below.refl _ _⟩
  · exact told_two hg h4 h1 h2 h3
end
theorem keyB_ok : keyB.size ≤ 1000 ∧ (keyB.toList == []) = false := ⟨by decide, by decide +kernel⟩
theorem sigB_ok : sigB.size ≤ 1000 ∧ (sigB.toList == []) = false := ⟨by decide, by decide +kernel⟩
section
variable {B g : Nat} {w w1 w2 : World} {T T1 : List Tm} {S S1 : Nat → Prop}
theorem chkE_wrong {s1 s2 : ByteArray} {k : Int} {m : Nat} {e : Ending} (hA : Ar B w1 g T1 S1) (hG : Grown S w S1 w1) (hp : T <+: T1) (hl : T1.length ≤ T.length + m) (h2 : s2.size ≤ 1000 ∧ (s2.toList == []) = false)
    (hw : ∃ b1 b2, e = .returned (.iface 139 (.pointer (some ⟨b1, 0, none⟩))) ∧ Flt w2 b1 b2 s1 s2 k ∧ Below w1.heap.size w1 w2 ∧ w1.heap.size ≤ b1 ∧ w1.heap.size ≤ b2) : ChkE B w g T S s1 k s2 m e w2 := by
  obtain ⟨b1, b2, rfl, hF, hb, l1, l2⟩ := hw
  exact ⟨T1, S1, _, rfl, hp, hl, hA.below hb, hG.trans (Grown.of_below hb), .inr ⟨h2.1, h2.2, b1, b2, rfl, hF, fun h9 => by have := hA.sL _ h9; omega, fun h9 => by have := hA.sL _ h9; omega⟩⟩
theorem checkHost_e (h : Use B w g T S) {alg : ByteArray} (ha : alg.size ≤ 1000000) (who : Int) {okey osig oh : Option Tm} {nk ns nh : Int} (hk : Idn T okey nk) (hs : Idn T osig ns) (hh : Idn T oh nh) (hT : T.length ≤ 50000000) :
    Calls Tryz.prog 21 #[.pointer (some ⟨g, 0, none⟩), .string alg, .int .i64 who, .int .i64 nk, .int .i64 ns, .int .i64 nh] w
      (ChkE B w g T S hostB 9 (chkS (okey = none ∨ okey ≠ tPub (tKey who)) (osig = none ∨ osig ≠ tSign alg (tKey who) oh)) 4) := by
  refine (checkHost_any h ha who hk hs hh hT).mono ?_
  rintro e w' ⟨T', S', hp, hl, hA, hG, ⟨h1, b1, b2, rfl, hF, n1, n2⟩ | ⟨⟨h0, h1, h2⟩, b1, b2, rfl, hF, n1, n2⟩ | ⟨⟨h0, h1, h2, h3⟩, rfl⟩⟩
  · rw [chk_a ((or_flip _ _).1 h1)]
    exact ⟨T', S', _, rfl, hp, hl, hA, hG, .inr ⟨keyB_ok.1, keyB_ok.2, b1, b2, rfl, hF, n1, n2⟩⟩
  · rw [chk_b (fun h9 => by rcases h9 with h9 | h9; exact h0 (h1.trans h9); exact h9 h1.symm) ((or_flip _ _).1 h2)]
    exact ⟨T', S', _, rfl, hp, hl, hA, hG, .inr ⟨sigB_ok.1, sigB_ok.2, b1, b2, rfl, hF, n1, n2⟩⟩
  · rw [chk_c (fun h9 => by rcases h9 with h9 | h9; exact h0 (h1.trans h9); exact h9 h1.symm) (fun h9 => by rcases h9 with h9 | h9; exact h2 (h3.trans h9); exact h9 h3.symm)]
    exact ⟨T', S', _, rfl, hp, hl, hA, hG, .inl ⟨rfl, rfl⟩⟩
set_option maxHeartbeats 2000000 in
theorem checkUser_any (h : Use B w g T S) {os okey osig : Option Tm} {n nk ns : Int} {user service alg : ByteArray} (ho : Idn T os n) (hk : Idn T okey nk) (hs : Idn T osig ns) (hz1 : user.size ≤ 1000000) (hz2 : service.size ≤ 1000000) (hz3 : alg.size ≤ 1000000) (hT : T.length ≤ 1000000) :
    Calls Tryz.prog 26 #[.pointer (some ⟨g, 0, none⟩), .int .i64 n, .string user, .string service, .string alg, .int .i64 nk, .int .i64 ns] w
      (ChkE B w g T S usrB 12 (chkS (isPb okey = false) (osig = none ∨ osig ≠ userO os user service alg (whoO okey))) 11) := by
  have HO := hide (owner_any h.ar hk)
  have H := hide h
  have Hs := hide hs
  have Ho := hide ho
  clear h hs ho hk
  cases hb : isPb okey with
  | false =>
    rw [hb] at HO
    generalize ((whoO okey : Nat) : Int) = who at HO ⊢
    rw [chk_a rfl]
    clear hb
    go_enter Tryz.func26, Tryz.ntmps26
    go_wp2_with fail
    refine HO.out.mono ?_
    rintro e w1 ⟨rfl, hb1⟩
    go_wp2_with fail
    refine (wrong_any usrB keyB 12 (by decide) w1).mono ?_
    intro e w2 hw
    have hF := hide (chkE_wrong (T := T) (m := 11) (H.out.below hb1).ar (Grown.of_below hb1) (List.prefix_refl _) (by omega) keyB_ok hw)
    obtain ⟨b1, b2, rfl, _⟩ := hw
    go_wp2_with fail
    go_ret
    exact hF.out
  | true =>
    rw [hb] at HO
    generalize ((whoO okey : Nat) : Int) = who at HO ⊢
    clear hb
    have h0 : ¬ (true = false) := by decide
    obtain ⟨want, hwant⟩ : ∃ want, want = userO os user service alg who := ⟨_, rfl⟩
    obtain ⟨s2, hs2⟩ : ∃ s2, s2 = chkS (true = false) (osig = none ∨ osig ≠ want) := ⟨_, rfl⟩
    rw [← hwant, ← hs2]
    have J1 := hide (fun h => hs2.trans (chk_b h0 h))
    have J2 := hide (fun h => hs2.trans (chk_c h0 h))
    have HW := hide hwant
    clear h0 hs2 hwant
    go_enter Tryz.func26, Tryz.ntmps26
    go_wp2_with fail
    refine HO.out.mono ?_
    rintro e w1 ⟨rfl, hb1⟩
    have HU := hide (user_any (H.out.below hb1) Ho.out hz1 hz2 hz3 who hT)
    go_wp2_with fail
    refine HU.out.mono ?_
    rintro e w3 ⟨T3, n3, S3, rfl, hid3, hpre3, hl3, hA3, hG3⟩
    rw [← HW.out] at hid3
    have e3 : n3 = -1 ↔ want = none := hid3.none_iff
    have e4 : n3 = ns ↔ want = osig := hid3.eq_iff hA3.ok (Hs.out.pre hpre3)
    have HA3 := hide hA3
    have HG3 := hide ((Grown.of_below hb1).trans hG3)
    clear hid3 hA3 hG3 HU
    by_cases c3 : n3 = -1
    · have HE := hide (J1.out ((or_flip _ _).1 (.inl (e3.1 c3))))
      subst c3
      clear e3 e4
      go_wp2_with fail
      refine (wrong_any usrB sigB 12 (by decide) w3).mono ?_
      intro e w4 hw
      have hF := hide (chkE_wrong (T := T) (m := 11) HA3.out HG3.out hpre3 hl3 sigB_ok hw)
      obtain ⟨b1, b2, rfl, _⟩ := hw
      go_wp2_with fail
      go_ret
      rw [HE.out]
      exact hF.out
    · by_cases c4 : n3 = ns
      · have hc : ¬ (osig = none ∨ osig ≠ want) := fun h9 => by
          rcases (or_flip _ _).1 h9 with h8 | h8
          · exact c3 (e3.2 h8)
          · exact h8 (e4.1 c4)
        have HE := hide (J2.out hc)
        subst c4
        clear e3 e4 hc
        go_wp2_with fail
        go_ret
        rw [HE.out]
        exact ⟨T3, S3, _, rfl, hpre3, hl3, HA3.out, HG3.out, .inl ⟨rfl, rfl⟩⟩
      · have HE := hide (J1.out ((or_flip _ _).1 (.inr (fun h9 => c4 (e4.2 h9)))))
        clear e3 e4
        go_wp2_with fail
        refine (wrong_any usrB sigB 12 (by decide) w3).mono ?_
        intro e w4 hw
        have hF := hide (chkE_wrong (T := T) (m := 11) HA3.out HG3.out hpre3 hl3 sigB_ok hw)
        obtain ⟨b1, b2, rfl, _⟩ := hw
        go_wp2_with fail
        go_ret
        rw [HE.out]
        exact hF.out
end
/-- Terms' texts in a row of the call's own, beside a block of the call's own. -/
structure RowB (W0 wr : World) (os : List (Option Tm)) (v : Value) (b : Nat) (t : TypeId) (cs : Array Value) : Prop where
  bel : Below W0.heap.size W0 wr
  own : wr.ownsRow W0.heap.size 9 1 v os.length (((os.map txt).map bs).map Value.string)
  blk : Blk wr b t cs
  ne : v.ownBlock ≠ some b
section
variable {W0 wr wz : World} {os : List (Option Tm)} {v : Value} {b : Nat} {t : TypeId} {cs : Array Value}
theorem RowB.below (h : RowB W0 wr os v b t cs) (hb : Below wr.heap.size wr wz) : RowB W0 wz os v b t cs :=
  ⟨h.bel.trans (hb.mono h.bel.size), h.own.kept (only_of_below hb none) (by cases v.ownBlock <;> simp), h.blk.below hb h.blk.lt, h.ne⟩
theorem RowB.txs (h : RowB W0 wr os v b t cs) : Txs wr v (os.map txt) := own_txs h.own (by simp)
theorem wp_rowB {ops : Array Oper} {rest : List Oper} {o : Oper} {a : Act} {Q : Exit → Act → World → Prop} (x : Option Tm) (n m : Nat) (hn : os.length = n) (hm : m = n + 1) (hgd : o.guard = none) (s y : Operand)
    (ho : o.op = .call { callee := .builtin .append, args := #[s, y], argTypes := #[32, 32] }) (hR : RowB W0 wr os v b t cs) (hs : a.eval s = v) (hy : a.eval y = .slice (some ⟨wr.heap.size, 0, none⟩) 1 1) (hl : n ≤ 1000000)
    (h : ∀ A c w', RowB W0 w' (os ++ [x]) (.slice A m c) b t cs → (os ++ [x]).length = m → wpList Tryz.prog ops Q rest (a.put o.dst (.slice A m c)) w') : wpList Tryz.prog ops Q (o :: rest) a (wr.alloc (.cells #[.string (bs (txt x))] 9)) := by
  obtain ⟨iS, hiS, hS0, hS1, hS2⟩ := info_parts infoStr
  have hsz := hR.bel.size
  have hlt := hR.blk.lt
  subst hn hm
  refine wpList_append_any _ hgd s y 32 ho W0.heap.size 9 iS (.string ⟨#[]⟩) 1 16 Tryz.underlying32 hiS hS0 hS1 hS2 rfl (by decide) v os.length _ hs (hR.own.alloc _) _ (some ⟨wr.heap.size, 0, none⟩) 1 1 [.string (bs (txt x))] hy (reads_blk (Blk.new _ _ _) rfl) (by simp [Value.oneCell']) (by unfold maxLen; omega) (by omega) (by simp; omega) ?_
  intro v' w' hown hgr hor
  have hlo := fun i hi => (hR.own.lt i hi).1
  have hb : Below W0.heap.size W0 w' := (hR.bel.alloc hR.bel.size _).grown hgr (by simp; omega) hlo
  obtain ⟨A, c, rfl⟩ := own_sl hown
  refine h A c w' ⟨hb, by simpa using hown, Blk.grown (hR.blk.alloc _) hgr (fun e => hR.ne e.symm), ?_⟩ (by simp)
  rcases hor with h9 | h9
  · rw [h9]; exact hR.ne
  · rw [h9]
    intro e
    have := Option.some.inj e
    simp at this
    omega
end
def rqS (user service alg : ByteArray) : List ByteArray := [⟨#[50]⟩, user, service, ⟨#[112, 117, 98, 108, 105, 99, 107, 101, 121]⟩, ⟨#[1]⟩, alg]
theorem reqL_fine {o p : Option Tm} (ho : fineO o) (hp : fineO p) {user service alg : ByteArray} (h1 : user.size ≤ 1000000) (h2 : service.size ≤ 1000000) (h3 : alg.size ≤ 1000000) : ∀ x ∈ reqL o user service alg p, fineO x := by
  intro x hx
  simp only [reqL, List.mem_cons, List.not_mem_nil, or_false] at hx
  rcases hx with rfl | rfl | rfl | rfl | rfl | rfl | rfl | rfl
  · exact ho
  · exact tData_fine (by decide)
  · exact tData_fine (by omega)
  · exact tData_fine (by omega)
  · exact tData_fine (by decide)
  · exact tData_fine (by decide)
  · exact tData_fine (by omega)
  · exact hp
theorem takeS_map_snoc {α β : Type} (f : α → β) {l : List α} {i : Nat} (h : i < l.length) : (l.map f).take (i + 1) = (l.map f).take i ++ [f l[i]] := by
  rw [List.take_succ_eq_append_getElem (by rw [List.length_map]; exact h), List.getElem_map]
section
variable {w : World}
set_option maxHeartbeats 4000000 in
set_option maxRecDepth 100000 in
theorem rRequest_any {o p : Option Tm} (ho : fineO o) (hp : fineO p) {user service alg : ByteArray} (h1 : user.size ≤ 1000000) (h2 : service.size ≤ 1000000) (h3 : alg.size ≤ 1000000) (w : World) :
    Calls Tryz.prog 25 #[.string (bs (txt o)), .string user, .string service, .string alg, .string (bs (txt p))] w (Says (txt (reqO o user service alg p)) w) := by
  have HL := hide (show [o] ++ (rqS user service alg).map tData ++ [p] = reqL o user service alg p from rfl)
  have HT := hide (show reqO o user service alg p = tList ([o] ++ (rqS user service alg).map tData ++ [p]) from rfl)
  have HF := hide (reqL_fine ho hp h1 h2 h3)
  obtain ⟨W0, hW0⟩ : ∃ W0, W0 = (w.alloc (.cells #[.string (bs (txt o))] 9)).alloc (.cells #[.string ⟨#[50]⟩, .string user, .string service, .string ⟨#[112, 117, 98, 108, 105, 99, 107, 101, 121]⟩, .string ⟨#[1]⟩, .string alg] 9) := ⟨_, rfl⟩
  have hR0 : RowB w W0 [o] (.slice (some ⟨w.heap.size, 0, none⟩) 1 1) (w.heap.size + 1) 9 #[.string ⟨#[50]⟩, .string user, .string service, .string ⟨#[112, 117, 98, 108, 105, 99, 107, 101, 121]⟩, .string ⟨#[1]⟩, .string alg] := by
    subst hW0
    refine ⟨by (repeat (first | exact Below.refl _ _ | refine below_drewN ?_ _ | refine Below.drew ?_ | refine Below.alloc ?_ (by first | omega | (simp; done) | (simp; omega)) _ | refine Below.setCell ?_ (by first | omega | (simp; done) | (simp; omega)) _ | refine bel_alloc ?_ _ | refine bel_trans ?_ (by assumption) | refine Below.trans ?_ (Below.mono (by assumption) (by first | omega | (simp; done) | (simp; omega))))), ?_, ?_, ?_⟩
    · exact blk_own ((Blk.new w 9 #[.string (bs (txt o))]).alloc _) (Nat.le_refl _) rfl (by unfold maxLen; omega) rfl
    · simpa using Blk.new (w.alloc (.cells #[.string (bs (txt o))] 9)) 9 #[.string ⟨#[50]⟩, .string user, .string service, .string ⟨#[112, 117, 98, 108, 105, 99, 107, 101, 121]⟩, .string ⟨#[1]⟩, .string alg]
    · intro e
      have := Option.some.inj e
      simp at this
  have HR0 := hide hR0
  have Hrq := hide (show (rqS user service alg).length = 6 from rfl)
  have Hz := hide (And.intro h1 (And.intro h2 h3))
  clear ho hp h1 h2 h3 hR0
  go_enter Tryz.func25, Tryz.ntmps25
  go_wp2_with fail
  rw [← hW0]
  clear hW0
  go_loopw [11, 13] (fun v vi wr => ∃ (i : Nat) (A : Option Addr) (c : Nat), vi = .int .i64 i ∧ i ≤ 6 ∧ v = .slice A (1 + i) c ∧ RowB w wr ([o] ++ ((rqS user service alg).map tData).take i) (.slice A (1 + i) c) (w.heap.size + 1) 9 #[.string ⟨#[50]⟩, .string user, .string service, .string ⟨#[112, 117, 98, 108, 105, 99, 107, 101, 121]⟩, .string ⟨#[1]⟩, .string alg]) (fun _ vi _ => 6 - (intOf vi).toNat)
  case atStart => exact ⟨0, _, 1, rfl, by omega, rfl, HR0.out⟩
  case round =>
    obtain ⟨i, A, c, rfl, hi, rfl, hR⟩ := hrel
    have Hil := hide (show ([o] ++ ((rqS user service alg).map tData).take i).length = 1 + i by rw [List.length_append, List.length_take, List.length_map, Hrq.out]; simp; omega)
    by_cases h6 : i < 6
    · have hii : (i : Int) < 6 := by omega
      have hk := hR.blk
      have hcell : wr.cell? ⟨w.heap.size + 1, i, none⟩ = some (.string ((rqS user service alg)[i]'(by rw [Hrq.out]; omega))) := by
        obtain rfl | rfl | rfl | rfl | rfl | rfl : i = 0 ∨ i = 1 ∨ i = 2 ∨ i = 3 ∨ i = 4 ∨ i = 5 := by omega
        · exact hk.cell 0
        · exact hk.cell 1
        · exact hk.cell 2
        · exact hk.cell 3
        · exact hk.cell 4
        · exact hk.cell 5
      have hsz : ((rqS user service alg)[i]'(by rw [Hrq.out]; omega)).size ≤ 1000000 := by
        obtain ⟨h1, h2, h3⟩ := Hz.out
        obtain rfl | rfl | rfl | rfl | rfl | rfl : i = 0 ∨ i = 1 ∨ i = 2 ∨ i = 3 ∨ i = 4 ∨ i = 5 := by omega
        · show (⟨#[50]⟩ : ByteArray).size ≤ 1000000
          decide
        · exact h1
        · exact h2
        · show (⟨#[112, 117, 98, 108, 105, 99, 107, 101, 121]⟩ : ByteArray).size ≤ 1000000
          decide
        · show (⟨#[1]⟩ : ByteArray).size ≤ 1000000
          decide
        · exact h3
      have Hsn := hide (takeS_map_snoc tData (l := rqS user service alg) (i := i) (by rw [Hrq.out]; omega))
      generalize (rqS user service alg)[i]'(by rw [Hrq.out]; omega) = s at hcell hsz Hsn
      have HD := hide (fun W => rData_s s W (by omega))
      clear hk
      go_wp2_with (first
        | (go_at_call 44; refine (HD.out _).mono ?_; rintro e w1 ⟨rfl, hb1⟩; replace hR := hR.below hb1)
        | (at_builtin; refine wp_rowB (tData s) (1 + i) (1 + (i + 1)) Hil.out (by omega) rfl (.tmp 26) (.tmp 32) rfl hR rfl rfl (by omega) ?_; intro A6 c6 w6 hR6 _; rw [List.append_assoc, ← Hsn.out] at hR6))
      exact ⟨⟨i + 1, A6, c6, by go_num, by omega, rfl, hR6⟩, by simp [intOf]; omega⟩
    · obtain rfl : i = 6 := by omega
      rw [List.take_of_length_le (by rw [List.length_map, Hrq.out]; omega)] at Hil hR
      generalize (rqS user service alg).map tData = os at HL HT Hil hR
      go_wp2_with (first
        | (at_builtin; refine wp_rowB p 7 8 Hil.out rfl rfl (.tmp 34) (.tmp 36) rfl hR rfl rfl (by omega) ?_; intro A6 c6 w6 hR6 hL6)
        | (go_at_call 45; refine (rList_any hR6.txs (by rw [HL.out]; exact HF.out) (by rw [hL6]; omega)).mono ?_; rintro e w10 ⟨rfl, hb10⟩))
      go_ret
      exact ⟨by rw [HT.out]; simp, hR6.bel.trans (hb10.mono hR6.bel.size)⟩
theorem rUser_any {o : Option Tm} (ho : fineO o) {user service alg : ByteArray} (h1 : user.size ≤ 1000000) (h2 : service.size ≤ 1000000) (h3 : alg.size ≤ 1000000) (who : Int) (w : World) :
    Calls Tryz.prog 23 #[.string (bs (txt o)), .string user, .string service, .string alg, .int .i64 who] w (Says (txt (userO o user service alg who)) w) := by
  have HK := hide (rKey_any who w)
  have HP := hide (fun W => rPub22_any who W)
  have HR := hide (fun W => rRequest_any ho (tPub_fine (tKey_fine who)) h1 h2 h3 W)
  have HS := hide (fun W => rSign_any alg.data.toList (tKey_fine who) (tList_fine (reqL_fine ho (tPub_fine (tKey_fine who)) h1 h2 h3)) W (by rw [size_len]; omega))
  rw [bs_of] at HS
  clear ho h1 h2 h3
  go_enter Tryz.func23, Tryz.ntmps23
  go_wp2_with fail
  refine HK.out.mono ?_
  rintro e w1 ⟨rfl, hb1⟩
  go_wp2_with fail
  refine (HP.out _).mono ?_
  rintro e w2 ⟨rfl, hb2⟩
  have hb12 := hb1.trans (hb2.mono hb1.size)
  go_wp2_with fail
  refine (HR.out _).mono ?_
  rintro e w3 ⟨rfl, hb3⟩
  have hb13 := hb12.trans (hb3.mono hb12.size)
  go_wp2_with fail
  refine (HS.out _).mono ?_
  rintro e w4 ⟨rfl, hb4⟩
  have hb14 := hb13.trans (hb4.mono hb13.size)
  go_wp2_with fail
  go_ret
  exact ⟨rfl, hb14⟩
theorem userO_fine {o : Option Tm} (ho : fineO o) {user service alg : ByteArray} (h1 : user.size ≤ 1000000) (h2 : service.size ≤ 1000000) (h3 : alg.size ≤ 1000000) (who : Int) : fineO (userO o user service alg who) :=
  tSign_fine (tKey_fine who) (tList_fine (reqL_fine ho (tPub_fine (tKey_fine who)) h1 h2 h3))
/-- What ref22's CheckHost answers, in one ending. -/
theorem rCheckHost_e (alg : ByteArray) (ha : alg.size ≤ 1000000) (who : Int) {okey osig oh : Option Tm} (hk : fineO okey) (hs : fineO osig) (hh : fineO oh) (w : World) :
    Calls Tryz.prog 22 #[.string alg, .int .i64 who, .string (bs (txt okey)), .string (bs (txt osig)), .string (bs (txt oh))] w
      (fun e w' => e = .returned (.string (chkS (okey = none ∨ okey ≠ tPub (tKey who)) (osig = none ∨ osig ≠ tSign alg (tKey who) oh))) ∧ Below w.heap.size w w') := by
  refine (rCheckHost_any alg ha who hk hs hh w).mono ?_
  rintro e w' ⟨⟨h1, rfl⟩ | ⟨⟨h0, h1, h2⟩, rfl⟩ | ⟨⟨h0, h1, h2, h3⟩, rfl⟩, hb⟩
  · rw [chk_a h1]
    exact ⟨rfl, hb⟩
  · rw [chk_b (fun h9 => by rcases h9 with h9 | h9; exact h0 h9; exact h9 h1) h2]
    exact ⟨rfl, hb⟩
  · rw [chk_c (fun h9 => by rcases h9 with h9 | h9; exact h0 h9; exact h9 h1) (fun h9 => by rcases h9 with h9 | h9; exact h2 h9; exact h9 h3)]
    exact ⟨rfl, hb⟩
set_option maxHeartbeats 2000000 in
theorem rCheckUser_e {os okey osig : Option Tm} (ho : fineO os) (hk : fineO okey) (hs : fineO osig) {user service alg : ByteArray} (h1 : user.size ≤ 1000000) (h2 : service.size ≤ 1000000) (h3 : alg.size ≤ 1000000) (w : World) :
    Calls Tryz.prog 27 #[.string (bs (txt os)), .string user, .string service, .string alg, .string (bs (txt okey)), .string (bs (txt osig))] w
      (fun e w' => e = .returned (.string (chkS (isPb okey = false) (osig = none ∨ osig ≠ userO os user service alg (whoO okey)))) ∧ Below w.heap.size w w') := by
  have HO := hide (show Calls Tryz.prog 47 #[.string (bs (txt okey))] w (fun e w' => e = .returned (.tuple #[.int .i64 (whoO okey), .bool (isPb okey)]) ∧ Below w.heap.size w w') from rOwner_any hk w)
  generalize ((whoO okey : Nat) : Int) = who at HO ⊢
  have fs := userO_fine ho h1 h2 h3 who
  have HU := hide (fun W => rUser_any ho h1 h2 h3 who W)
  have I2 := hide (bs_iff hs fs)
  have N2 := hide (bs_nil_iff (o := osig))
  clear fs ho hk hs h1 h2 h3
  obtain ⟨G, hG⟩ : ∃ G, G = bs (txt osig) := ⟨_, rfl⟩
  rw [← hG] at I2 N2 ⊢
  generalize bs (txt okey) = K at HO ⊢
  generalize bs (txt os) = Q at HU ⊢
  clear hG
  generalize userO os user service alg who = want at HU I2 ⊢
  cases hb : isPb okey with
  | false =>
    rw [hb] at HO
    rw [chk_a rfl]
    clear hb
    go_enter Tryz.func27, Tryz.ntmps27
    go_wp2_with fail
    refine HO.out.mono ?_
    rintro e w1 ⟨rfl, hb1⟩
    go_wp2_with fail
    go_ret
    exact ⟨rfl, hb1⟩
  | true =>
    rw [hb] at HO
    clear hb
    have h0 : ¬ (true = false) := by decide
    obtain ⟨s2, hs2⟩ : ∃ s2, s2 = chkS (true = false) (osig = none ∨ osig ≠ want) := ⟨_, rfl⟩
    rw [← hs2]
    have J1 := hide (fun h => hs2.trans (chk_b h0 h))
    have J2 := hide (fun h => hs2.trans (chk_c h0 h))
    clear h0 hs2
    cases b3 : (G.toList == []) with
    | true =>
      rw [J1.out (.inl (N2.out.1 b3))]
      go_enter Tryz.func27, Tryz.ntmps27
      go_wp2_with fail
      refine HO.out.mono ?_
      rintro e w1 ⟨rfl, hb1⟩
      go_wp2_with fail
      go_ret
      exact ⟨rfl, hb1⟩
    | false =>
      have H3 := hide (show osig ≠ none from fun h => by
        have := N2.out.2 h
        rw [b3] at this
        cases this)
      go_enter Tryz.func27, Tryz.ntmps27
      go_wp2_with fail
      refine HO.out.mono ?_
      rintro e w1 ⟨rfl, hb1⟩
      go_wp2_with fail
      refine (HU.out _).mono ?_
      rintro e w2 ⟨rfl, hb2⟩
      have hb12 := hb1.trans (hb2.mono hb1.size)
      cases b4 : (G.toList == (bs (txt want)).toList) with
      | false =>
        have HE := hide (J1.out (.inr (fun h => by
          have := I2.out.2 h
          rw [b4] at this
          cases this)))
        go_wp2_with fail
        go_ret
        rw [HE.out]
        exact ⟨rfl, hb12⟩
      | true =>
        have HE := hide (J2.out (fun h9 => by
          rcases h9 with h9 | h9
          · exact H3.out h9
          · exact h9 (I2.out.1 b4)))
        go_wp2_with fail
        go_ret
        rw [HE.out]
        exact ⟨rfl, hb12⟩
end
end Go.Proofs.YtephdodkijanmaaGreatDoor
