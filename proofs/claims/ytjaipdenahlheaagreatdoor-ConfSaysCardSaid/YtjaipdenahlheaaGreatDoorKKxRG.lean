/-
  Several of my texts in one: Kx3, KxR, Kx8, Kx5.
-/
import Derived.Test.YtjaipdenahlheaaGreatDoorKKxPG
import Derived.Test.YtjaipdenahlheaaGreatDoorKChnG
import Derived.Test.YtjaipdenahlheaaGreatDoorKReadW
import Derived.Test.YtjaipdenahlheaaGreatDoorKMsgYG
import Derived.Test.YtjaipdenahlheaaGreatDoorKPrfG
import Derived.Test.YtjaipdenahlheaaGreatDoorKOrdE
set_option linter.unusedVariables false
set_option linter.unusedSimpArgs false
/-
  The contract of kexinit's marks: the marks that are said, in order. Conditions: none.
-/
namespace Go.Proofs.YtjaipdenahlheaaGreatDoor
open Go.RowKit Go.ChangeShapes Go.WideShapes Go.Sort
/-- The marks ahead of place i. -/
def preM (a b c d : Bool) : Nat → List (List UInt8)
  | 0 => []
  | 1 => oneM a mark0
  | 2 => oneM a mark0 ++ oneM b mark1
  | 3 => (oneM a mark0 ++ oneM b mark1) ++ oneM c mark2
  | _ => ((oneM a mark0 ++ oneM b mark1) ++ oneM c mark2) ++ oneM d mark3
theorem preM_4 (a b c d : Bool) : preM a b c d 4 = marksOf a b c d := by simp [preM, marksOf, List.append_assoc]
theorem preM_len (a b c d : Bool) (i : Nat) : (preM a b c d i).length ≤ 4 := by
  match i with
  | 0 => simp [preM]
  | 1 => cases a <;> simp [preM, oneM]
  | 2 => cases a <;> cases b <;> simp [preM, oneM]
  | 3 => cases a <;> cases b <;> cases c <;> simp [preM, oneM]
  | n + 4 => cases a <;> cases b <;> cases c <;> cases d <;> simp [preM, oneM]
/-- The state of marks' loop. -/
structure MarkI (w : World) (bb : Nat) (a b c d : Bool) (i : Nat) (A : Option Addr) (n cp : Nat) (wr : World) : Prop where
  bel : Below w.heap.size w wr
  fl : Blk wr bb 4 #[.bool a, .bool b, .bool c, .bool d]
  len : n = (preM a b c d i).length
  own : wr.ownsRow (bb + 1) 9 1 (.slice A n cp) n (((preM a b c d i).map bs).map Value.string)
section
variable {w : World}
set_option maxHeartbeats 8000000 in
set_option maxRecDepth 100000 in
theorem marks_any (ck : ByteArray) (a b c d e0 : Bool) {A0 A1 A2 A3 A4 A5 A6 A7 A8 A9 : Option Addr} {n0 n1 n2 n3 n4 n5 n6 n7 n8 n9 c0 c1 c2 c3 c4 c5 c6 c7 c8 c9 : Nat} (w : World) :
    Calls Tryz.prog 42 #[.agg #[.string ck, .slice A0 n0 c0, .slice A1 n1 c1, .slice A2 n2 c2, .slice A3 n3 c3, .slice A4 n4 c4, .slice A5 n5 c5, .slice A6 n6 c6, .slice A7 n7 c7, .slice A8 n8 c8, .slice A9 n9 c9, .bool a, .bool b, .bool c, .bool d, .bool e0]] w
      (fun e w' => ∃ v, e = .returned v ∧ NewC w.heap.size w' v (marksOf a b c d) ∧ Below w.heap.size w w') := by
  obtain ⟨iI, hiI, hI0, hI1, hI2⟩ := info_partsN infoStN
  have H4 := hide (fun W => four_any W)
  obtain ⟨W0, hW0⟩ : ∃ W0, W0 = (w.alloc (.cells #[.string ck, .slice A0 n0 c0, .slice A1 n1 c1, .slice A2 n2 c2, .slice A3 n3 c3, .slice A4 n4 c4, .slice A5 n5 c5, .slice A6 n6 c6, .slice A7 n7 c7, .slice A8 n8 c8, .slice A9 n9 c9, .bool a, .bool b, .bool c, .bool d, .bool e0] 45)).alloc (.cells #[.bool a, .bool b, .bool c, .bool d] 4) := ⟨_, rfl⟩
  have hb0 : Below w.heap.size w W0 := by rw [hW0]; (repeat (first | exact Below.refl _ _ | refine below_drewN ?_ _ | refine Below.drew ?_ | refine Below.alloc ?_ (by first | omega | (simp; done) | (simp; omega)) _ | refine Below.setCell ?_ (by first | omega | (simp; done) | (simp; omega)) _ | refine bel_alloc ?_ _ | refine bel_trans ?_ (by assumption) | refine Below.trans ?_ (Below.mono (by assumption) (by first | omega | (simp; done) | (simp; omega)))))
  obtain ⟨bb, hbb⟩ : ∃ bb, bb = w.heap.size + 1 := ⟨_, rfl⟩
  have hB0 : Blk W0 bb 4 #[.bool a, .bool b, .bool c, .bool d] := by rw [hW0, hbb]; exact blk_new2 w _ _ _
  have hlo : w.heap.size ≤ bb := by omega
  have HI0 := hide (show MarkI w bb a b c d 0 none 0 0 W0 from ⟨hb0, hB0, rfl, World.ownsRow_nil _ _ _ _⟩)
  clear hb0 hB0
  go_enter Tryz.func42, Tryz.ntmps42
  go_upto_region 3 with fail
  rw [← hW0, ← hbb]
  clear hW0 hbb
  go_loopw [3, 16] (fun vo vi wr => ∃ (i : Nat) (A : Option Addr) (n cp : Nat), vo = .slice A n cp ∧ vi = .int .i64 i ∧ i ≤ 4 ∧ Hid (MarkI w bb a b c d i A n cp wr)) (fun _ vi _ => 4 - (intOf vi).toNat)
  case atStart => exact ⟨0, none, 0, 0, rfl, rfl, Nat.zero_le _, HI0⟩
  case round =>
    obtain ⟨i, A, n, cp, rfl, rfl, hi, HI⟩ := hrel
    have hbr := HI.out.bel
    have hfl := HI.out.fl
    have hln := HI.out.len
    have hown := HI.out.own
    have hle := preM_len a b c d i
    have hn4 : n ≤ 4 := by omega
    have k0 := hfl.cell 0
    have k1 := hfl.cell 1
    have k2 := hfl.cell 2
    have k3 := hfl.cell 3
    simp at k0 k1 k2 k3
    have hblt := hfl.lt
    match i, hi with
    | 0, _ =>
      cases a with
      | false =>
        have HN := hide (show MarkI w bb false b c d (0 + 1) A n cp wr from ⟨hbr, hfl, by rw [hln]; simp [preM, oneM], by simpa [preM, oneM] using hown⟩)
        clear HI hbr hfl hln hown
        go_wp2_with fail
        exact ⟨⟨0 + 1, A, n, cp, rfl, by first | rfl | go_num, by omega, HN⟩, by simp [intOf]⟩
      | true =>
        have Hown := hide hown
        have Hln := hide hln
        have Hfl := hide hfl
        have Hbr := hide hbr
        clear HI hbr hfl hln hown
        go_wp2_with fail
        refine (H4.out _).mono ?_
        rintro e w1 ⟨rfl, hbk, hb1⟩
        have z := hbk.cell 0
        simp [marksL] at z
        have hown1 := own_belowN Hown.out hb1
        have hz1 := hb1.size
        have hb01 := Hbr.out.trans (hb1.mono Hbr.out.size)
        have hfl1 := Hfl.out.below hb1 Hfl.out.lt
        clear hbk hb1
        go_wp2_with (first
          | (at_builtin; refine wpList_append_any _ rfl (.tmp 22) (.tmp 27) _ rfl (bb + 1) 9 iI (.string ⟨#[]⟩) 1 16 Tryz.underlying22 hiI hI0 hI1 hI2 rfl (by decide) (.slice A n cp) n _ rfl (hown1.alloc _) _ (some ⟨_, 0, none⟩) 1 1 [.string (bs mark0)] rfl (reads_blkN (Blk.new _ _ _) rfl) (by simp [Value.oneCell']) (by unfold maxLen; omega) (by omega) (by simp only [World.size_alloc]; omega) ?_; intro v6 w6 hown6 hgr6 hor6; obtain ⟨A6, c6, rfl⟩ := own_slN hown6)
          | fail)
        have hb6 : Below w.heap.size w w6 := (hb01.alloc hb01.size (.cells #[.string (bs mark0)] 9)).grown hgr6 (by simp only [World.size_alloc]; omega) (fun k e => by have := (hown1.lt k e).1; omega)
        have hfl6 := (hfl1.alloc (.cells #[.string (bs mark0)] 9)).grown hgr6 (fun e => by have := (hown1.lt _ e.symm).1; omega)
        exact ⟨⟨0 + 1, A6, n + 1, c6, by first | rfl | (simp; done), by first | rfl | go_num, by omega, hide ⟨hb6, hfl6, by rw [Hln.out]; first | (simp [preM, oneM]; done) | (simp [preM, oneM]; omega), by simpa [preM, oneM] using hown6⟩⟩, by simp [intOf]⟩
    | 1, _ =>
      cases b with
      | false =>
        have HN := hide (show MarkI w bb a false c d (1 + 1) A n cp wr from ⟨hbr, hfl, by rw [hln]; simp [preM, oneM], by simpa [preM, oneM] using hown⟩)
        clear HI hbr hfl hln hown
        go_wp2_with fail
        exact ⟨⟨1 + 1, A, n, cp, rfl, by first | rfl | go_num, by omega, HN⟩, by simp [intOf]⟩
      | true =>
        have Hown := hide hown
        have Hln := hide hln
        have Hfl := hide hfl
        have Hbr := hide hbr
        clear HI hbr hfl hln hown
        go_wp2_with fail
        refine (H4.out _).mono ?_
        rintro e w1 ⟨rfl, hbk, hb1⟩
        have z := hbk.cell 1
        simp [marksL] at z
        have hown1 := own_belowN Hown.out hb1
        have hz1 := hb1.size
        have hb01 := Hbr.out.trans (hb1.mono Hbr.out.size)
        have hfl1 := Hfl.out.below hb1 Hfl.out.lt
        clear hbk hb1
        go_wp2_with (first
          | (at_builtin; refine wpList_append_any _ rfl (.tmp 22) (.tmp 27) _ rfl (bb + 1) 9 iI (.string ⟨#[]⟩) 1 16 Tryz.underlying22 hiI hI0 hI1 hI2 rfl (by decide) (.slice A n cp) n _ rfl (hown1.alloc _) _ (some ⟨_, 0, none⟩) 1 1 [.string (bs mark1)] rfl (reads_blkN (Blk.new _ _ _) rfl) (by simp [Value.oneCell']) (by unfold maxLen; omega) (by omega) (by simp only [World.size_alloc]; omega) ?_; intro v6 w6 hown6 hgr6 hor6; obtain ⟨A6, c6, rfl⟩ := own_slN hown6)
          | fail)
        have hb6 : Below w.heap.size w w6 := (hb01.alloc hb01.size (.cells #[.string (bs mark1)] 9)).grown hgr6 (by simp only [World.size_alloc]; omega) (fun k e => by have := (hown1.lt k e).1; omega)
        have hfl6 := (hfl1.alloc (.cells #[.string (bs mark1)] 9)).grown hgr6 (fun e => by have := (hown1.lt _ e.symm).1; omega)
        exact ⟨⟨1 + 1, A6, n + 1, c6, by first | rfl | (simp; done), by first | rfl | go_num, by omega, hide ⟨hb6, hfl6, by rw [Hln.out]; first | (simp [preM, oneM]; done) | (simp [preM, oneM]; omega), by simpa [preM, oneM] using hown6⟩⟩, by simp [intOf]⟩
    | 2, _ =>
      cases c with
      | false =>
        have HN := hide (show MarkI w bb a b false d (2 + 1) A n cp wr from ⟨hbr, hfl, by rw [hln]; simp [preM, oneM], by simpa [preM, oneM] using hown⟩)
        clear HI hbr hfl hln hown
        go_wp2_with fail
        exact ⟨⟨2 + 1, A, n, cp, rfl, by first | rfl | go_num, by omega, HN⟩, by simp [intOf]⟩
      | true =>
        have Hown := hide hown
        have Hln := hide hln
        have Hfl := hide hfl
        have Hbr := hide hbr
        clear HI hbr hfl hln hown
        go_wp2_with fail
        refine (H4.out _).mono ?_
        rintro e w1 ⟨rfl, hbk, hb1⟩
        have z := hbk.cell 2
        simp [marksL] at z
        have hown1 := own_belowN Hown.out hb1
        have hz1 := hb1.size
        have hb01 := Hbr.out.trans (hb1.mono Hbr.out.size)
        have hfl1 := Hfl.out.below hb1 Hfl.out.lt
        clear hbk hb1
        go_wp2_with (first
          | (at_builtin; refine wpList_append_any _ rfl (.tmp 22) (.tmp 27) _ rfl (bb + 1) 9 iI (.string ⟨#[]⟩) 1 16 Tryz.underlying22 hiI hI0 hI1 hI2 rfl (by decide) (.slice A n cp) n _ rfl (hown1.alloc _) _ (some ⟨_, 0, none⟩) 1 1 [.string (bs mark2)] rfl (reads_blkN (Blk.new _ _ _) rfl) (by simp [Value.oneCell']) (by unfold maxLen; omega) (by omega) (by simp only [World.size_alloc]; omega) ?_; intro v6 w6 hown6 hgr6 hor6; obtain ⟨A6, c6, rfl⟩ := own_slN hown6)
          | fail)
        have hb6 : Below w.heap.size w w6 := (hb01.alloc hb01.size (.cells #[.string (bs mark2)] 9)).grown hgr6 (by simp only [World.size_alloc]; omega) (fun k e => by have := (hown1.lt k e).1; omega)
        have hfl6 := (hfl1.alloc (.cells #[.string (bs mark2)] 9)).grown hgr6 (fun e => by have := (hown1.lt _ e.symm).1; omega)
        exact ⟨⟨2 + 1, A6, n + 1, c6, by first | rfl | (simp; done), by first | rfl | go_num, by omega, hide ⟨hb6, hfl6, by rw [Hln.out]; first | (simp [preM, oneM]; done) | (simp [preM, oneM]; omega), by simpa [preM, oneM] using hown6⟩⟩, by simp [intOf]⟩
    | 3, _ =>
      cases d with
      | false =>
        have HN := hide (show MarkI w bb a b c false (3 + 1) A n cp wr from ⟨hbr, hfl, by rw [hln]; simp [preM, oneM], by simpa [preM, oneM] using hown⟩)
        clear HI hbr hfl hln hown
        go_wp2_with fail
        exact ⟨⟨3 + 1, A, n, cp, rfl, by first | rfl | go_num, by omega, HN⟩, by simp [intOf]⟩
      | true =>
        have Hown := hide hown
        have Hln := hide hln
        have Hfl := hide hfl
        have Hbr := hide hbr
        clear HI hbr hfl hln hown
        go_wp2_with fail
        refine (H4.out _).mono ?_
        rintro e w1 ⟨rfl, hbk, hb1⟩
        have z := hbk.cell 3
        simp [marksL] at z
        have hown1 := own_belowN Hown.out hb1
        have hz1 := hb1.size
        have hb01 := Hbr.out.trans (hb1.mono Hbr.out.size)
        have hfl1 := Hfl.out.below hb1 Hfl.out.lt
        clear hbk hb1
        go_wp2_with (first
          | (at_builtin; refine wpList_append_any _ rfl (.tmp 22) (.tmp 27) _ rfl (bb + 1) 9 iI (.string ⟨#[]⟩) 1 16 Tryz.underlying22 hiI hI0 hI1 hI2 rfl (by decide) (.slice A n cp) n _ rfl (hown1.alloc _) _ (some ⟨_, 0, none⟩) 1 1 [.string (bs mark3)] rfl (reads_blkN (Blk.new _ _ _) rfl) (by simp [Value.oneCell']) (by unfold maxLen; omega) (by omega) (by simp only [World.size_alloc]; omega) ?_; intro v6 w6 hown6 hgr6 hor6; obtain ⟨A6, c6, rfl⟩ := own_slN hown6)
          | fail)
        have hb6 : Below w.heap.size w w6 := (hb01.alloc hb01.size (.cells #[.string (bs mark3)] 9)).grown hgr6 (by simp only [World.size_alloc]; omega) (fun k e => by have := (hown1.lt k e).1; omega)
        have hfl6 := (hfl1.alloc (.cells #[.string (bs mark3)] 9)).grown hgr6 (fun e => by have := (hown1.lt _ e.symm).1; omega)
        exact ⟨⟨3 + 1, A6, n + 1, c6, by first | rfl | (simp; done), by first | rfl | go_num, by omega, hide ⟨hb6, hfl6, by rw [Hln.out]; first | (simp [preM, oneM]; done) | (simp [preM, oneM]; omega), by simpa [preM, oneM] using hown6⟩⟩, by simp [intOf]⟩
    | 4, _ =>
      have HN := hide (newC_own hown hln)
      rw [preM_4] at HN
      clear HI hfl hln hown
      go_wp2_with fail
      go_ret
      exact ⟨_, rfl, HN.out.mono (by omega), hbr⟩
    | n + 5, h => omega
end
end Go.Proofs.YtjaipdenahlheaaGreatDoor

/-
  The plain law of kexinit's Build and Parse, and of the reference's rebuilding. Conditions: texts that fit.
-/
namespace Go.Proofs.YtjaipdenahlheaaGreatDoor
/-- What a peer says, as lists of bytes. -/
structure KexI where
  ck : List UInt8
  kex : List (List UInt8)
  more : List (List (List UInt8))
  a : Bool
  b : Bool
  c : Bool
  d : Bool
  fo : Bool
def foN (b : Bool) : Int := if b = true then 1 else 0
/-- The message of what is said: more are the other seven lists and the two of languages. -/
def kexMsg (x : KexI) : List Fld := kexFs x.ck ((x.kex ++ marksOf x.a x.b x.c x.d) :: x.more) (foN x.fo) 0
/-- What the values of a message say, by the code's split. -/
def kexOf (ck : List UInt8) (l1 : List (List UInt8)) (more : List (List (List UInt8))) (f : Int) : KexI := ⟨ck, (splitM l1).rest, more, (splitM l1).a, (splitM l1).b, (splitM l1).c, (splitM l1).d, decide (f = 1)⟩
/-- What was built is parsed back. -/
theorem build_parse {x : KexI} {s : List UInt8} (hm : markedL x.kex = false) (hf : ∀ y ∈ kexMsg x, fitF y) (h : encS 20 (kexMsg x) = .ok s) :
    decS s = .ok 20 (kexFs x.ck ((x.kex ++ marksOf x.a x.b x.c x.d) :: x.more) (foN x.fo) 0) ∧ kexOf x.ck (x.kex ++ marksOf x.a x.b x.c x.d) x.more (foN x.fo) = x := by
  refine ⟨(dec_enc hf h).1, ?_⟩
  unfold kexOf
  rw [splitM_of x.a x.b x.c x.d hm]
  have : decide (foN x.fo = 1) = x.fo := by cases x.fo <;> rfl
  rw [this]
end Go.Proofs.YtjaipdenahlheaaGreatDoor

/-
  What kexinit's Build has in memory while it makes the message. Conditions: none; each is a plain lemma.
-/
namespace Go.Proofs.YtjaipdenahlheaaGreatDoor
open Go.RowKit Go.ChangeShapes Go.WideShapes Go.Sort
/-- Lists in slices that have room for them. -/
def AllC (w : World) (vs : List Value) (ls : List (List (List UInt8))) : Prop := vs.length = ls.length ∧ ∀ (i : Nat) v l, vs[i]? = some v → ls[i]? = some l → Txc w v l ∧ l.length ≤ 1000000
theorem AllC.below {w w' : World} {vs : List Value} {ls : List (List (List UInt8))} (h : AllC w vs ls) (hb : Below w.heap.size w w') : AllC w' vs ls :=
  ⟨h.1, fun i v l h1 h2 => ⟨(h.2 i v l h1 h2).1.below hb, (h.2 i v l h1 h2).2⟩⟩
theorem Inn.setSl {lo : Nat} {v : Value} {w : World} {lv : Value} {ls : List (List UInt8)} (h : Inn lo v w lv ls) {p : Addr} {A : Option Addr} {n c : Nat} (hp : w.cell? p = some (.slice A n c)) (u : Value) : Inn lo v (w.setCell p u) lv ls := by
  obtain ⟨B, d, rfl, hc, hS, hn⟩ := h
  obtain ⟨B', d', e, _, hS'⟩ := NewC.setSl (lo := lo) (ls := ls) ⟨B, d, rfl, hc, hS⟩ hp u
  obtain rfl : B = B' := by injection e
  exact ⟨B, d, rfl, hc, hS', hn⟩
/-- Rows of slices that lie in a block's first cells. -/
def Tn (w : World) (h : Nat) (vs : List Value) : Prop := ∃ cur : Array Value, Blk w h 22 cur ∧ ∀ (i : Nat) v, vs[i]? = some v → cur[i]? = some v
theorem Tn.at_ {w : World} {h : Nat} {vs : List Value} (t : Tn w h vs) {i : Nat} {v : Value} (hi : vs[i]? = some v) : w.cell? ⟨h, i, none⟩ = some v := by
  obtain ⟨cur, hb, hc⟩ := t
  rw [hb.cell i, hc i v hi]
theorem tn_own {w : World} {base n c : Nat} {A : Option Addr} {vs : List Value} (h : w.ownsRow base 22 1 (.slice A n c) n vs) (hn : 0 < n) : ∃ g, A = some ⟨g, 0, none⟩ ∧ Tn w g vs := by
  rcases h.2 with ⟨e1, e2⟩ | ⟨g, cap, cur, e1, _, hh, _, _, _, ht⟩
  · injection e1 with _ e3 _
    omega
  · injection e1 with e2 _ _
    subst e2
    refine ⟨g, rfl, cur, hh, fun i v hv => ?_⟩
    rw [← ht, List.getElem?_take] at hv
    split at hv
    · simpa using hv
    · cases hv
theorem own_blk {w : World} {g n : Nat} {t : TypeId} {vs : List Value} (h : Blk w g t vs.toArray) (hn : vs.length = n) (hm : n ≤ maxLen) : w.ownsRow 0 t 1 (.slice (some ⟨g, 0, none⟩) n n) n vs := by
  subst hn
  exact ⟨by simp, .inr ⟨g, vs.length, vs.toArray, rfl, Nat.zero_le _, h, Nat.le_refl _, hm, by simp, by simp⟩⟩
theorem MkMsg.below {lo mb : Nat} {num : Int} {A : Option Addr} {n c : Nat} {zs : List (Fld × Value)} {w w' : World} (h : MkMsg lo mb num A n c zs w) (hb : Below w.heap.size w w') : MkMsg lo mb num A n c zs w' :=
  ⟨h.len, h.m.below hb h.m.lt, own_belowN h.own hb⟩
/-- Another block than the message's own grows. -/
theorem MkMsg.grown {lo mb : Nat} {num : Int} {A : Option Addr} {n c : Nat} {zs : List (Fld × Value)} {w w' : World} {row : Option Nat} (h : MkMsg lo mb num A n c zs w) (hg : w.grownBy w' row) (h1 : some mb ≠ row) (h2 : (Value.slice A n c).ownBlock = none ∨ (Value.slice A n c).ownBlock ≠ row) : MkMsg lo mb num A n c zs w' :=
  ⟨h.len, h.m.grown hg h1, h.own.kept hg h2⟩
section
variable {w : World} {f0 mb xb g mid : Nat} {bx : Array Value} {us : List Value} {l0 m0 : List (List UInt8)} {more : List (List (List UInt8))} {z0 : Fld × Value}
/-- Ahead of the marks: the eight copies; the first one is a row of its own. -/
structure R6 (w : World) (f0 mb xb g mid : Nat) (bx : Array Value) (v0 : Value) (us : List Value) (l0 : List (List UInt8)) (more : List (List (List UInt8))) (z0 : Fld × Value) (W : World) : Prop where
  bel : Below w.heap.size w W
  box : Blk W xb 45 bx
  row : Blk W g 22 (v0 :: us).toArray
  own : W.ownsRow (g + 1) 9 1 v0 l0.length ((l0.map bs).map Value.string)
  blk : ∀ b, v0.ownBlock = some b → b < mid
  rest : ∀ (i : Nat) v l, us[i]? = some v → more[i]? = some l → NewC mid W v l
  msg : MkMsg f0 mb 20 (some ⟨f0, 0, none⟩) 1 1 [z0] W
  lts : w.heap.size ≤ f0 ∧ f0 < g ∧ mb < g ∧ xb < g ∧ g < mid ∧ f0 ≤ mb
theorem R6.below {v0 : Value} {W W' : World} (h : R6 w f0 mb xb g mid bx v0 us l0 more z0 W) (hb : Below W.heap.size W W') : R6 w f0 mb xb g mid bx v0 us l0 more z0 W' :=
  ⟨h.bel.trans (hb.mono h.bel.size), h.box.below hb h.box.lt, h.row.below hb h.row.lt, own_belowN h.own hb, h.blk, fun i v l h1 h2 => (h.rest i v l h1 h2).belowW hb, h.msg.below hb, h.lts⟩
/-- Behind the marks: eight lists, and none lies in an older block. -/
structure R7 (w : World) (f0 mb xb g : Nat) (bx : Array Value) (vs : List Value) (ls : List (List (List UInt8))) (z0 : Fld × Value) (W : World) : Prop where
  bel : Below w.heap.size w W
  box : Blk W xb 45 bx
  row : Blk W g 22 vs.toArray
  all : ∀ (i : Nat) v l, vs[i]? = some v → ls[i]? = some l → NewC (g + 1) W v l
  msg : MkMsg f0 mb 20 (some ⟨f0, 0, none⟩) 1 1 [z0] W
  lts : w.heap.size ≤ f0 ∧ f0 < g ∧ mb < g ∧ xb < g ∧ f0 ≤ mb
theorem R6.app {v0 v6 : Value} {W w6 : World} (h : R6 w f0 mb xb g mid bx v0 us l0 more z0 W) (hm : g < W.heap.size)
    (ho : w6.ownsRow (g + 1) 9 1 v6 (l0.length + m0.length) ((l0.map bs).map Value.string ++ (m0.map bs).map Value.string)) (hg : W.grownBy w6 v0.ownBlock) : R7 w f0 mb xb g bx (v6 :: us) ((l0 ++ m0) :: more) z0 (w6.setCell ⟨g, 0, none⟩ v6) := by
  obtain ⟨hl1, hl2, hl3, hl4, hl5, hl6⟩ := h.lts
  obtain ⟨A0, c0, rfl⟩ := own_slN h.own
  have hrow : ∀ k, (Value.slice A0 l0.length c0).ownBlock = some k → g + 1 ≤ k := fun k e => (h.own.lt k e).1
  have hne : ∀ q, q ≤ g → some q ≠ (Value.slice A0 l0.length c0).ownBlock := fun q hq e => by have := hrow q e.symm; omega
  have hr6 := h.row.grown hg (hne g (Nat.le_refl _))
  have hcell : w6.cell? ⟨g, 0, none⟩ = some (.slice A0 l0.length c0) := by rw [hr6.cell 0]; simp
  have hbz : w.heap.size ≤ g := by omega
  refine ⟨(h.bel.grown hg h.bel.size (fun k e => by have := hrow k e; omega)).setCell (p := ⟨g, 0, none⟩) hbz v6, (h.box.grown hg (hne xb (by omega))).far (p := ⟨g, 0, none⟩) (by show xb ≠ g; omega) v6, ?_, ?_, ?_, hl1, hl2, hl3, hl4, hl6⟩
  · have := hr6.set_ 0 v6
    simpa using this
  · intro i v l h1 h2
    cases i with
    | zero =>
      simp only [List.getElem?_cons_zero, Option.some.injEq] at h1 h2
      subst h1 h2
      have hN : NewC (g + 1) w6 v6 (l0 ++ m0) := by
        obtain ⟨A6, c6, rfl⟩ := own_slN ho
        have ho2 : w6.ownsRow (g + 1) 9 1 (.slice A6 (l0.length + m0.length) c6) (l0.length + m0.length) (((l0 ++ m0).map bs).map Value.string) := by rw [List.map_append, List.map_append]; exact ho
        exact newC_own ho2 (by rw [List.length_append])
      exact hN.setSl hcell v6
    | succ i =>
      simp only [List.getElem?_cons_succ] at h1 h2
      have hN := h.rest i v l h1 h2
      have hN6 : NewC mid w6 v l := by
        obtain ⟨B, d, rfl, hc, hS⟩ := hN
        refine ⟨B, d, rfl, hc, hS.keep hg.size fun p hp hp2 => World.cell?_of_block (hg.block _ hp2 (fun e => ?_))⟩
        have := h.blk _ e.symm
        omega
      exact (hN6.mono (by omega)).setSl hcell v6
  · have hmk := h.msg.grown hg (hne mb (by omega)) (.inr (fun e => hne f0 (by omega) e))
    exact ⟨hmk.len, hmk.m.far (p := ⟨g, 0, none⟩) (by show mb ≠ g; omega) v6, own_setK hmk.own hr6 (by decide) 0 v6⟩
theorem inn_old {w W : World} {f0 : Nat} {v : Value} {l : List (List UInt8)} (h : Txc w v l) (hb : Below w.heap.size w W) (hf : w.heap.size ≤ f0) (n c : Nat) : Inn 0 (.slice (some ⟨f0, 0, none⟩) n c) W v l := by
  obtain ⟨ht, A, k, e3, hc⟩ := h
  obtain ⟨B, d, e4, hS⟩ := ht
  rw [List.length_map] at e4 hS
  subst e3
  obtain ⟨rfl, rfl⟩ : A = B ∧ k = d := by injection e4 with e5 _ e6; exact ⟨e5, e6⟩
  refine ⟨A, k, rfl, hc, (hS.keep hb.size fun p _ hp => hb.cell hp), fun ad he hp e => ?_⟩
  obtain ⟨ad2, e2, _, h5, _⟩ := hS.2 hp
  rw [he] at e2
  cases e2
  have : f0 = ad.block := by simpa [Value.ownBlock] using e
  omega
theorem inn_new {W : World} {f0 lo : Nat} {v : Value} {l : List (List UInt8)} (h : NewC lo W v l) (hf : f0 < lo) (n c : Nat) : Inn 0 (.slice (some ⟨f0, 0, none⟩) n c) W v l := by
  obtain ⟨B, d, rfl, hc, hS⟩ := h
  refine ⟨B, d, rfl, hc, hS.mono (Nat.zero_le _), fun ad he hp e => ?_⟩
  obtain ⟨ad2, e2, h4, _⟩ := hS.2 hp
  rw [he] at e2
  cases e2
  have : f0 = ad.block := by simpa [Value.ownBlock] using e
  omega
theorem inn_nil (v : Value) (W : World) (c : Nat) : Inn 0 v W (.slice none 0 c) [] := ⟨none, c, rfl, Nat.zero_le _, Sl.nil_, fun ad he _ => by cases he⟩
/-- While the values are put. -/
structure MkI (w : World) (f0 mb xb hb : Nat) (bx : Array Value) (vs : List Value) (ls : List (List (List UInt8))) (zs : List (Fld × Value)) (A : Option Addr) (n c : Nat) (W : World) : Prop where
  bel : Below w.heap.size w W
  box : Blk W xb 45 bx
  ten : Tn W hb vs
  msg : MkMsg f0 mb 20 A n c zs W
  inn : ∀ (i : Nat) v l, vs[i]? = some v → ls[i]? = some l → Inn 0 (.slice A n c) W v l
  zin : ∀ z ∈ zs, Inn 0 (.slice A n c) W z.2 z.1.l ∧ z.1.k < 256
  lts : w.heap.size ≤ f0 ∧ f0 ≤ mb
theorem MkI.start {W W6 w8 : World} {vs v2 : List Value} {ls l2 : List (List (List UInt8))} {base n cc hb : Nat} (h : R7 w f0 mb xb g bx vs ls z0 W) (hl : vs.length = ls.length) (h2 : AllC w v2 l2) (hz : z0.2 = .slice none 0 0 ∧ z0.1.l = [] ∧ z0.1.k < 256)
    (hb6 : Below W.heap.size W W6) (ho : w8.ownsRow base 22 1 (.slice (some ⟨hb, 0, none⟩) n cc) n (vs ++ v2)) (hn : 0 < n) (hg : W6.grownBy w8 (some g)) : MkI w f0 mb xb hb bx (vs ++ v2) (ls ++ l2) [z0] (some ⟨f0, 0, none⟩) 1 1 w8 := by
  obtain ⟨hl1, hl2, hl3, hl4, hl6⟩ := h.lts
  have hgl := h.row.lt
  have hW6 : g < W6.heap.size := Nat.lt_of_lt_of_le hgl hb6.size
  have hbe : Below w.heap.size w w8 := (h.bel.trans (hb6.mono h.bel.size)).grown hg (Nat.le_trans h.bel.size hb6.size) (fun k e => by cases e; omega)
  have hr6 := h.row.below hb6 hgl
  have hmk6 := h.msg.below hb6
  refine ⟨hbe, (h.box.below hb6 h.box.lt).grown hg (fun e => by cases e; omega), ?_, ?_, ?_, ?_, hl1, hl6⟩
  · obtain ⟨q, e, t⟩ := tn_own ho hn
    cases e
    exact t
  · exact hmk6.grown hg (fun e => by cases e; omega) (.inr (own_blk_ne hmk6.own hr6 (by decide)))
  · intro i v l h1 h3
    rcases Nat.lt_or_ge i vs.length with hi | hi
    · rw [List.getElem?_append_left hi] at h1
      rw [List.getElem?_append_left (by omega)] at h3
      exact inn_new (((h.all i v l h1 h3).belowW hb6).keep hg (Nat.lt_succ_self g)) (by omega) _ _
    · rw [List.getElem?_append_right hi] at h1
      rw [List.getElem?_append_right (by omega), ← hl] at h3
      exact inn_old (h2.2 _ v l h1 h3).1 hbe hl1 _ _
  · intro z hz2
    obtain rfl : z = z0 := by simpa using hz2
    rw [hz.1, hz.2.1]
    exact ⟨inn_nil _ _ _, hz.2.2⟩
theorem MkI.step {W w' : World} {vs : List Value} {ls : List (List (List UInt8))} {zs zz : List (Fld × Value)} {hb n c m : Nat} {A : Option Addr} {e : Ending} (h : MkI w f0 mb xb hb bx vs ls zs A n c W)
    (hp : PutL f0 mb 20 A n c zs zz m W e w') (hz : ∀ z ∈ zz, Inn 0 (.slice A n c) W z.2 z.1.l ∧ z.1.k < 256) : ∃ A' c', e = .returned (.tuple #[]) ∧ MkI w f0 mb xb hb bx vs ls (zs ++ zz) A' (n + m) c' w' := by
  obtain ⟨A', c', w6, he, rfl, hmk, hg, hor⟩ := hp
  have hown := h.msg.own
  have hrow : ∀ q, (Value.slice A n c).ownBlock = some q → f0 ≤ q := fun q e => (hown.lt q e).1
  obtain ⟨hl, hl6⟩ := h.lts
  have hm6 := h.msg.m.grown hg (fun e => own_blk_ne hown h.msg.m (by decide) e.symm)
  have hcell : w6.cell? ⟨mb, 1, none⟩ = some (.slice A n c) := by rw [hm6.cell 1]; simp
  have hbx6 := h.box.grown hg (fun e => own_blk_ne hown h.box (by decide) e.symm)
  refine ⟨A', c', he, ?_, hbx6.far (p := ⟨mb, 1, none⟩) (Blk.ne_ hbx6 hm6 (by decide)) _, ?_, hmk, ?_, ?_, hl, hl6⟩
  · have hb6 := h.bel.grown hg h.bel.size (fun q e => Nat.le_trans hl (hrow q e))
    exact hb6.setCell (p := ⟨mb, 1, none⟩) (Nat.le_trans hl hl6) _
  · obtain ⟨cur, hB, hc⟩ := h.ten
    have hB6 := hB.grown hg (fun e => own_blk_ne hown hB (by decide) e.symm)
    exact ⟨cur, hB6.far (p := ⟨mb, 1, none⟩) (Blk.ne_ hB6 hm6 (by decide)) _, hc⟩
  · intro i v l h1 h2
    exact ((h.inn i v l h1 h2).step hg (fun q e => .inr e) hor).setSl hcell _
  · intro z hz2
    rcases List.mem_append.1 hz2 with hz2 | hz2
    · exact ⟨((h.zin z hz2).1.step hg (fun q e => .inr e) hor).setSl hcell _, (h.zin z hz2).2⟩
    · exact ⟨((hz z hz2).1.step hg (fun q e => .inr e) hor).setSl hcell _, (hz z hz2).2⟩
theorem MkI.belowI {W W' : World} {vs : List Value} {ls : List (List (List UInt8))} {zs : List (Fld × Value)} {hb n c : Nat} {A : Option Addr} (h : MkI w f0 mb xb hb bx vs ls zs A n c W) (hB : Below W.heap.size W W') : MkI w f0 mb xb hb bx vs ls zs A n c W' := by
  obtain ⟨cur, hT, hc⟩ := h.ten
  have hk : ∀ lv l, Inn 0 (.slice A n c) W lv l → Inn 0 (.slice A n c) W' lv l := fun lv l hi => hi.step (only_of_below hB none) (fun i e => by cases e) (.inl rfl)
  exact ⟨h.bel.trans (hB.mono h.bel.size), h.box.below hB h.box.lt, ⟨cur, hT.below hB hT.lt, hc⟩, h.msg.below hB, fun i v l h1 h2 => hk v l (h.inn i v l h1 h2), fun z hz => ⟨hk _ _ (h.zin z hz).1, (h.zin z hz).2⟩, h.lts⟩
theorem MkI.flds {W : World} {vs : List Value} {ls : List (List (List UInt8))} {zs : List (Fld × Value)} {hb n c : Nat} {A : Option Addr} (h : MkI w f0 mb xb hb bx vs ls zs A n c W) : Flds W A (zs.map (·.1)) :=
  (FOwn.flds (lo := 0) ⟨h.msg.len, h.msg.own.mono (Nat.zero_le _), h.zin⟩).flds
/-- The values that are there behind k lists. -/
def zsK (z0 : Fld × Value) (vs : List Value) (ls : List (List (List UInt8))) (k : Nat) : List (Fld × Value) := z0 :: ((vs.zip ls).take k).map fun p => (⟨110, 0, [], p.2⟩, p.1)
theorem zsK_succ {vs : List Value} {ls : List (List (List UInt8))} {k : Nat} (h1 : k < vs.length) (h2 : k < ls.length) : zsK z0 vs ls (k + 1) = zsK z0 vs ls k ++ [(⟨110, 0, [], ls[k]⟩, vs[k])] := by
  unfold zsK
  rw [List.take_succ_eq_append_getElem (by rw [List.length_zip]; omega), List.getElem_zip, List.map_append]
  rfl
end
end Go.Proofs.YtjaipdenahlheaaGreatDoor

/-
  The contract of the reference's Build of kexinit, from the contract of its Msg. Conditions: texts and lists that fit.
-/
namespace Go.Proofs.YtjaipdenahlheaaGreatDoor
open Go.RowKit Go.ChangeShapes Go.WideShapes Go.Sort
def kexB : List UInt8 := [107, 101, 120, 105, 110, 105, 116]
/-- What is wrong with what is said. -/
def kexErr (kex : List (List UInt8)) (R : EncR) : Option (List (List UInt8) × Nat) := if markedL kex = true then some ([kexB], 3) else (encErr 20 R).map fun p => (kexB :: p.1, p.2)
end Go.Proofs.YtjaipdenahlheaaGreatDoor
