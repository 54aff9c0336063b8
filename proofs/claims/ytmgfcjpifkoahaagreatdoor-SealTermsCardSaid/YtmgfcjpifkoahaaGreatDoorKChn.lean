/-
  Errors within places: fault's At and Of, Path and Code, and law07's Wrong where it agrees. Conditions: up to three places of up to 1,000 bytes; the library's handle is as it was laid.
-/
import Derived.Test.YtmgfcjpifkoahaaGreatDoorKBaseG
import Derived.Test.YtmgfcjpifkoahaaGreatDoorKRefA
import Derived.LaidEql
import Derived.Stop.Asserts
import Derived.RowKitTokens
import Derived.Deep.RegionHeld3
import Derived.Deep.DeepCutAuto
set_option linter.unusedVariables false
set_option linter.unusedSimpArgs false
namespace Go.Proofs.YtmgfcjpifkoahaaGreatDoor
open Go.RowKit
def errV (b : Nat) : Value := .iface 150 (.pointer (some ⟨b, 0, none⟩))
def IsErr (w : World) : Value → List (List UInt8) → Int → Prop
 | v, [], k => v = .iface 46 (.int .i64 k)
 | v, s :: r, k => ∃ b v', v = errV b ∧ Blk w b 152 #[.string (bs s), v'] ∧ IsErr w v' r k
theorem IsErr.below {w w' : World} (hb : Below w.heap.size w w') : ∀ {ps : List (List UInt8)} {v : Value} {k : Int}, IsErr w v ps k → IsErr w' v ps k
 | [], _, _, h => h
 | _ :: _, _, _, h => by
  obtain ⟨b, v', e, hB, h2⟩ := h
  exact ⟨b, v', e, hB.below hb hB.lt, IsErr.below hb h2⟩
theorem IsErr.own {w w' : World} {g : Nat} {t : TypeId} {cs : Array Value} (hg : Blk w g t cs) (hne : t ≠ 152) (hb : w.grownBy w' (some g)) : ∀ {ps : List (List UInt8)} {v : Value} {k : Int}, IsErr w v ps k → IsErr w' v ps k
 | [], _, _, h => h
 | _ :: _, _, _, h => by
  obtain ⟨b, v', e, hB, h2⟩ := h
  exact ⟨b, v', e, hB.grown hb (fun e2 => Blk.ne_ hg hB hne (Option.some.inj e2).symm), IsErr.own hg hne hb h2⟩
section
variable {w : World}
theorem fof_any (s : ByteArray) (k : Int) (hk : (k == 0) = false) (w : World) : Calls Tryz.prog 48 #[.string s, .int .i64 k] w (fun e w' => ∃ b, e = .returned (errV b) ∧ IsErr w' (errV b) [s.data.toList] k ∧ Below w.heap.size w w') := by
 go_enter Tryz.func48, Tryz.ntmps48
 go_wp2
 go_ret
 exact ⟨w.heap.size, rfl, ⟨_, _, rfl, Blk.new _ _ _, rfl⟩, by exact bel_by⟩
theorem fof_nil (s : ByteArray) (w : World) : Calls Tryz.prog 48 #[.string s, .int .i64 0] w (fun e w' => e = .returned .nilIface ∧ w' = w) := by
 go_enter Tryz.func48, Tryz.ntmps48
 go_wp2
 go_ret
 exact ⟨rfl, rfl⟩
theorem fat_any (s : ByteArray) (b : Nat) {ps : List (List UInt8)} {k : Int} (h : IsErr w (errV b) ps k) : Calls Tryz.prog 52 #[.string s, errV b] w (fun e w' => ∃ b', e = .returned (errV b') ∧ IsErr w' (errV b') (s.data.toList :: ps) k ∧ Below w.heap.size w w') := by
 have H := hide (fun w' (hb : Below w.heap.size w w') => h.below hb)
 unfold errV
 clear h
 go_enter Tryz.func52, Tryz.ntmps52
 go_wp2
 go_ret
 exact ⟨w.heap.size, rfl, ⟨_, _, rfl, Blk.new _ _ _, H.out _ (by exact bel_by)⟩, by exact bel_by⟩
theorem own_slN {w : World} {base : Nat} {e : TypeId} {size n : Nat} {v : Value} {xs : List Value} (h : w.ownsRow base e size v n xs) : ∃ A c, v = .slice A n c := by
 rcases h.2 with ⟨rfl, rfl⟩ | ⟨g', cap, cur, rfl, _⟩
 ·exact ⟨none, 0, rfl⟩
 ·exact ⟨_, _, rfl⟩
theorem reads_blkN {W : World} {b : Nat} {t : TypeId} {us : List Value} {size m : Nat} (h : Blk W b t us.toArray) (hl : us.length = m * size) : Reads W W.heap.size size (some ⟨b, 0, none⟩) m us :=
 ⟨hl, fun _ => ⟨_, rfl, h.lt, fun j u hu => by rw [add_zero_, h.cell j]; simpa using hu⟩⟩
theorem info_partsN {o : Option TypeInfo} {z : Option Value} {n b : Nat} (h : o.map (fun i => (i.zero, i.size, i.bytes)) = some (z, n, b)) : ∃ i, o = some i ∧ i.zero = z ∧ i.size = n ∧ i.bytes = b := by
 cases o with
 | none => cases h
 | some i =>
  simp only [Option.map_some, Option.some.injEq, Prod.mk.injEq] at h
  exact ⟨i, rfl, h.1, h.2.1, h.2.2⟩
theorem infoStN : (Tryz.prog.info? 9).map (fun i => (i.zero, i.size, i.bytes)) = some (some (.string ⟨#[]⟩), 1, 16) := by kernel_rfl
def lenV : Value → Nat
 | .slice _ n _ => n
 | _ => 0
structure PathI (w : World) (ps : List (List UInt8)) (k : Int) (tb : Nat) (i : Nat) (A : Option Addr) (c : Nat) (vi : Value) (wr : World) : Prop where
 err : IsErr w vi (ps.drop i) k
 own : wr.ownsRow w.heap.size 9 1 (.slice A i c) i (((ps.take i).map bs).map Value.string)
 blk : ∃ p, Blk wr tb 150 #[.pointer p]
 bel : Below w.heap.size w wr
end
end Go.Proofs.YtmgfcjpifkoahaaGreatDoor
