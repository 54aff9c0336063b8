/-
  The contract of frame.Pack. Conditions: texts of up to maxLen bytes.
-/
import Derived.Test.YtejikjpaclnncaaFrame
import Derived.Lib.BufferWrite
import Derived.Lib.SlBuf
import Derived.Deep.OwnRows
namespace Go.Proofs.Ytejikjpaclnncaa
open Go.RowKit

theorem u8_info : (Try.prog.info? 5).map (fun i => (i.zero, i.size, i.bytes)) = some (some (.int .u8 0), 1, 1) := by kernel_rfl
theorem made_bytes (n : Nat) : madeCells #[Value.int .u8 0] n = Array.replicate n (Value.int .u8 0) := by
  apply Array.ext
  · simp [madeCells]
  · intro i h1 h2
    simp [madeCells, Nat.mod_one]
theorem make_bytes (w : World) (n : Nat) (hn : n ≤ 1000000) : ∃ w1, (Instr.makeSlice 30 (.int .i64 (n : Int)) (.int .i64 (n : Int))).run Try.prog w = .ok (.slice (some ⟨w.heap.size, 0, none⟩) n n) w1 ∧ Blk w1 w.heap.size 5 (Array.replicate n (.int .u8 0)) ∧ Below w.heap.size w w1 := by
  refine ⟨_, run_make_row' 30 5 _ 1 Try.underlying30 u8_info rfl .i64 .i64 n (by omega) (by omega) w, ?_, by (repeat (first | exact Below.refl _ _ | refine below_drewN ?_ _ | refine Below.drew ?_ | refine Below.alloc ?_ (by first | omega | (simp; done) | (simp; omega)) _ | refine Below.setCell ?_ (by first | omega | (simp; done) | (simp; omega)) _ | refine bel_alloc ?_ _ | refine bel_trans ?_ (by assumption) | refine Below.trans ?_ (Below.mono (by assumption) (by first | omega | (simp; done) | (simp; omega)))))⟩
  rw [made_bytes]
  exact Blk.new _ _ _
theorem setRow_only (w : World) (g : Nat) (cs : Array Value) : w.grownBy (w.setRow g cs) (some g) :=
  ⟨rfl, rfl, rfl, by simp [World.setRow], fun i hi hn => by
    simp only [World.setRow, Array.getElem?_modify]
    rw [if_neg (by rintro rfl; exact hn rfl)]⟩
theorem copy_str {w : World} {g off n c : Nat} {cs : Array Value} {t : TypeId} {s : ByteArray} (hb : Blk w g t cs) (hle : s.size ≤ n) (hfit : off + s.size ≤ cs.size) :
    ∃ w', (Builtin.copy_ #[30, 9] 3 #[.slice (some ⟨g, off, none⟩) n c, .string s]).run Try.prog w = .ok (goInt s.size) w' ∧
      Blk w' g t (cs.toList.take off ++ Lib.byteCells s.data.toList ++ cs.toList.drop (off + s.size)).toArray ∧ w.grownBy w' (some g) :=
  ⟨_, Lib.run_copy_row_string w 30 9 3 5 g off n c s cs t Try.underlying30 (by kernel_rfl) hb hle hfit, setRow_heap w g _ _ t _ hb, setRow_only _ _ _⟩
theorem conv_blk {w : World} {g c : Nat} {t : TypeId} {cs : Array Value} (hb : Blk w g t cs) (l : List UInt8) (n : Nat) (hn : l.length = n) (hc : ∀ j (hj : j < l.length), cs[j]? = some (.int .u8 (l[j].toNat : Int))) :
    (convert 30 9 (.slice (some ⟨g, 0, none⟩) n c)).run Try.prog w = .ok (.string ⟨l.toArray⟩) w := by
  subst hn
  refine run_convert_bytes_back w 30 9 5 _ c l Try.underlying30 Try.underlying5 Try.underlying9 fun j hj => ?_
  rw [add_zero_, hb.cell]
  exact hc j hj
def packB (l : List UInt8) : List UInt8 := UInt8.ofNat (padN l.length) :: (l ++ List.replicate (padN l.length) 0)
def packF (l : List UInt8) : List UInt8 × Int := if l = [] then ([], 4) else if 32768 < l.length then ([], 2) else (unitB (packB l), 0)
theorem pack_cells (l : List UInt8) (n p : Nat) (_hn : l.length = n) (hp : p < 256) :
    ((Array.replicate (1 + n + p) (Value.int .u8 0)).setIfInBounds 0 (.int .u8 (p : Int))).toList.take 1 ++ Lib.byteCells l ++ ((Array.replicate (1 + n + p) (Value.int .u8 0)).setIfInBounds 0 (.int .u8 (p : Int))).toList.drop (1 + n) =
      Lib.byteCells (UInt8.ofNat p :: (l ++ List.replicate p 0)) := by
  rw [show 1 + n + p = (n + p) + 1 from by omega, show 1 + n = n + 1 from by omega, Array.toList_setIfInBounds, Array.toList_replicate, List.replicate_succ, List.set_cons_zero, List.drop_succ_cons, List.drop_replicate, show n + p - n = p from by omega]
  simp [Lib.byteCells]
  omega
theorem padN_le (n : Nat) : 4 ≤ padN n ∧ padN n ≤ 11 := by unfold padN; split <;> omega
theorem pack_any (s : ByteArray) (w : World) (hs : s.size ≤ 9223372036854775807) : Calls Try.prog 11 #[.string s] w fun e w' => ∃ r, e = .returned (.tuple #[.string r, .int .i64 (packF s.data.toList).2]) ∧ r.data.toList = (packF s.data.toList).1 ∧ Below w.heap.size w w' := by
  have hsz : s.data.toList.length = s.size := rfl
  by_cases h0 : s = ⟨#[]⟩
  · subst h0
    go_enter Try.func11, Try.ntmps11
    go_wp2
    go_ret2
    exact ⟨⟨#[]⟩, rfl, rfl, Below.refl _ _⟩
  have hn0 : s.data.toList ≠ [] := fun h => h0 (bytes_ext (by rw [ByteArray.toList_eq, h, toList_nil]))
  have e0 := bytes_some h0
  have hpos : 0 < s.size := by rw [← hsz]; exact List.length_pos_iff.2 hn0
  by_cases h1 : 32768 < s.size
  · have hf : packF s.data.toList = ([], 2) := by rw [packF, if_neg hn0, if_pos (by rw [hsz]; exact h1)]
    have Hf := hide hf
    clear hf h0
    go_enter Try.func11, Try.ntmps11
    go_wp2
    go_ret2
    exact ⟨⟨#[]⟩, by rw [Hf.out]; rfl, by rw [Hf.out], Below.refl _ _⟩
  · have hf : packF s.data.toList = (unitB (packB s.data.toList), 0) := by rw [packF, if_neg hn0, if_neg (by rw [hsz]; exact h1)]
    have Hf := hide hf
    clear hf h0
    obtain ⟨hp1, hp2⟩ := padN_le s.size
    have Hp := hide (padding_any s.size w (by omega))
    generalize hpn : padN s.size = p at hp1 hp2 Hp
    have Hpn := hide hpn
    clear hpn
    obtain ⟨w1, hmk, hblk, hb1⟩ := make_bytes w (1 + s.size + p) (by omega)
    have hc0 : w1.cell? ⟨w.heap.size, 0, none⟩ = some (.int .u8 0) := by rw [hblk.cell 0, Array.getElem?_replicate, if_pos (by omega)]
    have f0 := hblk.frozen 0
    simp only [Int.natCast_add, Int.natCast_one] at hmk
    have hblk2 := hblk.set_ 0 (.int .u8 (p : Int))
    have ho2 : w1.grownBy (w1.setCell ⟨w.heap.size, 0, none⟩ (.int .u8 (p : Int))) (some w.heap.size) := only_setCell (only_refl _ _) (.inl rfl) _
    obtain ⟨w3, hcp, hblk3, ho3⟩ := copy_str (off := 1) (n := 1 + s.size + p - 1) (c := 1 + s.size + p - 1) (s := s) hblk2 (by omega) (by simp <;> omega)
    have hb3 : Below w.heap.size w w3 := below_only (below_only hb1 ho2 (Nat.le_refl _) hb1.size) ho3 (Nat.le_refl _) (Nat.le_trans hb1.size ho2.size)
    rw [pack_cells s.data.toList s.size p hsz (by omega)] at hblk3
    have hcv := conv_blk (c := 1 + s.size + p) hblk3 (UInt8.ofNat p :: (s.data.toList ++ List.replicate p 0)) (1 + s.size + p) (by simp; omega) (by
      intro j hj
      rw [List.getElem?_toArray, Lib.byteCells, List.getElem?_map, List.getElem?_eq_getElem hj]
      rfl)
    generalize hbytes : UInt8.ofNat p :: (s.data.toList ++ List.replicate p 0) = bytes at hcv
    have hr : (⟨bytes.toArray⟩ : ByteArray).data.toList = packB s.data.toList := by
      rw [packB, hsz, Hpn.out, hbytes]
    generalize (⟨bytes.toArray⟩ : ByteArray) = r at hcv hr
    have hrl : r.size ≤ 40000 := by
      have := size_le_of hr
      have h2 := padN_le s.size
      simp [packB] at this
      omega
    have hu : unitF r.data.toList = (unitB (packB s.data.toList), 0) := by
      rw [hr, unitF, if_neg (by simp [packB]), if_neg (by
        have h2 := padN_le s.size
        simp [packB]
        omega)]
    have Hu := hide hu
    clear hu hbytes hr hblk2 hblk3 hblk
    go_enter Try.func11, Try.ntmps11
    go_wp2_with (first
      | (go_at_call 41; refine Hp.out.mono ?_; rintro e w2 ⟨rfl, rfl⟩)
      | (go_at_call 12; refine (unit_any r _ (by omega)).mono ?_; rw [Hu.out]; rintro e w2 ⟨r2, rfl, hr2, hb4⟩))
    go_ret2
    refine ⟨r2, by rw [Hf.out]; rfl, by rw [Hf.out, hr2], ?_⟩
    (repeat (first | exact Below.refl _ _ | refine below_drewN ?_ _ | refine Below.drew ?_ | refine Below.alloc ?_ (by first | omega | (simp; done) | (simp; omega)) _ | refine Below.setCell ?_ (by first | omega | (simp; done) | (simp; omega)) _ | refine bel_alloc ?_ _ | refine bel_trans ?_ (by assumption) | refine Below.trans ?_ (Below.mono (by assumption) (by first | omega | (simp; done) | (simp; omega)))))
end Go.Proofs.Ytejikjpaclnncaa
