/-
  Several of my texts in one: CfS, CfT.
-/
import Derived.Test.YtjaipdenahlheaaGreatDoorKCfR
import Derived.Test.YtjaipdenahlheaaGreatDoorKCfPG
import Derived.Test.YtjaipdenahlheaaGreatDoorKInit
set_option linter.unusedVariables false
set_option linter.unusedSimpArgs false
namespace Go.Proofs.YtjaipdenahlheaaGreatDoor
open Go.RowKit Go.ChangeShapes Go.WideShapes Go.Sort
section
variable {w : World}
theorem rangeB {b : Nat} {ty : TypeId} {cs : Array Value} (hX : Blk w b ty cs) : w.rangeAt b 0 cs.toList := rangeC (by rw [Array.toArray_toList]; exact hX)
theorem wpList_load_blk {ops : Array Oper} {rest : List Oper} {op : Oper} {a : Act} {Q : Exit → Act → World → Prop} (hgd : op.guard = none) {ty : TypeId} (x : Operand) (ho : op.op = .load ty x) {b : Nat} (hx : a.eval x = .pointer (some ⟨b, 0, none⟩)) {cv : Array Value} {d : TypeDesc} (hX : Blk w b ty cv)
    (hu : Tryz.prog.underlying ty = some d) (hd : d.isRow = true) (hi : (Tryz.prog.info? ty).map (·.size) = some cv.toList.length) (h : wpList Tryz.prog ops Q rest (a.put op.dst (.agg cv)) w) : wpList Tryz.prog ops Q (op :: rest) a w :=
  wpList_load_mid hgd ty x ho b 0 hx cv.toList d (rangeB hX) hu hd hi (by rw [Array.toArray_toList]; exact h)
end
end Go.Proofs.YtjaipdenahlheaaGreatDoor
namespace Go.Proofs.YtjaipdenahlheaaGreatDoor
open Go.RowKit Go.ChangeShapes Go.WideShapes Go.Sort
theorem data_injT {r s : ByteArray} (h : r.data.toList = s.data.toList) : r = s := by
  cases r; cases s; simp_all
section
variable {w : World}
theorem cinit_any {sv ex ge : Bool} {sw cm us : List UInt8} {A0 A1 A2 A3 A4 A5 A6 A7 A8 A9 A10 : Option Addr} {n0 n1 n2 n3 n4 n5 n6 n7 c0 c1 c2 c3 c4 c5 c6 c7 c8 c9 c10 : Nat} {al : List (List UInt8)} {own lim peer q0 q1 q2 : Int} {gr : List (List UInt8 × Int)} {ky : List Int} {ls : List (List (List UInt8))} {x e : Int} (hx : x ≤ 9223372036854775807) (he : e ≤ 9223372036854775807) (hC : CfM w sw cm us [.slice A0 n0 c0, .slice A1 n1 c1, .slice A2 n2 c2, .slice A3 n3 c3, .slice A4 n4 c4, .slice A5 n5 c5, .slice A6 n6 c6, .slice A7 n7 c7] ls A8 c8 al A9 gr A10 ky) : Calls Tryz.prog 21 #[.agg #[.bool sv, .string (bs sw), .string (bs cm), .slice A0 n0 c0, .slice A1 n1 c1, .slice A2 n2 c2, .slice A3 n3 c3, .slice A4 n4 c4, .slice A5 n5 c5, .slice A6 n6 c6, .slice A7 n7 c7, .slice A8 al.length c8, .int .i64 own, .slice A9 gr.length c9, .int .i64 lim, .int .i64 peer, .string (bs us), .slice A10 ky.length c10, .bool ex, .bool ge, .int .u32 q0, .int .u32 q1, .int .u32 q2], .int .i64 x, .int .i64 e] w (fun o w' => ∃ r B0 m0 d0 B1 m1 d1 B2 m2 d2 B3 m3 d3 B4 m4 d4 B5 m5 d5 B6 m6 d6 B7 m7 d7, o = .returned (.agg #[.string r, .slice B0 m0 d0, .slice B1 m1 d1, .slice B2 m2 d2, .slice B3 m3 d3, .slice B4 m4 d4, .slice B5 m5 d5, .slice B6 m6 d6, .slice B7 m7 d7, .slice none 0 0, .slice none 0 0, .bool (!sv && (ex && (e == 0))), .bool false, .bool (!sv && (e == 0)), .bool (sv && (e == 0)), .bool (!sv && ge)]) ∧ r.data.toList = cookie x e ∧ (∀ (i : Nat) v l, ([.slice B0 m0 d0, .slice B1 m1 d1, .slice B2 m2 d2, .slice B3 m3 d3, .slice B4 m4 d4, .slice B5 m5 d5, .slice B6 m6 d6, .slice B7 m7 d7] : List Value)[i]? = some v → ls[i]? = some l → NewC w.heap.size w' v l) ∧ Below w.heap.size w w') := by
  cases sv with
  | true => exact cinit_s hx he hC
  | false =>
    cases ex with
    | true => exact cinit_x hx he hC
    | false => exact cinit_n hx he hC
end
end Go.Proofs.YtjaipdenahlheaaGreatDoor
