/-
  Structs and arrays of numbers, bools and texts, compared: trans's parts, texts, numbers, groups. Conditions: numbers and texts fit.
-/
import Derived.Test.YtfjegckomjpkdaaGreatDoorBase
import Derived.DeepKeys
set_option linter.unusedVariables false
set_option linter.unusedSimpArgs false
namespace Go.Proofs.YtfjegckomjpkdaaGreatDoor
open Go.RowKit
theorem eql_deep {P : Program} {t : TypeId} {xs ys : Array Value} {la lb : List Lit} (hk : P.keyTypeAt 4 t = true) (fx : (Value.agg xs).formed P t = true) (fy : (Value.agg ys).formed P t = true) (hx : P.keyLits 4 t xs.toList = some la) (hy : P.keyLits 4 t ys.toList = some lb) {r : Bool} (hr : r = true ↔ la = lb) (w : World) :
    (binOp .eql t (.agg xs) (.agg ys)).run P w = .ok (.bool r) w := by
  obtain ⟨r', hr', hiff⟩ := run_equalIn_deep 9996 4 t hk w 4 4 (.agg xs) (.agg ys) la lb fx fy hx hy
  rw [run_eql_struct, show (10000 : Nat) = 9996 + 4 from rfl, hr']
  have : r' = r := by
    rw [Bool.eq_iff_iff, hiff, hr]
  rw [this]
  rfl
theorem tl_inj {s t : ByteArray} : s.data.toList = t.data.toList ↔ s = t :=
  ⟨fun h => by
    cases s; cases t
    simp only at h
    rw [ByteArray.mk.injEq]
    exact Array.ext' h, fun h => by rw [h]⟩
theorem dt_inj {s t : ByteArray} : s.data = t.data ↔ s = t :=
  ⟨fun h => tl_inj.1 (by rw [h]), fun h => by rw [h]⟩
def W64 (n : Int) : Prop := (Lit.int .i64 n).wf = true
def W32 (n : Int) : Prop := (Lit.int .u32 n).wf = true
def Fs (s : ByteArray) : Prop := s.size ≤ maxLen
theorem kS {s : ByteArray} (h : Fs s) (d : Nat) : Tryz.prog.keyLits (d + 1) 9 [.string s] = some [.string s.data.toList] := by
  have u := Tryz.underlying9
  unfold Fs at h
  simp [Program.keyLits, u, h]
theorem kI {n : Int} (h : W64 n) (d : Nat) : Tryz.prog.keyLits (d + 1) 34 [.int .i64 n] = some [.int .i64 n] := by
  have u := Tryz.underlying34
  unfold W64 at h
  simp [Program.keyLits, u, h]
theorem kU {n : Int} (h : W32 n) (d : Nat) : Tryz.prog.keyLits (d + 1) 23 [.int .u32 n] = some [.int .u32 n] := by
  have u := Tryz.underlying23
  unfold W32 at h
  simp [Program.keyLits, u, h]
theorem kB (b : Bool) (d : Nat) : Tryz.prog.keyLits (d + 1) 4 [.bool b] = some [.bool b] := by
  have u := Tryz.underlying4
  simp [Program.keyLits, u]
theorem kV {a b c e : ByteArray} (ha : Fs a) (hb : Fs b) (hc : Fs c) (he : Fs e) (d : Nat) : Tryz.prog.keyLits (d + 2) 76 [.string a, .string b, .string c, .string e] = some [.string a.data.toList, .string b.data.toList, .string c.data.toList, .string e.data.toList] := by
  have u := Tryz.underlying76
  have c1 : Tryz.prog.cellsOf 76 = 4 := by kernel_rfl
  have c2 : Tryz.prog.cellsOf 9 = 1 := by kernel_rfl
  unfold Program.keyLits
  simp [u, c1, c2, List.range, List.range.loop, kS ha, kS hb, kS hc, kS he]
theorem kW {a b c : Int} (ha : W32 a) (hb : W32 b) (hc : W32 c) (d : Nat) : Tryz.prog.keyLits (d + 2) 78 [.int .u32 a, .int .u32 b, .int .u32 c] = some [.int .u32 a, .int .u32 b, .int .u32 c] := by
  have u := Tryz.underlying78
  have c1 : Tryz.prog.cellsOf 78 = 3 := by kernel_rfl
  have c2 : Tryz.prog.cellsOf 23 = 1 := by kernel_rfl
  unfold Program.keyLits
  simp [u, c1, c2, List.range, List.range.loop, kU ha, kU hb, kU hc]
theorem kG {a b : ByteArray} (ha : Fs a) (hb : Fs b) (d : Nat) : Tryz.prog.keyLits (d + 2) 80 [.string a, .string b] = some [.string a.data.toList, .string b.data.toList] := by
  have u := Tryz.underlying80
  have c1 : Tryz.prog.cellsOf 80 = 2 := by kernel_rfl
  have c2 : Tryz.prog.cellsOf 9 = 1 := by kernel_rfl
  unfold Program.keyLits
  simp [u, c1, c2, kS ha, kS hb]
theorem eqV {a b c e a' b' c' e' : ByteArray} (ha : Fs a) (hb : Fs b) (hc : Fs c) (he : Fs e) (ha' : Fs a') (hb' : Fs b') (hc' : Fs c') (he' : Fs e') {r : Bool} (hr : r = true ↔ a = a' ∧ b = b' ∧ c = c' ∧ e = e') (w : World) :
    (binOp .eql 76 (.agg #[.string a, .string b, .string c, .string e]) (.agg #[.string a', .string b', .string c', .string e'])).run Tryz.prog w = .ok (.bool r) w :=
  eql_deep (by kernel_rfl) (by kernel_rfl) (by kernel_rfl) (kV ha hb hc he 2) (kV ha' hb' hc' he' 2) (by rw [hr]; simp [dt_inj]) w
theorem eqW {a b c a' b' c' : Int} (ha : W32 a) (hb : W32 b) (hc : W32 c) (ha' : W32 a') (hb' : W32 b') (hc' : W32 c') {r : Bool} (hr : r = true ↔ a = a' ∧ b = b' ∧ c = c') (w : World) :
    (binOp .eql 78 (.agg #[.int .u32 a, .int .u32 b, .int .u32 c]) (.agg #[.int .u32 a', .int .u32 b', .int .u32 c'])).run Tryz.prog w = .ok (.bool r) w :=
  eql_deep (by kernel_rfl) (by kernel_rfl) (by kernel_rfl) (kW ha hb hc 2) (kW ha' hb' hc' 2) (by rw [hr]; simp) w
theorem eqG {a b a' b' : ByteArray} (ha : Fs a) (hb : Fs b) (ha' : Fs a') (hb' : Fs b') {r : Bool} (hr : r = true ↔ a = a' ∧ b = b') (w : World) :
    (binOp .eql 80 (.agg #[.string a, .string b]) (.agg #[.string a', .string b'])).run Tryz.prog w = .ok (.bool r) w :=
  eql_deep (by kernel_rfl) (by kernel_rfl) (by kernel_rfl) (kG ha hb 2) (kG ha' hb' 2) (by rw [hr]; simp [dt_inj]) w
theorem kP {v0 v1 v2 v3 gp gg : ByteArray} {nk ne nf ns : Int} {ak : Bool} {w0 w1 w2 : Int} (h0 : Fs v0) (h1 : Fs v1) (h2 : Fs v2) (h3 : Fs v3) (h4 : W64 nk) (h6 : W32 w0) (h7 : W32 w1) (h8 : W32 w2) (h9 : Fs gp) (h10 : Fs gg) (h11 : W64 ne) (h12 : W64 nf) (h13 : W64 ns) :
    Tryz.prog.keyLits 4 86 [.string v0, .string v1, .string v2, .string v3, .int .i64 nk, .bool ak, .int .u32 w0, .int .u32 w1, .int .u32 w2, .string gp, .string gg, .int .i64 ne, .int .i64 nf, .int .i64 ns] = some [.string v0.data.toList, .string v1.data.toList, .string v2.data.toList, .string v3.data.toList, .int .i64 nk, .bool ak, .int .u32 w0, .int .u32 w1, .int .u32 w2, .string gp.data.toList, .string gg.data.toList, .int .i64 ne, .int .i64 nf, .int .i64 ns] := by
  have u := Tryz.underlying86
  have c0 : Tryz.prog.cellsOf 86 = 14 := by kernel_rfl
  have c1 : Tryz.prog.cellsOf 9 = 1 := by kernel_rfl
  have c2 : Tryz.prog.cellsOf 34 = 1 := by kernel_rfl
  have c3 : Tryz.prog.cellsOf 4 = 1 := by kernel_rfl
  have c4 : Tryz.prog.cellsOf 78 = 3 := by kernel_rfl
  have c5 : Tryz.prog.cellsOf 80 = 2 := by kernel_rfl
  unfold Program.keyLits
  simp [u, c0, c1, c2, c3, c4, c5, kS h0, kS h1, kS h2, kS h3, kI h4, kB, kW h6 h7 h8, kG h9 h10, kI h11, kI h12, kI h13]
theorem eqP {v0 v1 v2 v3 gp gg : ByteArray} {nk ne nf ns : Int} {ak : Bool} {w0 w1 w2 : Int} (h0 : Fs v0) (h1 : Fs v1) (h2 : Fs v2) (h3 : Fs v3) (h4 : W64 nk) (h6 : W32 w0) (h7 : W32 w1) (h8 : W32 w2) (h9 : Fs gp) (h10 : Fs gg) (h11 : W64 ne) (h12 : W64 nf) (h13 : W64 ns)
    {v0' v1' v2' v3' gp' gg' : ByteArray} {nk' ne' nf' ns' : Int} {ak' : Bool} {w0' w1' w2' : Int} (k0 : Fs v0') (k1 : Fs v1') (k2 : Fs v2') (k3 : Fs v3') (k4 : W64 nk') (k6 : W32 w0') (k7 : W32 w1') (k8 : W32 w2') (k9 : Fs gp') (k10 : Fs gg') (k11 : W64 ne') (k12 : W64 nf') (k13 : W64 ns')
    {r : Bool} (hr : r = true ↔ (v0 = v0' ∧ v1 = v1' ∧ v2 = v2' ∧ v3 = v3') ∧ nk = nk' ∧ ak = ak' ∧ (w0 = w0' ∧ w1 = w1' ∧ w2 = w2') ∧ (gp = gp' ∧ gg = gg') ∧ ne = ne' ∧ nf = nf' ∧ ns = ns') (w : World) :
    (binOp .eql 86 (.agg #[.string v0, .string v1, .string v2, .string v3, .int .i64 nk, .bool ak, .int .u32 w0, .int .u32 w1, .int .u32 w2, .string gp, .string gg, .int .i64 ne, .int .i64 nf, .int .i64 ns]) (.agg #[.string v0', .string v1', .string v2', .string v3', .int .i64 nk', .bool ak', .int .u32 w0', .int .u32 w1', .int .u32 w2', .string gp', .string gg', .int .i64 ne', .int .i64 nf', .int .i64 ns'])).run Tryz.prog w = .ok (.bool r) w :=
  eql_deep (by kernel_rfl) (by kernel_rfl) (by kernel_rfl) (kP h0 h1 h2 h3 h4 h6 h7 h8 h9 h10 h11 h12 h13) (kP k0 k1 k2 k3 k4 k6 k7 k8 k9 k10 k11 k12 k13) (by rw [hr]; simp [dt_inj, and_assoc]) w
end Go.Proofs.YtfjegckomjpkdaaGreatDoor
