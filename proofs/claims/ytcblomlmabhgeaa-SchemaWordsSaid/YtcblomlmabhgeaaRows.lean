/-
  No cell of these rows narrows 'for every input' (looked for: loops, veiled, ifaces, maps, wideKeys, modest, calm, conditions, laid).
  DERIVED. THE GIVEN ROWS OF THIS SEAT. 7 by the template 'for every input the law returns true; each argument reads behind the call as it read before'; 0 by the template 'total and deterministic' (their statements: YtcblomlmabhgeaaTotals.lean).
  GIVEN WITH THE SEED: the statements are not yours to turn. If you find one false, say at which input.
  Laid BY PROGRAM, IN A SANDBOX (cutbox-rows.mjs): the forced cells as the released guide's own fill.sh prints them over the translation ef17ea6a2dd8c57e… (all of the seat's roots in one cut). By AI agents, Wed Nov 11 2026. No macro, syntax, notation, axiom, sorry.
-/
import Derived.Test.YtcblomlmabhgeaaChecked
import GoSem.Claim
import GoSem.ClaimJoined
import GoSem.ClaimMapViews
import Derived.JoinedTies
import Derived.KernelRfl
namespace Go.Proofs.Ytcblomlmabhgeaa
/- THE CELL 'sum', in the pinned program and in every row, IS THE sha256 OF THE DUMP (.gsa) THAT YtcblomlmabhgeaaProg.lean LOADS. Nothing in Lean hashes anything: it is a label: what it is worth is what the hold of that sum in a sandbox is worth. -/
noncomputable def Try.pinned : Pinned := { name := "ytcblomlmabhgeaa", sum := "ef17ea6a2dd8c57e6144f5c2995825206e0caebea9ceaca91d685e6af030239c", checked := Try.checked }
namespace Rows
def none {H : Type} : Left H := { results := [], args := [] }

/-- 'shibbolethlaw06.SchemaApart': WHATEVER THE INPUT: true; the input reads as it did. -/
def schemaApartSpec : ChangeSpec := { name := "schemaApart", fn := fun _ => fun
  | [d] => { results := [.lit (.bool true)], args := [d] }
  | _ => none }
def schemaApartRow : OpenClaim := { program := "ytcblomlmabhgeaa", sum := "ef17ea6a2dd8c57e6144f5c2995825206e0caebea9ceaca91d685e6af030239c", func := "shibboleth/shibbolethlaw06.SchemaApart", spec := "schemaApart", apart := false }
def SchemaApartSaid : Prop := schemaApartRow.holds Try.pinned (OpenSpec.ofChange schemaApartSpec)

/-- ITS FALSE NEIGHBOUR: 'it returns false'. Refute it at one input. -/
def schemaApartWrong : ChangeSpec := { name := "schemaApart", fn := fun _ => fun
  | [d] => { results := [.lit (.bool false)], args := [d] }
  | _ => none }
def SchemaApartWrongFalsely : Prop := schemaApartRow.holds Try.pinned (OpenSpec.ofChange schemaApartWrong)

/-- 'shibbolethlaw23.OrderJudges': WHATEVER THE INPUT: true; the input reads as it did. -/
def orderJudgesSpec : ChangeSpec := { name := "orderJudges", fn := fun _ => fun
  | [d1, d2, d3] => { results := [.lit (.bool true)], args := [d1, d2, d3] }
  | _ => none }
def orderJudgesRow : OpenClaim := { program := "ytcblomlmabhgeaa", sum := "ef17ea6a2dd8c57e6144f5c2995825206e0caebea9ceaca91d685e6af030239c", func := "shibboleth/shibbolethlaw23.OrderJudges", spec := "orderJudges", apart := false }
def OrderJudgesSaid : Prop := orderJudgesRow.holds Try.pinned (OpenSpec.ofChange orderJudgesSpec)

/-- ITS FALSE NEIGHBOUR: 'it returns false'. Refute it at one input. -/
def orderJudgesWrong : ChangeSpec := { name := "orderJudges", fn := fun _ => fun
  | [d1, d2, d3] => { results := [.lit (.bool false)], args := [d1, d2, d3] }
  | _ => none }
def OrderJudgesWrongFalsely : Prop := orderJudgesRow.holds Try.pinned (OpenSpec.ofChange orderJudgesWrong)

/-- 'shibbolethlaw23.OrderStrict': WHATEVER THE INPUT: true; the input reads as it did. -/
def orderStrictSpec : ChangeSpec := { name := "orderStrict", fn := fun _ => fun
  | [d1, d2] => { results := [.lit (.bool true)], args := [d1, d2] }
  | _ => none }
def orderStrictRow : OpenClaim := { program := "ytcblomlmabhgeaa", sum := "ef17ea6a2dd8c57e6144f5c2995825206e0caebea9ceaca91d685e6af030239c", func := "shibboleth/shibbolethlaw23.OrderStrict", spec := "orderStrict", apart := false }
def OrderStrictSaid : Prop := orderStrictRow.holds Try.pinned (OpenSpec.ofChange orderStrictSpec)

/-- ITS FALSE NEIGHBOUR: 'it returns false'. Refute it at one input. -/
def orderStrictWrong : ChangeSpec := { name := "orderStrict", fn := fun _ => fun
  | [d1, d2] => { results := [.lit (.bool false)], args := [d1, d2] }
  | _ => none }
def OrderStrictWrongFalsely : Prop := orderStrictRow.holds Try.pinned (OpenSpec.ofChange orderStrictWrong)

/-- 'shibbolethlaw23.OrderSides': WHATEVER THE INPUT: true; the input reads as it did. -/
def orderSidesSpec : ChangeSpec := { name := "orderSides", fn := fun _ => fun
  | [d1, d2] => { results := [.lit (.bool true)], args := [d1, d2] }
  | _ => none }
def orderSidesRow : OpenClaim := { program := "ytcblomlmabhgeaa", sum := "ef17ea6a2dd8c57e6144f5c2995825206e0caebea9ceaca91d685e6af030239c", func := "shibboleth/shibbolethlaw23.OrderSides", spec := "orderSides", apart := false }
def OrderSidesSaid : Prop := orderSidesRow.holds Try.pinned (OpenSpec.ofChange orderSidesSpec)

/-- ITS FALSE NEIGHBOUR: 'it returns false'. Refute it at one input. -/
def orderSidesWrong : ChangeSpec := { name := "orderSides", fn := fun _ => fun
  | [d1, d2] => { results := [.lit (.bool false)], args := [d1, d2] }
  | _ => none }
def OrderSidesWrongFalsely : Prop := orderSidesRow.holds Try.pinned (OpenSpec.ofChange orderSidesWrong)

/-- 'shibbolethlaw06.SchemaWords': WHATEVER THE INPUT: true; the input reads as it did. -/
def schemaWordsSpec : ChangeSpec := { name := "schemaWords", fn := fun _ => fun
  | [d] => { results := [.lit (.bool true)], args := [d] }
  | _ => none }
def schemaWordsRow : OpenClaim := { program := "ytcblomlmabhgeaa", sum := "ef17ea6a2dd8c57e6144f5c2995825206e0caebea9ceaca91d685e6af030239c", func := "shibboleth/shibbolethlaw06.SchemaWords", spec := "schemaWords", apart := false }
def SchemaWordsSaid : Prop := schemaWordsRow.holds Try.pinned (OpenSpec.ofChange schemaWordsSpec)

/-- ITS FALSE NEIGHBOUR: 'it returns false'. Refute it at one input. -/
def schemaWordsWrong : ChangeSpec := { name := "schemaWords", fn := fun _ => fun
  | [d] => { results := [.lit (.bool false)], args := [d] }
  | _ => none }
def SchemaWordsWrongFalsely : Prop := schemaWordsRow.holds Try.pinned (OpenSpec.ofChange schemaWordsWrong)

/-- 'shibbolethlaw06.SchemaForms': WHATEVER THE INPUT: true; the input reads as it did. -/
def schemaFormsSpec : ChangeSpec := { name := "schemaForms", fn := fun _ => fun
  | [d1, d2] => { results := [.lit (.bool true)], args := [d1, d2] }
  | _ => none }
def schemaFormsRow : OpenClaim := { program := "ytcblomlmabhgeaa", sum := "ef17ea6a2dd8c57e6144f5c2995825206e0caebea9ceaca91d685e6af030239c", func := "shibboleth/shibbolethlaw06.SchemaForms", spec := "schemaForms", apart := false }
def SchemaFormsSaid : Prop := schemaFormsRow.holds Try.pinned (OpenSpec.ofChange schemaFormsSpec)

/-- ITS FALSE NEIGHBOUR: 'it returns false'. Refute it at one input. -/
def schemaFormsWrong : ChangeSpec := { name := "schemaForms", fn := fun _ => fun
  | [d1, d2] => { results := [.lit (.bool false)], args := [d1, d2] }
  | _ => none }
def SchemaFormsWrongFalsely : Prop := schemaFormsRow.holds Try.pinned (OpenSpec.ofChange schemaFormsWrong)

/-- 'shibbolethlaw23.OrderGoes': WHATEVER THE INPUT: true; the input reads as it did. -/
def orderGoesSpec : ChangeSpec := { name := "orderGoes", fn := fun _ => fun
  | [d1, d2] => { results := [.lit (.bool true)], args := [d1, d2] }
  | _ => none }
def orderGoesRow : OpenClaim := { program := "ytcblomlmabhgeaa", sum := "ef17ea6a2dd8c57e6144f5c2995825206e0caebea9ceaca91d685e6af030239c", func := "shibboleth/shibbolethlaw23.OrderGoes", spec := "orderGoes", apart := false }
def OrderGoesSaid : Prop := orderGoesRow.holds Try.pinned (OpenSpec.ofChange orderGoesSpec)

/-- ITS FALSE NEIGHBOUR: 'it returns false'. Refute it at one input. -/
def orderGoesWrong : ChangeSpec := { name := "orderGoes", fn := fun _ => fun
  | [d1, d2] => { results := [.lit (.bool false)], args := [d1, d2] }
  | _ => none }
def OrderGoesWrongFalsely : Prop := orderGoesRow.holds Try.pinned (OpenSpec.ofChange orderGoesWrong)

/- THE SECOND FORM. 'bulk': how many values and letters a reading holds, each counted each time it is reached (what is shared counts as often as it is met; a slice's spare places count too). A statement '..UptoSaid' is the law's where the arguments, and the package variables that the reading takes, are together of bulk at most 1048576: NARROWER than '..Said'. Prove '..Said' where nothing that the law and all that it calls make is longer than what came in: it says more and counts as full. Else prove '..UptoSaid'. A law counts once. -/
mutual
def uptoBulk {H : Type} : DataW H → Nat
  | .lit (.string bytes) => bytes.length + 1
  | .lit _ => 1
  | .nil => 1
  | .ptr d => uptoBulk d + 1
  | .slice elems spare => uptoBulkAll elems + uptoBulkAll spare + 1
  | .agg parts => uptoBulkAll parts + 1
  | .iface _ d => uptoBulk d + 1
  | .map entries => uptoBulkEntries entries + 1
  | .held _ => 1
def uptoBulkAll {H : Type} : List (DataW H) → Nat
  | [] => 0
  | d :: r => uptoBulk d + uptoBulkAll r
def uptoBulkEntries {H : Type} : List (Lit × DataW H) → Nat
  | [] => 0
  | x :: r => uptoBulkEntry x + uptoBulkEntries r
def uptoBulkEntry {H : Type} : Lit × DataW H → Nat
  | (.string bytes, d) => bytes.length + uptoBulk d + 1
  | (_, d) => uptoBulk d + 1
 end
def uptoSmall : (H : Type) → List (DataW H) → Bool := fun _ ds => decide (uptoBulkAll ds ≤ 1048576)
def OpenSpec.upto (s : _root_.Go.ChangeSpec) : _root_.Go.OpenSpec := { _root_.Go.OpenSpec.ofChange s with cond := some uptoSmall }

/-- 'shibbolethlaw06.SchemaApart', WHERE WHAT IT READS IS OF BULK AT MOST 1048576: true; the input reads as it did. -/
def schemaApartUptoRow : OpenClaim := { program := "ytcblomlmabhgeaa", sum := "ef17ea6a2dd8c57e6144f5c2995825206e0caebea9ceaca91d685e6af030239c", func := "shibboleth/shibbolethlaw06.SchemaApart", spec := "schemaApart", apart := false, narrowed := true }
def SchemaApartUptoSaid : Prop := schemaApartUptoRow.holds Try.pinned (OpenSpec.upto schemaApartSpec)

/-- 'shibbolethlaw23.OrderJudges', WHERE WHAT IT READS IS OF BULK AT MOST 1048576: true; the input reads as it did. -/
def orderJudgesUptoRow : OpenClaim := { program := "ytcblomlmabhgeaa", sum := "ef17ea6a2dd8c57e6144f5c2995825206e0caebea9ceaca91d685e6af030239c", func := "shibboleth/shibbolethlaw23.OrderJudges", spec := "orderJudges", apart := false, narrowed := true }
def OrderJudgesUptoSaid : Prop := orderJudgesUptoRow.holds Try.pinned (OpenSpec.upto orderJudgesSpec)

/-- 'shibbolethlaw23.OrderStrict', WHERE WHAT IT READS IS OF BULK AT MOST 1048576: true; the input reads as it did. -/
def orderStrictUptoRow : OpenClaim := { program := "ytcblomlmabhgeaa", sum := "ef17ea6a2dd8c57e6144f5c2995825206e0caebea9ceaca91d685e6af030239c", func := "shibboleth/shibbolethlaw23.OrderStrict", spec := "orderStrict", apart := false, narrowed := true }
def OrderStrictUptoSaid : Prop := orderStrictUptoRow.holds Try.pinned (OpenSpec.upto orderStrictSpec)

/-- 'shibbolethlaw23.OrderSides', WHERE WHAT IT READS IS OF BULK AT MOST 1048576: true; the input reads as it did. -/
def orderSidesUptoRow : OpenClaim := { program := "ytcblomlmabhgeaa", sum := "ef17ea6a2dd8c57e6144f5c2995825206e0caebea9ceaca91d685e6af030239c", func := "shibboleth/shibbolethlaw23.OrderSides", spec := "orderSides", apart := false, narrowed := true }
def OrderSidesUptoSaid : Prop := orderSidesUptoRow.holds Try.pinned (OpenSpec.upto orderSidesSpec)

/-- 'shibbolethlaw06.SchemaWords', WHERE WHAT IT READS IS OF BULK AT MOST 1048576: true; the input reads as it did. -/
def schemaWordsUptoRow : OpenClaim := { program := "ytcblomlmabhgeaa", sum := "ef17ea6a2dd8c57e6144f5c2995825206e0caebea9ceaca91d685e6af030239c", func := "shibboleth/shibbolethlaw06.SchemaWords", spec := "schemaWords", apart := false, narrowed := true }
def SchemaWordsUptoSaid : Prop := schemaWordsUptoRow.holds Try.pinned (OpenSpec.upto schemaWordsSpec)

/-- 'shibbolethlaw06.SchemaForms', WHERE WHAT IT READS IS OF BULK AT MOST 1048576: true; the input reads as it did. -/
def schemaFormsUptoRow : OpenClaim := { program := "ytcblomlmabhgeaa", sum := "ef17ea6a2dd8c57e6144f5c2995825206e0caebea9ceaca91d685e6af030239c", func := "shibboleth/shibbolethlaw06.SchemaForms", spec := "schemaForms", apart := false, narrowed := true }
def SchemaFormsUptoSaid : Prop := schemaFormsUptoRow.holds Try.pinned (OpenSpec.upto schemaFormsSpec)

/-- 'shibbolethlaw23.OrderGoes', WHERE WHAT IT READS IS OF BULK AT MOST 1048576: true; the input reads as it did. -/
def orderGoesUptoRow : OpenClaim := { program := "ytcblomlmabhgeaa", sum := "ef17ea6a2dd8c57e6144f5c2995825206e0caebea9ceaca91d685e6af030239c", func := "shibboleth/shibbolethlaw23.OrderGoes", spec := "orderGoes", apart := false, narrowed := true }
def OrderGoesUptoSaid : Prop := orderGoesUptoRow.holds Try.pinned (OpenSpec.upto orderGoesSpec)

end Rows
end Go.Proofs.Ytcblomlmabhgeaa
