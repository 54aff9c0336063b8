/-
  A world with an arena, and the listed variables. Conditions: none.
-/
import Derived.Test.YtnhekaepgpbijaaGreatDoorJMakeAG
import Derived.Test.YtnhekaepgpbijaaGreatDoorJCfBG
set_option linter.unusedVariables false
set_option linter.unusedSimpArgs false
set_option maxHeartbeats 40000000
set_option maxRecDepth 100000
namespace Go.Proofs.YtnhekaepgpbijaaGreatDoor
open Go.RowKit Go.ChangeShapes Go.WideShapes Go.Sort
def zx (B:Nat) (w:World):Prop:=∃w0:World,jq w0∧w0.heap.size≤B∧Below w0.heap.size w0 w
theorem zx.maxL {B:Nat} {w:World} (h:zx B w):jq w:=by
 obtain ⟨w0,h1,_,h3⟩:=h;exact h1.below h3
theorem zx.below {B:Nat} {w w':World} (h:zx B w) (hb:Below w.heap.size w w'):zx B w':=by
 obtain ⟨w0,h1,h2,h3⟩:=h;exact ⟨w0,h1,h2,h3.trans (hb.mono h3.size)⟩
theorem zx.grown {B g:Nat} {w w':World} {T:List Tm} {S S':Nat→Prop} (h:zx B w) (hU:Use B w g T S) (hG:Grown S w S' w'):zx B w':=by
 obtain ⟨w0,h1,h2,h3⟩:=h;exact ⟨w0,h1,h2,h3.trans ((hG.below hU.base hU.ar.sB).mono h2)⟩
structure Pay (w0:World) (B g:Nat) (T:List Tm) (S:Nat→Prop) (w:World):Prop where
 use:Use B w g T S
 max:zx B w
 bel:Below w0.heap.size w0 w
 base:w0.heap.size≤B
section
variable {w0 w w' : World} {B g : Nat} {T T' : List Tm} {S S' : Nat → Prop}
theorem Pay.new (hT:Tab w0) (hM:jq w0) (hb0:Below w0.heap.size w0 w) (h:Ar w.heap.size w' g [] S) (hb:Below w.heap.size w w'):Pay w0 w.heap.size g [] S w' :=
 ⟨⟨h,⟨w0,hT,hb0.size,hb0.trans (hb.mono hb0.size)⟩,hb.size,Nat.zero_le _⟩,⟨w0,hM,hb0.size,hb0.trans (hb.mono hb0.size)⟩,hb0.trans (hb.mono hb0.size),hb0.size⟩
theorem Pay.below (h:Pay w0 B g T S w) (hb:Below w.heap.size w w'):Pay w0 B g T S w' :=
 ⟨h.use.below hb,h.max.below hb,h.bel.trans (hb.mono h.bel.size),h.base⟩
theorem Pay.grown (h:Pay w0 B g T S w) (hG:Grown S w S' w') (hA:Ar B w' g T' S') (hf:T'.length≤1000000000):Pay w0 B g T' S' w' :=
 ⟨h.use.grown hG hA hf,h.max.grown h.use hG,h.bel.trans ((hG.below h.use.base h.use.ar.sB).mono h.base),h.base⟩
theorem Pay.kept (h:Pay w0 B g T S w) {b:Nat} (k:w.grownBy w' (some b)) (hn:¬ S b) (hB:B≤b):Pay w0 B g T S w':=by
 refine ⟨h.use.kept k (fun i e=>by cases e;exact ⟨hn,hB⟩),?_,h.bel.grown k h.bel.size (fun i e=>by cases e;have:=h.base;omega),h.base⟩;obtain ⟨w9,h1,h2,h3⟩:=h.max;exact ⟨w9,h1,h2,h3.grown k h3.size (fun i e=>by cases e;omega)⟩
theorem Pay.ar (h:Pay w0 B g T S w):Ar B w g T S:=h.use.ar
end
end Go.Proofs.YtnhekaepgpbijaaGreatDoor
