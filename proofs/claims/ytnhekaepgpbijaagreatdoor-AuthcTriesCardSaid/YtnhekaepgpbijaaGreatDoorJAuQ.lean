/-
  The reference's server in memory, its errors and its refusals. Conditions: short texts.
-/
import Derived.Test.YtnhekaepgpbijaaGreatDoorJAuP
import Derived.Test.YtnhekaepgpbijaaGreatDoorJCfLcG
import Derived.Deep.RegionHeld3
set_option linter.unusedVariables false
set_option linter.unusedSimpArgs false
set_option maxHeartbeats 40000000
set_option maxRecDepth 100000
namespace Go.Proofs.YtnhekaepgpbijaaGreatDoor
open Go.RowKit Go.ChangeShapes Go.WideShapes Go.Sort
structure RSv (w:World) (b:Nat) (cv:Array Value) (sid:ByteArray) (s:SvS):Prop where
 size:cv.size=23
 blk:Blk w b 87 (cv++#[Value.string sid,.int .i64 (s.ph:Nat),.int .i64 (s.fl:Nat)])
structure RtV (o:QI) (z:ByteArray) (is:Bool) (who:Int) (u a:ByteArray) (k:Int) (y:ByteArray):Prop where
 out:z=bs o.out
 k:k=pz o.err
 y:y=bs (tL o.err)
 no:o.ev=none→is=false
 ev:∀h us al,o.ev=some (h,us,al)→is=true∧who=(h:Nat)∧u=bs us∧a=bs al
def RTk (W:World) (b:Nat) (cv:Array Value) (sid:ByteArray) (o:SvS × QI) (e:Ending) (w':World):Prop :=
 ∃z is who u a k y,e=.returned (.tuple #[.string z,.agg #[.bool is,.int .i64 who,.string u,.string a],.agg #[.int .i64 k,.string y]])∧RtV o.2 z is who u a k y∧RSv w' b cv sid o.1∧W.grownBy w' (some b)
section
variable {W W' : World} {b : Nat} {cv : Array Value} {sid : ByteArray} {s : SvS}
theorem RSv.sid_ (h:RSv W b cv sid s):W.cell? ⟨b,23,none⟩=some (.string sid):=by
 rw [h.blk.cell 23,Array.getElem?_append_right (by rw [h.size];exact Nat.le_refl _),h.size];rfl
theorem RSv.ph (h:RSv W b cv sid s):W.cell? ⟨b,24,none⟩=some (.int .i64 (s.ph:Nat)):=by
 rw [h.blk.cell 24,Array.getElem?_append_right (by rw [h.size];decide),h.size];rfl
theorem RSv.fl (h:RSv W b cv sid s):W.cell? ⟨b,25,none⟩=some (.int .i64 (s.fl:Nat)):=by
 rw [h.blk.cell 25,Array.getElem?_append_right (by rw [h.size];decide),h.size];rfl
theorem RSv.at_ (h:RSv W b cv sid s) {i:Nat} {v:Value} (hi:cv[i]?=some v):W.cell? ⟨b,i,none⟩=some v:=by
 have hl:i<cv.size:=by
  rcases Nat.lt_or_ge i cv.size with h2 | h2
  ·exact h2
  ·rw [Array.getElem?_eq_none h2] at hi;cases hi
 rw [h.blk.cell i,Array.getElem?_append_left hl,hi]
theorem RSv.below (h:RSv W b cv sid s) (hb:Below W.heap.size W W'):RSv W' b cv sid s:=⟨h.size,h.blk.below hb h.blk.lt⟩
theorem RSv.far (h:RSv W b cv sid s) {p:Addr} (hp:b≠p.block) (v:Value):RSv (W.setCell p v) b cv sid s:=⟨h.size,h.blk.far hp v⟩
end
section
variable {W : World} {b : Nat} {cv : Array Value} {sid : ByteArray} {s : SvS}
theorem RTk.base {V:World} {o:SvS × QI} {e:Ending} {w':World} (h:RTk V b cv sid o e w') (hb:Below W.heap.size W V):RTk W b cv sid o e w':=by
 obtain ⟨z,is,who,u,a,k,y,he,hv,hM,hG⟩:=h;exact ⟨z,is,who,u,a,k,y,he,hv,hM,au (ai hb (some b)) hG⟩
end
end Go.Proofs.YtnhekaepgpbijaaGreatDoor
