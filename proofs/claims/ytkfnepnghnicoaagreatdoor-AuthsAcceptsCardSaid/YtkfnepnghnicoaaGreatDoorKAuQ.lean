/-
  The reference's server in memory, its errors and its refusals. Conditions: short texts.
-/
import Derived.Test.YtkfnepnghnicoaaGreatDoorKAuP
import Derived.Test.YtkfnepnghnicoaaGreatDoorKCfX0G
import Derived.Deep.RegionHeld3
set_option linter.unusedVariables false
set_option linter.unusedSimpArgs false
set_option maxHeartbeats 40000000
set_option maxRecDepth 100000
namespace Go.Proofs.YtkfnepnghnicoaaGreatDoor
open Go.RowKit Go.ChangeShapes Go.WideShapes Go.Sort
structure RSv (w:World) (b:Nat) (cv:Array Value) (sid:ByteArray) (s:SvS):Prop where
 size:cv.size=23
 blk:Blk w b 58 (cv++#[Value.string sid,.int .i64 (s.ph:Nat),.int .i64 (s.fl:Nat)])
structure RtV (o:OutA) (z:ByteArray) (is:Bool) (who:Int) (u a:ByteArray) (k:Int) (y:ByteArray):Prop where
 out:z=bs o.out
 k:k=errK o.err
 y:y=bs (errS o.err)
 no:o.ev=none→is=false
 ev:∀h us al,o.ev=some (h,us,al)→is=true∧who=(h:Nat)∧u=bs us∧a=bs al
def RTk (W:World) (b:Nat) (cv:Array Value) (sid:ByteArray) (o:SvS × OutA) (e:Ending) (w':World):Prop :=
 ∃z is who u a k y,e=.returned (.tuple #[.string z,.agg #[.bool is,.int .i64 who,.string u,.string a],.agg #[.int .i64 k,.string y]])∧RtV o.2 z is who u a k y∧RSv w' b cv sid o.1∧W.grownBy w' (some b)
section
variable {W W' : World} {b : Nat} {cv : Array Value} {sid : ByteArray} {s : SvS}
theorem RSv.sid_ (h:RSv W b cv sid s):W.cell? ⟨b,23,none⟩=some (.string sid):=by
 rw [h.blk.cell 23,Array.getElem?_append_right (by rw [h.size];exact Nat.le_refl _),h.size];rfl
theorem RSv.ph (h:RSv W b cv sid s):W.cell? ⟨b,24,none⟩=some (.int .i64 (s.ph:Nat)):=by
 rw [h.blk.cell 24,Array.getElem?_append_right (by rw [h.size];decide),h.size];rfl
theorem RSv.fl (h:RSv W b cv sid s):W.cell? ⟨b,25,none⟩=some (.int .i64 (s.fl:Nat)):=by
 rw [h.blk.cell 25,Array.getElem?_append_right (by rw [h.size];decide),h.size];rfl
theorem RSv.at_ (h:RSv W b cv sid s) {i:Nat} {v:Value} (hi:cv[i]?=some v):W.cell? ⟨b,i,none⟩=some v:=by
 have hl:i<cv.size:=by
  rcases Nat.lt_or_ge i cv.size with h2 | h2
  ·exact h2
  ·rw [Array.getElem?_eq_none h2] at hi;cases hi
 rw [h.blk.cell i,Array.getElem?_append_left hl,hi]
theorem RSv.setPh (h:RSv W b cv sid s) (p:Nat):RSv (W.setCell ⟨b,24,none⟩ (.int .i64 (p:Nat))) b cv sid ⟨p,s.fl⟩:=by
 refine ⟨h.size,?_⟩
 have h2:=h.blk.set_ 24 (.int .i64 (p:Nat))
 rwa [Array.setIfInBounds_append_right (by rw [h.size];decide),h.size] at h2
theorem RSv.setFl (h:RSv W b cv sid s) (p:Nat):RSv (W.setCell ⟨b,25,none⟩ (.int .i64 (p:Nat))) b cv sid ⟨s.ph,p⟩:=by
 refine ⟨h.size,?_⟩
 have h2:=h.blk.set_ 25 (.int .i64 (p:Nat))
 rwa [Array.setIfInBounds_append_right (by rw [h.size];decide),h.size] at h2
theorem RSv.below (h:RSv W b cv sid s) (hb:Below W.heap.size W W'):RSv W' b cv sid s:=⟨h.size,h.blk.below hb h.blk.lt⟩
theorem RSv.far (h:RSv W b cv sid s) {p:Addr} (hp:b≠p.block) (v:Value):RSv (W.setCell p v) b cv sid s:=⟨h.size,h.blk.far hp v⟩
end
theorem atL_auths (ps:List (List UInt8)):atL (authsL :: ps)=[97,117,116,104,115,32]++atL ps:=by
 unfold atL
 rw [List.map_cons,List.flatten_cons]
 rfl
section
variable {W : World} {b : Nat} {cv : Array Value} {sid : ByteArray} {s : SvS}
theorem rin_any (k:Int) (ps:List (List UInt8)) (hs:(atL ps).length≤1000000) (w:World):Calls Tryz.prog 65 #[.int .i64 k,.string (bs (atL ps))] w (fun e w'=>e=.returned (.agg #[.int .i64 k,.string (bs (atL (authsL :: ps)))])∧Below w.heap.size w w'):=by
 rw [atL_auths]
 have Hx:=hide (show (⟨#[97,117,116,104,115,32]⟩:ByteArray)++bs (atL ps)=bs ([97,117,116,104,115,32]++atL ps) from bytes_ext (by rw [ByteArray.toList_eq,ByteArray.toList_eq,data_append];rfl))
 have hz:(bs (atL ps)).size≤1000000:=hs
 have hz2:(6:Int)+(bs (atL ps)).size≤9223372036854775807:=by omega
 generalize bs ([97,117,116,104,115,32]++atL ps)=y at Hx
 generalize bs (atL ps)=x at Hx hz hz2 ⊢
 clear hs
 go_enter Tryz.func65,Tryz.ntmps65
 go_wp2_with fail
 rw [Hx.out]
 have hB:=Blk.new w 44 #[.int .i64 0,.string ⟨#[]⟩]
 have hF:=two_fin hB (.int .i64 k) (.string y)
 have q2:=hF.cell 0
 have q3:=hF.cell 1
 simp at q2 q3
 exact bodyPost_ret (v:=.agg #[.int .i64 k,.string y]) (by simp [results,Tryz.results65,go_sem,q2,q3]) rfl ⟨rfl,by exact bel_by⟩
theorem rfine_any (w:World):Calls Tryz.prog 37 #[] w (fun e w'=>e=.returned (.agg #[.int .i64 0,.string ⟨#[]⟩])∧Below w.heap.size w w'):=by
 go_enter Tryz.func37,Tryz.ntmps37
 go_wp2_with fail
 have hB:=Blk.new w 44 #[.int .i64 0,.string ⟨#[]⟩]
 have hF:=two_fin hB (.int .i64 0) (.string ⟨#[]⟩)
 have q2:=hF.cell 0
 have q3:=hF.cell 1
 simp at q2 q3
 exact bodyPost_ret (v:=.agg #[.int .i64 0,.string ⟨#[]⟩]) (by simp [results,Tryz.results37,go_sem,q2,q3]) rfl ⟨rfl,by exact bel_by⟩
theorem RTk.base {V:World} {o:SvS × OutA} {e:Ending} {w':World} (h:RTk V b cv sid o e w') (hb:Below W.heap.size W V):RTk W b cv sid o e w':=by
 obtain ⟨z,is,who,u,a,k,y,he,hv,hM,hG⟩:=h
 exact ⟨z,is,who,u,a,k,y,he,hv,hM,only_trans (only_of_below hb (some b)) hG⟩
end
end Go.Proofs.YtkfnepnghnicoaaGreatDoor
