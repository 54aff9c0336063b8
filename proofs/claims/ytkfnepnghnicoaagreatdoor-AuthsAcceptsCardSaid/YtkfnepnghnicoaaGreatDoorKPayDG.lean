/-
  Several of my texts in one: Fld, PayD.
-/
import Derived.Test.YtkfnepnghnicoaaGreatDoorKPayP
import Derived.Test.YtkfnepnghnicoaaGreatDoorKSignCG
import Derived.Test.YtkfnepnghnicoaaGreatDoorKRdrG
import Derived.Test.YtkfnepnghnicoaaGreatDoorKWholeAG
import Derived.Test.YtkfnepnghnicoaaGreatDoorKPayM
set_option linter.unusedVariables false
set_option linter.unusedSimpArgs false
set_option maxHeartbeats 40000000
set_option maxRecDepth 100000
namespace Go.Proofs.YtkfnepnghnicoaaGreatDoor
open Go.RowKit Go.ChangeShapes Go.WideShapes Go.Sort
def DoneF (B:Nat) (w:World) (g:Nat) (T:List Tm) (S:Nat→Prop) (o:Option Tm) (m:Nat) (e:Ending) (w':World):Prop :=
 ∃T' n S',e=.returned (.int .i64 n)∧Idn T' o n∧T <+: T'∧T'.length≤T.length+m∧Ar B w' g T' S'∧Grown S w S' w'
theorem Done.f {B:Nat} {w:World} {g:Nat} {T:List Tm} {S:Nat→Prop} {o:Option Tm} {e:Ending} {w':World} (h:Done B w g T S o e w'):DoneF B w g T S o 1 e w':=by
 obtain ⟨T1,n1,S1,e1,hp1,hA1,hG1⟩:=h
 exact ⟨T1,n1,S1,e1,hp1.idn,hp1.pre,hp1.len,hA1,hG1⟩
theorem DoneF.mono {B:Nat} {w:World} {g:Nat} {T:List Tm} {S:Nat→Prop} {o:Option Tm} {m m':Nat} {e:Ending} {w':World} (h:DoneF B w g T S o m e w') (hm:m≤m'):DoneF B w g T S o m' e w':=by
 obtain ⟨T1,n1,S1,e1,h1,h2,h3,h4,h5⟩:=h
 exact ⟨T1,n1,S1,e1,h1,h2,by omega,h4,h5⟩
section
variable {B g : Nat} {w : World} {T : List Tm} {S : Nat → Prop}
theorem fldOf_any (h:Use B w g T S) (s:ByteArray) (hs:s.size≤100000) (hT:T.length≤800000000):Calls Tryz.prog 18 #[.pointer (some ⟨g,0,none⟩),.string s] w (DoneF B w g T S (ofT s.data.toList) (2*s.size+1)):=by
 have HO:=hide (opq_any h.tab s (by omega))
 have H:=hide h
 clear h
 go_enter Tryz.func18,Tryz.ntmps18
 go_wp2_with fail
 refine HO.out.mono ?_
 rintro e w1 ⟨r,rfl,hr,hb1⟩
 have hU1:=H.out.below hb1
 have hG1:=Grown.of_below (S:=S) hb1
 cases r with
 | true =>
  have HD:=hide (decode_any hU1 (s:=s) (by omega) hT)
  have Hr:=hide (hr.1 rfl)
  clear hr hU1
  go_wp2_with fail
  refine HD.out.mono ?_
  rintro e w2 ⟨T2,S2,n,k,o,rfl,hid,hor,hA,hG,hp,hl⟩
  obtain ⟨t0,ht0,he0,hk0⟩:=Hr.out
  rcases hor with ⟨t,rfl,ht,he,rfl⟩ | ⟨rfl,rfl,hno⟩
  ·obtain rfl:t=t0:=enc_one ht ht0 (he.symm.trans he0)
   have Hf:=hide (show DoneF B w g T S (ofT s.data.toList) (2*s.size+1) (.returned (.int .i64 n)) w2 from ⟨T2,n,S2,rfl,by rw [he,ofT_op ht hk0];exact hid,hp,by omega,hA,hG1.trans hG⟩)
   clear hid hA hG hp hl he ht ht0 he0 hk0
   go_wp2_with fail
   go_ret
   exact Hf.out
  ·exact absurd he0 (hno t0 ht0)
 | false =>
  have HD:=hide (aData_any hU1 (s:=s) (by omega))
  have hn:¬ opaqueP s.data.toList:=fun h=>by have:=hr.2 h;cases this
  have Hn:=hide hn
  clear hr hU1 hn
  go_wp2_with fail
  refine HD.out.mono ?_
  intro e w2 hD
  obtain ⟨T2,n,S2,rfl,h1,h2,h3,h4,h5⟩:=hD.f
  have hn:=Hn.out
  have Hf:=hide (show DoneF B w g T S (ofT s.data.toList) (2*s.size+1) (.returned (.int .i64 n)) w2 from ⟨T2,n,S2,rfl,by rw [ofT_no hn];exact h1,h2,by omega,h4,hG1.trans h5⟩)
  clear h1 h2 h3 h4 h5 hD hn
  go_wp2_with fail
  go_ret
  exact Hf.out
end
section
variable {w : World}
theorem blk_new2F (w:World) (o:Obj) (t:TypeId) (cs:Array Value):Blk ((w.alloc o).alloc (.cells cs t)) (w.heap.size+1) t cs:=by
 have:=Blk.new (w.alloc o) t cs
 have e:(w.alloc o).heap.size=w.heap.size+1:=World.size_alloc _ _
 rw [e] at this
 exact this
theorem bel_newF {w:World} (o:Obj):Below w.heap.size w (w.alloc o):=(Below.refl _ _).alloc (Nat.le_refl _) o
end
def DoneY (w0:World) (B g:Nat) (T:List Tm) (S:Nat→Prop) (wb:World) (o:Option Tm) (m:Nat) (e:Ending) (w':World):Prop :=
 ∃T' n S',e=.returned (.int .i64 n)∧Idn T' o n∧T <+: T'∧T'.length≤T.length+m∧Pay w0 B g T' S' w'∧Grown S wb S' w'
section
variable {w0 wb : World} {B g : Nat} {T : List Tm} {S : Nat → Prop}
theorem DoneF.y (h:Pay w0 B g T S wb) {w w':World} (hb:Below wb.heap.size wb w) {o:Option Tm} {m:Nat} {e:Ending} (hm:T.length+m≤1000000000) (hd:DoneF B w g T S o m e w'):DoneY w0 B g T S wb o m e w':=by
 obtain ⟨T1,n1,S1,e1,h1,h2,h3,h4,h5⟩:=hd
 exact ⟨T1,n1,S1,e1,h1,h2,h3,(h.below hb).grown h5 h4 (by omega),(Grown.of_below hb).trans h5⟩
end
end Go.Proofs.YtkfnepnghnicoaaGreatDoor
