/-
  The reference's answer whether a user may be let in by a key. Conditions: at most 1,000 grants and algorithms.
-/
import Derived.Test.YtihfpbaaiedfbaaGreatDoorKAuP
import Derived.Test.YtihfpbaaiedfbaaGreatDoorKOpqG
import Derived.Test.YtihfpbaaiedfbaaGreatDoorKCfFG
import Derived.BigGuardPart
set_option linter.unusedVariables false
set_option linter.unusedSimpArgs false
set_option maxHeartbeats 40000000
set_option maxRecDepth 100000
namespace Go.Proofs.YtihfpbaaiedfbaaGreatDoor
open Go.RowKit Go.ChangeShapes Go.WideShapes Go.Sort
theorem hasG_no {gr:List (List UInt8 × Int)} {al:List (List UInt8)} {user alg:List UInt8} {key:Option Tm} (h:isPb key=false):hasG gr al user alg key=false:=by unfold hasG;rw [h];rfl
theorem hasG_na {gr:List (List UInt8 × Int)} {al:List (List UInt8)} {user alg:List UInt8} {key:Option Tm} (h:decide (alg∈al)=false):hasG gr al user alg key=false:=by unfold hasG;rw [h];simp
theorem hasG_of {gr:List (List UInt8 × Int)} {al:List (List UInt8)} {user alg:List UInt8} {key:Option Tm} (h:isPb key=true) (h2:decide (alg∈al)=true):hasG gr al user alg key=decide ((user,(whoO key:Int))∈gr):=by unfold hasG;rw [h,h2];rfl
end Go.Proofs.YtihfpbaaiedfbaaGreatDoor
