/-
  The plain law of a server that lets a client in. Conditions: none.
-/
import Derived.Test.YtnhekaepgpbijaaGreatDoorJMsgHG
import Derived.Test.YtnhekaepgpbijaaGreatDoorJSignCG
import Derived.Test.YtnhekaepgpbijaaGreatDoorJFlNG
set_option linter.unusedVariables false
set_option linter.unusedSimpArgs false
set_option maxHeartbeats 40000000
set_option maxRecDepth 100000
namespace Go.Proofs.YtnhekaepgpbijaaGreatDoor
open Go.RowKit
structure SvS where
 ph:Nat
 fl:Nat
structure QI where
 out:List UInt8
 ev:Option (Nat × List UInt8 × List UInt8)
 err:Option (List (List UInt8) × Int)
def Lp:List UInt8:=[97,117,116,104,115]
def Cq:List UInt8:=[115,101,114,118,105,99,101]
def ib:List UInt8:=[115,115,104,45,117,115,101,114,97,117,116,104]
def bA:List UInt8:=[115,115,104,45,99,111,110,110,101,99,116,105,111,110]
def dG:List UInt8:=[112,117,98,108,105,99,107,101,121]
def atF (l:List Fld) (i:Nat):Fld:=(l[i]?).getD ⟨0,0,[],[]⟩
end Go.Proofs.YtnhekaepgpbijaaGreatDoor
