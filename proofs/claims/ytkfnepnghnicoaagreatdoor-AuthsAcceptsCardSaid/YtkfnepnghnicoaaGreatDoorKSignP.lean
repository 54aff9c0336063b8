/-
  What a user signs, as plain data: unlike requests have unlike signatures, and no host's signature of a hash is a user's. Conditions: none.
-/
import Derived.Test.YtkfnepnghnicoaaGreatDoorKPureA
set_option linter.unusedVariables false
set_option linter.unusedSimpArgs false
set_option maxHeartbeats 40000000
set_option maxRecDepth 100000
namespace Go.Proofs.YtkfnepnghnicoaaGreatDoor
def numB:ByteArray:=⟨#[50]⟩
def mthB:ByteArray:=⟨#[112,117,98,108,105,99,107,101,121]⟩
def sgnB:ByteArray:=⟨#[1]⟩
def reqL (s:Option Tm) (user service alg:ByteArray) (key:Option Tm):List (Option Tm):=[s,tData numB,tData user,tData service,tData mthB,tData sgnB,tData alg,key]
def reqO (s:Option Tm) (user service alg:ByteArray) (key:Option Tm):Option Tm:=tList (reqL s user service alg key)
def userO (s:Option Tm) (user service alg:ByteArray) (who:Int):Option Tm:=tSign alg (tKey who) (reqO s user service alg (tPub (tKey who)))
end Go.Proofs.YtkfnepnghnicoaaGreatDoor
