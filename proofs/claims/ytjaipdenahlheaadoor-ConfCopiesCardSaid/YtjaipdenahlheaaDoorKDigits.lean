/-
  The contracts of kexinit.Cookie and of the reference's: seven bytes of seven bits. Conditions: none.
-/
import Derived.Test.YtjaipdenahlheaaDoorKBaseG
import Derived.Laws.Bits128
set_option linter.unusedVariables false
set_option linter.unusedSimpArgs false
namespace Go.Proofs.YtjaipdenahlheaaDoor
open Go.RowKit

def dgN (N j : Nat) : Nat := N / 128 ^ (6 - j) % 128
def dig (N : Nat) : List UInt8 := (List.range 7).map fun j => UInt8.ofNat (dgN N j)
def cookie (a b : Int) : List UInt8 := 99 :: (dig a.toNat ++ (dig b.toNat ++ [107]))
end Go.Proofs.YtjaipdenahlheaaDoor
