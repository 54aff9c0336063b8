/-
  Whether all that two peers say at the beginning is the same: the contracts of kexinit.Same and of the statements' own Same. Conditions: the arguments read as data.
-/
import Derived.Test.YtjaipdenahlheaaDoorKPrfG
set_option linter.unusedVariables false
set_option linter.unusedSimpArgs false
namespace Go.Proofs.YtjaipdenahlheaaDoor
open Go.RowKit

/-- What a peer says: a cookie, eight lists, two lists of languages, five marks. -/
structure Ini where
  c : ByteArray
  ss : List (List ByteArray)
  x0 : List ByteArray
  x1 : List ByteArray
  b0 : Bool
  b1 : Bool
  b2 : Bool
  b3 : Bool
  b4 : Bool
  deriving DecidableEq
end Go.Proofs.YtjaipdenahlheaaDoor
