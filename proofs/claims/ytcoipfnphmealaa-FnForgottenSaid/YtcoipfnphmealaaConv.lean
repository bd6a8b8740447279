/-
  Contracts of the helpers that turn one struct of the statements into the program's, and that compare two of the program's.
-/
import Derived.Test.YtcoipfnphmealaaMem
import Derived.Test.YtcoipfnphmealaaProg
import Derived.WalkKit
import Derived.WalkSpells
import Derived.Handy
import Derived.Deep.QuietTactic
import Derived.BigQuiet
namespace Go.Proofs.Ytcoipfnphmealaa
open Go.RowKit

/-- Are two lists of integers the same? -/
def sameL (xs ys : List Int) : Bool := decide (xs = ys)
end Go.Proofs.Ytcoipfnphmealaa
