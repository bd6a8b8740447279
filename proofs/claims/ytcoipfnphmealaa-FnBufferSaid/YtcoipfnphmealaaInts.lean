/-
  Contracts of eqIntS, markIntS, heldIntS of the statements' own helpers: comparing two slices of integers; writing the numbers k, k+1, .. into a slice; asking whether they still stand there.
-/
import Derived.Test.YtcoipfnphmealaaProg
import Derived.Test.YtcoipfnphmealaaMem
import Derived.WalkKit
import Derived.WalkSpells
import Derived.Deep.QuietTactic
import Derived.BigQuiet
namespace Go.Proofs.Ytcoipfnphmealaa
open Go.RowKit

end Go.Proofs.Ytcoipfnphmealaa
