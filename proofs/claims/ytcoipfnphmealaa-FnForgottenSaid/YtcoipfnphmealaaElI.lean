/-
  What the program's tables say of slices of integers.
-/
import Derived.Test.YtcoipfnphmealaaMem
import Derived.Test.YtcoipfnphmealaaProg
namespace Go.Proofs.Ytcoipfnphmealaa
open Go.RowKit
theorem elInt : Elem Try.prog 37 3 (.int .i64 0) 1 8 :=
  ⟨Try.underlying37, info_parts (by kernel_rfl), rfl, by decide⟩
end Go.Proofs.Ytcoipfnphmealaa
