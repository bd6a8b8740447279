/-
  What the program's tables say of slices of integers.
-/
import Derived.Test.YtignedkhklfonaaMem
import Derived.Test.YtignedkhklfonaaProg
namespace Go.Proofs.Ytignedkhklfonaa
open Go.RowKit
theorem elInt : Elem Try.prog 59 3 (.int .i64 0) 1 8 :=
  ⟨Try.underlying59, info_parts (by kernel_rfl), rfl, by decide⟩
end Go.Proofs.Ytignedkhklfonaa
