/-
  What the program's tables say of slices of integers.
-/
import Derived.Test.YtdlcchoemladnaaDoorMem
import Derived.Test.YtdlcchoemladnaaDoorProg
namespace Go.Proofs.YtdlcchoemladnaaDoor
open Go.RowKit
theorem elInt : Elem Tryd.prog 35 3 (.int .i64 0) 1 8 :=
  ⟨Tryd.underlying35, info_parts (by kernel_rfl), rfl, by decide⟩
end Go.Proofs.YtdlcchoemladnaaDoor
