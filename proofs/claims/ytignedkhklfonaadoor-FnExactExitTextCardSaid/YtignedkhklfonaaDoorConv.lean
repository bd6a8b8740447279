/-
  Contracts of the helpers that turn one struct of the statements into the program's, and that compare two of the program's.
-/
import Derived.Test.YtignedkhklfonaaDoorMem
import Derived.Test.YtignedkhklfonaaDoorProg
import Derived.WalkKit
import Derived.WalkSpells
import Derived.Handy
import Derived.Deep.QuietTactic
import Derived.BigQuiet
namespace Go.Proofs.YtignedkhklfonaaDoor
open Go.RowKit

set_option maxHeartbeats 1000000 in
theorem toCtl_any (t p : Int) (o : Bool) (w : World) : Calls Tryd.prog 6 #[.agg #[.int .i64 t, .int .i64 p, .bool o]] w fun e w' => e = .returned (.agg #[.int .i64 t, .int .i64 p, .bool o]) ∧ Keep 0 0 w w' := by
  go_enter Tryd.func6, Tryd.ntmps6
  go_wp2
  go_returns
  exact ⟨rfl, by repeat' (first | exact Keep.refl _ _ _ | (with_reducible refine Keep.alloc ?_ _) | (with_reducible refine Keep.setCell ?_ (.inr (by first | (simp; done) | (simp; omega))) _))⟩
set_option maxHeartbeats 1000000 in
theorem toExit_any (k p : Int) (b : Bool) (n : Int) (w : World) : Calls Tryd.prog 9 #[.agg #[.int .i64 k, .int .i64 p, .bool b, .int .i64 n]] w fun e w' => e = .returned (.agg #[.int .i64 k, .int .i64 p, .bool b, .int .i64 n]) ∧ Keep 0 0 w w' := by
  go_enter Tryd.func9, Tryd.ntmps9
  go_wp2
  go_returns
  exact ⟨rfl, by repeat' (first | exact Keep.refl _ _ _ | (with_reducible refine Keep.alloc ?_ _) | (with_reducible refine Keep.setCell ?_ (.inr (by first | (simp; done) | (simp; omega))) _))⟩
/-- Are two lists of integers the same? -/
def sameL (xs ys : List Int) : Bool := decide (xs = ys)
end Go.Proofs.YtignedkhklfonaaDoor
