/-
  Contracts of the helpers that turn one struct of the statements into the program's, and that compare two of the program's.
-/
import Derived.Test.YtifjnehfjcdojaaMem
import Derived.Test.YtifjnehfjcdojaaProg
import Derived.WalkKit
import Derived.WalkSpells
import Derived.Handy
import Derived.Deep.QuietTactic
import Derived.BigQuiet
namespace Go.Proofs.Ytifjnehfjcdojaa
open Go.RowKit

set_option maxHeartbeats 1000000 in
theorem toCtl_any (t p : Int) (o : Bool) (w : World) : Calls Try.prog 21 #[.agg #[.int .i64 t, .int .i64 p, .bool o]] w fun e w' => e = .returned (.agg #[.int .i64 t, .int .i64 p, .bool o]) ∧ Keep 0 0 w w' := by
  go_enter Try.func21, Try.ntmps21
  go_wp2
  go_returns
  exact ⟨rfl, by repeat' (first | exact Keep.refl _ _ _ | (with_reducible refine Keep.alloc ?_ _) | (with_reducible refine Keep.setCell ?_ (.inr (by first | (simp; done) | (simp; omega))) _))⟩
set_option maxHeartbeats 1000000 in
theorem toIns_any (t p : Int) (w : World) : Calls Try.prog 27 #[.agg #[.int .i64 t, .int .i64 p]] w fun e w' => e = .returned (.agg #[.int .i64 t, .int .i64 p]) ∧ Keep 0 0 w w' := by
  go_enter Try.func27, Try.ntmps27
  go_wp2
  go_returns
  exact ⟨rfl, by repeat' (first | exact Keep.refl _ _ _ | (with_reducible refine Keep.alloc ?_ _) | (with_reducible refine Keep.setCell ?_ (.inr (by first | (simp; done) | (simp; omega))) _))⟩
/-- Are two lists of integers the same? -/
def sameL (xs ys : List Int) : Bool := decide (xs = ys)
set_option maxHeartbeats 1000000 in
theorem eqCtl_same (t p : Int) (o : Bool) (w : World) : Calls Try.prog 31 #[.agg #[.int .i64 t, .int .i64 p, .bool o], .agg #[.int .i64 t, .int .i64 p, .bool o]] w fun e w' => e = .returned (.bool true) ∧ Keep 0 0 w w' := by
  go_enter Try.func31, Try.ntmps31
  go_wp2
  go_ret
  exact ⟨rfl, by repeat' (first | exact Keep.refl _ _ _ | (with_reducible refine Keep.alloc ?_ _))⟩
end Go.Proofs.Ytifjnehfjcdojaa
