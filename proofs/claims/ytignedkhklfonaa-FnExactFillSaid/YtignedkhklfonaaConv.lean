/-
  Contracts of the helpers that turn one struct of the statements into the program's, and that compare two of the program's.
-/
import Derived.Test.YtignedkhklfonaaMem
import Derived.Test.YtignedkhklfonaaProg
import Derived.WalkKit
import Derived.WalkSpells
import Derived.Handy
import Derived.Deep.QuietTactic
import Derived.BigQuiet
namespace Go.Proofs.Ytignedkhklfonaa
open Go.RowKit

set_option maxHeartbeats 1000000 in
theorem toSlot_any (t p : Int) (w : World) : Calls Try.prog 31 #[.agg #[.int .i64 t, .int .i64 p]] w fun e w' => e = .returned (.agg #[.int .i64 t, .int .i64 p]) ∧ Keep 0 0 w w' := by
  go_enter Try.func31, Try.ntmps31
  go_wp2
  go_returns
  exact ⟨rfl, by repeat' (first | exact Keep.refl _ _ _ | (with_reducible refine Keep.alloc ?_ _) | (with_reducible refine Keep.setCell ?_ (.inr (by first | (simp; done) | (simp; omega))) _))⟩
/-- Are two lists of integers the same? -/
def sameL (xs ys : List Int) : Bool := decide (xs = ys)
set_option maxHeartbeats 1000000 in
theorem eqSlot_any (a b a' b' : Int) (w : World) : Calls Try.prog 35 #[.agg #[.int .i64 a, .int .i64 b], .agg #[.int .i64 a', .int .i64 b']] w fun e w' => e = .returned (.bool (sameL [a, b] [a', b'])) ∧ Keep 0 0 w w' := by
  by_cases h1 : a = a'
  · subst h1
    by_cases h2 : b = b'
    · subst h2
      go_enter Try.func35, Try.ntmps35
      go_wp2
      go_ret
      exact ⟨by simp [sameL], keep_2 _ _ _⟩
    · have e2 : (b != b') = true := by simp [h2]
      go_enter Try.func35, Try.ntmps35
      go_wp2
      go_ret
      exact ⟨by simp [sameL, h2], keep_2 _ _ _⟩
  · have e1 : (a != a') = true := by simp [h1]
    go_enter Try.func35, Try.ntmps35
    go_wp2
    go_ret
    exact ⟨by simp [sameL, h1], keep_2 _ _ _⟩
end Go.Proofs.Ytignedkhklfonaa
