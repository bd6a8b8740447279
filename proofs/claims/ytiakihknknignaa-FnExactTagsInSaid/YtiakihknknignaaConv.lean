/-
  Contracts of the helpers that turn one struct of the statements into the program's, and that compare two of the program's.
-/
import Derived.Test.YtiakihknknignaaMem
import Derived.Test.YtiakihknknignaaProg
import Derived.WalkKit
import Derived.WalkSpells
import Derived.Handy
import Derived.Deep.QuietTactic
import Derived.BigQuiet
namespace Go.Proofs.Ytiakihknknignaa
open Go.RowKit

set_option maxHeartbeats 1000000 in
theorem toIns_any (t p : Int) (w : World) : Calls Try.prog 61 #[.agg #[.int .i64 t, .int .i64 p]] w fun e w' => e = .returned (.agg #[.int .i64 t, .int .i64 p]) ∧ Keep 0 0 w w' := by
  go_enter Try.func61, Try.ntmps61
  go_wp2
  go_returns
  exact ⟨rfl, by repeat' (first | exact Keep.refl _ _ _ | (with_reducible refine Keep.alloc ?_ _) | (with_reducible refine Keep.setCell ?_ (.inr (by first | (simp; done) | (simp; omega))) _))⟩
set_option maxHeartbeats 1000000 in
theorem toEntry_any (t p h r : Int) (w : World) : Calls Try.prog 31 #[.agg #[.int .i64 t, .int .i64 p, .int .i64 h, .int .i64 r]] w fun e w' => e = .returned (.agg #[.int .i64 t, .int .i64 p, .int .i64 h, .int .i64 r]) ∧ Keep 0 0 w w' := by
  go_enter Try.func31, Try.ntmps31
  go_wp2
  go_returns
  exact ⟨rfl, by repeat' (first | exact Keep.refl _ _ _ | (with_reducible refine Keep.alloc ?_ _) | (with_reducible refine Keep.setCell ?_ (.inr (by first | (simp; done) | (simp; omega))) _))⟩
/-- Are two lists of integers the same? -/
def sameL (xs ys : List Int) : Bool := decide (xs = ys)
set_option maxHeartbeats 1000000 in
theorem eqEntry_any (a b c d a' b' c' d' : Int) (w : World) : Calls Try.prog 18 #[.agg #[.int .i64 a, .int .i64 b, .int .i64 c, .int .i64 d], .agg #[.int .i64 a', .int .i64 b', .int .i64 c', .int .i64 d']] w fun e w' => e = .returned (.bool (sameL [a, b, c, d] [a', b', c', d'])) ∧ Keep 0 0 w w' := by
  by_cases h1 : a = a'
  · subst h1
    by_cases h2 : b = b'
    · subst h2
      by_cases h3 : c = c'
      · subst h3
        by_cases h4 : d = d'
        · subst h4
          go_enter Try.func18, Try.ntmps18
          go_wp2
          go_ret
          exact ⟨by simp [sameL], keep_2 _ _ _⟩
        · have e4 : (d != d') = true := by simp [h4]
          go_enter Try.func18, Try.ntmps18
          go_wp2
          go_ret
          exact ⟨by simp [sameL, h4], keep_2 _ _ _⟩
      · have e3 : (c != c') = true := by simp [h3]
        go_enter Try.func18, Try.ntmps18
        go_wp2
        go_ret
        exact ⟨by simp [sameL, h3], keep_2 _ _ _⟩
    · have e2 : (b != b') = true := by simp [h2]
      go_enter Try.func18, Try.ntmps18
      go_wp2
      go_ret
      exact ⟨by simp [sameL, h2], keep_2 _ _ _⟩
  · have e1 : (a != a') = true := by simp [h1]
    go_enter Try.func18, Try.ntmps18
    go_wp2
    go_ret
    exact ⟨by simp [sameL, h1], keep_2 _ _ _⟩
set_option maxHeartbeats 1000000 in
theorem eqIns_any (a b a' b' : Int) (w : World) : Calls Try.prog 44 #[.agg #[.int .i64 a, .int .i64 b], .agg #[.int .i64 a', .int .i64 b']] w fun e w' => e = .returned (.bool (sameL [a, b] [a', b'])) ∧ Keep 0 0 w w' := by
  by_cases h1 : a = a'
  · subst h1
    by_cases h2 : b = b'
    · subst h2
      go_enter Try.func44, Try.ntmps44
      go_wp2
      go_ret
      exact ⟨by simp [sameL], keep_2 _ _ _⟩
    · have e2 : (b != b') = true := by simp [h2]
      go_enter Try.func44, Try.ntmps44
      go_wp2
      go_ret
      exact ⟨by simp [sameL, h2], keep_2 _ _ _⟩
  · have e1 : (a != a') = true := by simp [h1]
    go_enter Try.func44, Try.ntmps44
    go_wp2
    go_ret
    exact ⟨by simp [sameL, h1], keep_2 _ _ _⟩
end Go.Proofs.Ytiakihknknignaa
