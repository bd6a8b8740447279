/-
  Contracts on exits and on merging into a control block, by value.
-/
import Derived.Test.YtdlcchoemladnaaDoorCtl
import Derived.Laws.StructEq
namespace Go.Proofs.YtdlcchoemladnaaDoor
open Go.RowKit

/-- Is the exit valid? -/
def exitOkT (k p : Int) (wr : Bool) (n : Int) : Bool :=
  if k = 0 ∨ k = 4 then p == 0 && !wr && n == 0 else if k = 1 then inB p 0 3 && n == 0 else if k = 2 ∨ k = 3 then inB n 0 99 && p == 0 && !wr else false
theorem kind_cases (k : Int) : k = 0 ∨ k = 1 ∨ k = 2 ∨ k = 3 ∨ k = 4 ∨ k < 0 ∨ 4 < k := by omega
theorem exitOk_out (k p : Int) (wr : Bool) (n : Int) (h : k < 0 ∨ 4 < k) : exitOkT k p wr n = false := by
  unfold exitOkT
  rw [if_neg (by omega), if_neg (by omega), if_neg (by omega)]
set_option maxHeartbeats 8000000 in
theorem specExitOk_any (k p : Int) (wr : Bool) (n : Int) (w : World) : Calls Tryd.prog 19 #[.agg #[.int .i64 k, .int .i64 p, .bool wr, .int .i64 n]] w fun e w' => e = .returned (.bool (exitOkT k p wr n)) ∧ Keep 0 0 w w' := by
  rcases kind_cases k with rfl | rfl | rfl | rfl | rfl | h | h <;> rcases Bool.eq_false_or_eq_true (p == 0) with h1 | h1 <;> rcases Bool.eq_false_or_eq_true (n == 0) with h2 | h2 <;> cases wr
  all_goals
    go_enter Tryd.func19, Tryd.ntmps19
    go_wp2_with (go_at_call 43; refine (l01In_any _ _ _ _).mono ?_; rintro e w' ⟨rfl, rfl⟩)
    all_goals try (go_quiet ((go_at_call 43; exact Calls.quiet_of_same ((l01In_any _ _ _ _).mono fun _ _ h => ⟨h.1, h.2.symm⟩))); go_wp2)
    all_goals go_ret
    all_goals refine ⟨?_, by first | exact keep_alloc _ _ | exact (keep_alloc _ _).drewN _ | exact keep_alloc2 _ _ _ | exact (keep_alloc2 _ _ _).drewN _⟩
    all_goals first | (rw [exitOk_out k _ _ _ (by omega)]; rfl) | simp [exitOkT, *]
set_option maxHeartbeats 8000000 in
theorem implExitOk_any (k p : Int) (wr : Bool) (n : Int) (w : World) : Calls Tryd.prog 18 #[.agg #[.int .i64 k, .int .i64 p, .bool wr, .int .i64 n]] w fun e w' => e = .returned (.bool (exitOkT k p wr n)) ∧ Keep 0 0 w w' := by
  rcases kind_cases k with rfl | rfl | rfl | rfl | rfl | h | h <;> rcases Bool.eq_false_or_eq_true (p == 0) with h1 | h1 <;> rcases Bool.eq_false_or_eq_true (n == 0) with h2 | h2 <;> cases wr
  all_goals
    go_enter Tryd.func18, Tryd.ntmps18
    go_wp2_with (go_at_call 42; refine (within_any _ _ _ _).mono ?_; rintro e w' ⟨rfl, rfl⟩)
    all_goals try (go_quiet ((go_at_call 42; exact Calls.quiet_of_same ((within_any _ _ _ _).mono fun _ _ h => ⟨h.1, h.2.symm⟩))); go_wp2)
    all_goals go_ret
    all_goals refine ⟨?_, by first | exact keep_alloc _ _ | exact (keep_alloc _ _).drewN _ | exact keep_alloc2 _ _ _ | exact (keep_alloc2 _ _ _).drewN _⟩
    all_goals first | (rw [exitOk_out k _ _ _ (by omega)]; rfl) | simp [exitOkT, *]
end Go.Proofs.YtdlcchoemladnaaDoor
