/-
  Contracts on exits and on merging into a control block, by value.
-/
import Derived.Test.YtifjnehfjcdojaaCtl
import Derived.Laws.StructEq
namespace Go.Proofs.Ytifjnehfjcdojaa
open Go.RowKit

/-- Is the exit valid? -/
def exitOkT (k p : Int) (wr : Bool) (n : Int) : Bool :=
  if k = 0 ∨ k = 4 then p == 0 && !wr && n == 0 else if k = 1 then inB p 0 3 && n == 0 else if k = 2 ∨ k = 3 then inB n 0 99 && p == 0 && !wr else false
theorem kind_cases (k : Int) : k = 0 ∨ k = 1 ∨ k = 2 ∨ k = 3 ∨ k = 4 ∨ k < 0 ∨ 4 < k := by omega
theorem exitOk_out (k p : Int) (wr : Bool) (n : Int) (h : k < 0 ∨ 4 < k) : exitOkT k p wr n = false := by
  unfold exitOkT
  rw [if_neg (by omega), if_neg (by omega), if_neg (by omega)]
set_option maxHeartbeats 8000000 in
theorem specExitOk_any (k p : Int) (wr : Bool) (n : Int) (w : World) : Calls Try.prog 23 #[.agg #[.int .i64 k, .int .i64 p, .bool wr, .int .i64 n]] w fun e w' => e = .returned (.bool (exitOkT k p wr n)) ∧ Keep 0 0 w w' := by
  rcases kind_cases k with rfl | rfl | rfl | rfl | rfl | h | h <;> rcases Bool.eq_false_or_eq_true (p == 0) with h1 | h1 <;> rcases Bool.eq_false_or_eq_true (n == 0) with h2 | h2 <;> cases wr
  all_goals
    go_enter Try.func23, Try.ntmps23
    go_wp2_with (go_at_call 51; refine (l01In_any _ _ _ _).mono ?_; rintro e w' ⟨rfl, rfl⟩)
    all_goals try (go_quiet ((go_at_call 51; exact Calls.quiet_of_same ((l01In_any _ _ _ _).mono fun _ _ h => ⟨h.1, h.2.symm⟩))); go_wp2)
    all_goals go_ret
    all_goals refine ⟨?_, by first | exact keep_alloc _ _ | exact (keep_alloc _ _).drewN _ | exact keep_alloc2 _ _ _ | exact (keep_alloc2 _ _ _).drewN _⟩
    all_goals first | (rw [exitOk_out k _ _ _ (by omega)]; rfl) | simp [exitOkT, *]
set_option maxHeartbeats 8000000 in
theorem implExitOk_any (k p : Int) (wr : Bool) (n : Int) (w : World) : Calls Try.prog 25 #[.agg #[.int .i64 k, .int .i64 p, .bool wr, .int .i64 n]] w fun e w' => e = .returned (.bool (exitOkT k p wr n)) ∧ Keep 0 0 w w' := by
  rcases kind_cases k with rfl | rfl | rfl | rfl | rfl | h | h <;> rcases Bool.eq_false_or_eq_true (p == 0) with h1 | h1 <;> rcases Bool.eq_false_or_eq_true (n == 0) with h2 | h2 <;> cases wr
  all_goals
    go_enter Try.func25, Try.ntmps25
    go_wp2_with (go_at_call 52; refine (within_any _ _ _ _).mono ?_; rintro e w' ⟨rfl, rfl⟩)
    all_goals try (go_quiet ((go_at_call 52; exact Calls.quiet_of_same ((within_any _ _ _ _).mono fun _ _ h => ⟨h.1, h.2.symm⟩))); go_wp2)
    all_goals go_ret
    all_goals refine ⟨?_, by first | exact keep_alloc _ _ | exact (keep_alloc _ _).drewN _ | exact keep_alloc2 _ _ _ | exact (keep_alloc2 _ _ _).drewN _⟩
    all_goals first | (rw [exitOk_out k _ _ _ (by omega)]; rfl) | simp [exitOkT, *]
set_option maxHeartbeats 1000000 in
theorem specMergedCtl_any (u t p : Int) (o : Bool) (w : World) : Calls Try.prog 29 #[.int .i64 u, .agg #[.int .i64 t, .int .i64 p, .bool o]] w fun e w' => e = .returned (.agg #[.int .i64 (mergeT u t), .int .i64 p, .bool o]) ∧ Keep 0 0 w w' := by
  go_enter Try.func29, Try.ntmps29
  go_wp2_with (go_at_call 53; refine (specMergeTraps_any _ _ _).mono ?_; rintro e w' ⟨rfl, rfl⟩)
  go_returns
  exact ⟨rfl, by repeat' (first | exact Keep.refl _ _ _ | (with_reducible refine Keep.alloc ?_ _) | (with_reducible refine Keep.setCell ?_ (.inr (by simp)) _))⟩
set_option maxHeartbeats 1000000 in
theorem implMergedCtl_any (u t p : Int) (o : Bool) (w : World) : Calls Try.prog 30 #[.int .i64 u, .agg #[.int .i64 t, .int .i64 p, .bool o]] w fun e w' => e = .returned (.agg #[.int .i64 (mergeT u t), .int .i64 p, .bool o]) ∧ Keep 0 0 w w' := by
  go_enter Try.func30, Try.ntmps30
  go_wp2_with (go_at_call 54; refine (implMergeTraps_any _ _ _).mono ?_; rintro e w' ⟨rfl, rfl⟩)
  go_returns
  exact ⟨rfl, by repeat' (first | exact Keep.refl _ _ _ | (with_reducible refine Keep.alloc ?_ _) | (with_reducible refine Keep.setCell ?_ (.inr (by simp)) _))⟩
end Go.Proofs.Ytifjnehfjcdojaa
