/-
  Contracts on exits and on merging into a control block, by value.
-/
import Derived.Test.YtdlcchoemladnaaCtl
import Derived.Laws.StructEq
namespace Go.Proofs.Ytdlcchoemladnaa
open Go.RowKit

/-- Is the exit valid? -/
def exitOkT (k p : Int) (wr : Bool) (n : Int) : Bool :=
  if k = 0 ∨ k = 4 then p == 0 && !wr && n == 0 else if k = 1 then inB p 0 3 && n == 0 else if k = 2 ∨ k = 3 then inB n 0 99 && p == 0 && !wr else false
theorem kind_cases (k : Int) : k = 0 ∨ k = 1 ∨ k = 2 ∨ k = 3 ∨ k = 4 ∨ k < 0 ∨ 4 < k := by omega
theorem exitOk_out (k p : Int) (wr : Bool) (n : Int) (h : k < 0 ∨ 4 < k) : exitOkT k p wr n = false := by
  unfold exitOkT
  rw [if_neg (by omega), if_neg (by omega), if_neg (by omega)]
set_option maxHeartbeats 1000000 in
theorem specMergedCtl_any (u t p : Int) (o : Bool) (w : World) : Calls Try.prog 16 #[.int .i64 u, .agg #[.int .i64 t, .int .i64 p, .bool o]] w fun e w' => e = .returned (.agg #[.int .i64 (mergeT u t), .int .i64 p, .bool o]) ∧ Keep 0 0 w w' := by
  go_enter Try.func16, Try.ntmps16
  go_wp2_with (go_at_call 24; refine (specMergeTraps_any _ _ _).mono ?_; rintro e w' ⟨rfl, rfl⟩)
  go_returns
  exact ⟨rfl, by repeat' (first | exact Keep.refl _ _ _ | (with_reducible refine Keep.alloc ?_ _) | (with_reducible refine Keep.setCell ?_ (.inr (by simp)) _))⟩
set_option maxHeartbeats 1000000 in
theorem implMergedCtl_any (u t p : Int) (o : Bool) (w : World) : Calls Try.prog 10 #[.int .i64 u, .agg #[.int .i64 t, .int .i64 p, .bool o]] w fun e w' => e = .returned (.agg #[.int .i64 (mergeT u t), .int .i64 p, .bool o]) ∧ Keep 0 0 w w' := by
  go_enter Try.func10, Try.ntmps10
  go_wp2_with (go_at_call 23; refine (implMergeTraps_any _ _ _).mono ?_; rintro e w' ⟨rfl, rfl⟩)
  go_returns
  exact ⟨rfl, by repeat' (first | exact Keep.refl _ _ _ | (with_reducible refine Keep.alloc ?_ _) | (with_reducible refine Keep.setCell ?_ (.inr (by simp)) _))⟩
end Go.Proofs.Ytdlcchoemladnaa
