/-
  What is kept anew (small counts).
-/
import Derived.Test.YtcoipfnphmealaaCoA
namespace Go.Proofs.Ytcoipfnphmealaa
open Go.RowKit

set_option maxHeartbeats 2000000 in
theorem implBrought_in (n : Int) (h0 : 0 ≤ n) (h1 : n ≤ 24) (w : World) : Calls Try.prog 78 #[.int .i64 n, .int .i64 0, .int .i64 24] w fun e w' => e = .returned (.int .i64 n) ∧ w = w' := by
  have d0 : decide (n < 0) = false := by simp; omega
  have d1 : decide ((24 : Int) < 0) = false := rfl
  have hm : min n 24 = n := by omega
  go_enter Try.func78, Try.ntmps78
  go_wp2
  go_ret
  exact ⟨by simp, rfl⟩
end Go.Proofs.Ytcoipfnphmealaa
