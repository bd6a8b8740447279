/-
  Contracts of the statements' size helpers at any allowance left.
-/
import Derived.Test.YtignedkhklfonaaTwo
namespace Go.Proofs.Ytignedkhklfonaa
open Go.RowKit
/-- What is left of an allowance; -1 where it does not suffice. -/
def leftT (L : Int) (n : Nat) : Int := if (n : Int) ≤ L then L - n else -1
theorem leftT_in {L : Int} {n : Nat} (h : (n : Int) ≤ L) : leftT L n = L - n := if_pos h
theorem leftT_out {L : Int} {n : Nat} (h : ¬ (n : Int) ≤ L) : leftT L n = -1 := if_neg h
theorem szSlotS_gen (A : Option Addr) (n c : Nat) (L : Int) (hn : n ≤ 9223372036854775807) (h0 : 0 ≤ L) (h1 : L ≤ 1048576) (w : World) : Calls Try.prog 9 #[.slice A n c, .int .i64 L] w fun e w' => e = .returned (.int .i64 (leftT L n)) ∧ w = w' := by
  unfold leftT
  by_cases h : (n : Int) ≤ L
  all_goals
    go_enter Try.func9, Try.ntmps9
    go_wp2
    go_ret
    exact ⟨by simp [*], rfl⟩
end Go.Proofs.Ytignedkhklfonaa
