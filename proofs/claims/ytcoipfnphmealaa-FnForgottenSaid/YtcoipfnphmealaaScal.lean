/-
  Contracts of the small functions on integers: ranges, rights, traps, tags, addresses. Each returns what the Lean function of this text computes and leaves the world alone.
-/
import Derived.Test.YtcoipfnphmealaaProg
import Derived.WalkKit
import Derived.WalkSpells
import Derived.Handy
import Derived.Lib.Hide
namespace Go.Proofs.Ytcoipfnphmealaa
open Go.RowKit

/-- n lies in the range a .. b. -/
def inB (n a b : Int) : Bool := decide (a ≤ n) && decide (n ≤ b)
theorem inB_t {n a b : Int} (h : a ≤ n) (h2 : n ≤ b) : inB n a b = true := by simp [inB, h, h2]
theorem inB_f1 {n a b : Int} (h : n < a) : inB n a b = false := by simp [inB]; omega
theorem inB_f2 {n a b : Int} (h : b < n) : inB n a b = false := by simp [inB]; omega
theorem inB_iff {n a b : Int} : inB n a b = true ↔ a ≤ n ∧ n ≤ b := by simp [inB]
theorem inB_cases (n a b : Int) : (inB n a b = true ∧ a ≤ n ∧ n ≤ b) ∨ (inB n a b = false ∧ (n < a ∨ b < n)) := by
  by_cases h : a ≤ n <;> by_cases h2 : n ≤ b <;> simp [inB, h, h2] <;> omega

theorem within_any (n a b : Int) (w : World) : Calls Try.prog 73 #[.int .i64 n, .int .i64 a, .int .i64 b] w fun e w' => e = .returned (.bool (inB n a b)) ∧ w = w' := by
  by_cases h : a ≤ n <;> by_cases h2 : n ≤ b
  all_goals
    go_enter Try.func73, Try.ntmps73
    go_wp2
    go_ret
    exact ⟨by simp [inB, h, h2], rfl⟩
theorem l01In_any (n a b : Int) (w : World) : Calls Try.prog 72 #[.int .i64 n, .int .i64 a, .int .i64 b] w fun e w' => e = .returned (.bool (inB n a b)) ∧ w = w' := by
  by_cases h : a ≤ n <;> by_cases h2 : n ≤ b
  all_goals
    go_enter Try.func72, Try.ntmps72
    go_wp2
    go_ret
    exact ⟨by simp [inB, h, h2], rfl⟩
theorem has_any (n k : Int) (w : World) : Calls Try.prog 74 #[.int .i64 n, .int .i64 k] w fun e w' => e = .returned (.bool (inB n 0 (k - 1))) ∧ w = w' := by
  by_cases h : 0 ≤ n <;> by_cases h2 : n < k
  all_goals
    go_enter Try.func74, Try.ntmps74
    go_wp2
    go_ret
    refine ⟨?_, rfl⟩
    first | rw [inB_t (by omega) (by omega)] | rw [inB_f1 (by omega)] | rw [inB_f2 (by omega)]
    first | rfl | simp [h, h2]

/-- The cases of a number in a small range. -/
theorem out_of (x lo hi : Int) : (inB x lo hi = false) ∨ (lo ≤ x ∧ x ≤ hi) := by
  by_cases h1 : lo ≤ x <;> by_cases h2 : x ≤ hi <;> simp [inB, h1, h2]

/-- Does 'traps' hold the trap x? -/
def hasT (t x : Int) : Bool := inB t 0 3 && inB x 1 2 && (bits .and .i64 t x != 0)

/-- The merged traps. -/
def mergeT (o i : Int) : Int := if inB o 0 3 && inB i 0 3 then bits .or .i64 o i else -1
/-- The owner of a trap. -/
def ownerT (o i x : Int) : Int := if hasT i x then 1 else if hasT o x then 2 else 0
/-- A guest's tag. -/
def tagT (m g : Int) : Int := if inB m 0 2 && inB g 0 1 then 1 + g + m * 2 else 0
set_option maxHeartbeats 1000000 in
theorem specTagOf_any (m g : Int) (w : World) : Calls Try.prog 42 #[.int .i64 m, .int .i64 g] w fun e w' => e = .returned (.int .i64 (tagT m g)) ∧ w = w' := by
  unfold tagT
  rcases inB_cases m 0 2 with ⟨h1, _, _⟩ | ⟨h1, _⟩ <;> rcases inB_cases g 0 1 with ⟨h2, _, _⟩ | ⟨h2, _⟩
  all_goals
    go_enter Try.func42, Try.ntmps42
    go_wp2_with (go_at_call 72; refine (l01In_any _ _ _ _).mono ?_; rintro e w' ⟨rfl, rfl⟩)
    all_goals go_ret
    all_goals exact ⟨by simp [*], rfl⟩
set_option maxHeartbeats 1000000 in
theorem implTagOf_any (m g : Int) (w : World) : Calls Try.prog 36 #[.int .i64 m, .int .i64 g] w fun e w' => e = .returned (.int .i64 (tagT m g)) ∧ w = w' := by
  unfold tagT
  rcases inB_cases m 0 2 with ⟨h1, _, _⟩ | ⟨h1, _⟩ <;> rcases inB_cases g 0 1 with ⟨h2, _, _⟩ | ⟨h2, _⟩
  all_goals
    go_enter Try.func36, Try.ntmps36
    go_wp2_with (go_at_call 74; refine (has_any _ _ _).mono ?_; rintro e w' ⟨rfl, rfl⟩)
    all_goals go_ret
    all_goals exact ⟨by simp [*], rfl⟩
/-- A bit set, 0 where it is out of range. -/
def rgT (n most : Int) : Int := if inB n 0 most then n else 0
/-- The page of an address; what an access needs. -/
def pageT (a : Int) : Int := if a < 0 then -1 else wrap64 (a.tdiv 4)
def needT (b : Bool) : Int := if b then 2 else 1
end Go.Proofs.Ytcoipfnphmealaa
