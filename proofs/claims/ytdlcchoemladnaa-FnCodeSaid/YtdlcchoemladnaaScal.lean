/-
  Contracts of the small functions on integers: ranges, rights, traps, tags, addresses. Each returns what the Lean function of this text computes and leaves the world alone.
-/
import Derived.Test.YtdlcchoemladnaaProg
import Derived.WalkKit
import Derived.WalkSpells
import Derived.Handy
import Derived.Lib.Hide
namespace Go.Proofs.Ytdlcchoemladnaa
open Go.RowKit

/-- n lies in the range a .. b. -/
def inB (n a b : Int) : Bool := decide (a ≤ n) && decide (n ≤ b)
theorem inB_t {n a b : Int} (h : a ≤ n) (h2 : n ≤ b) : inB n a b = true := by simp [inB, h, h2]
theorem inB_f1 {n a b : Int} (h : n < a) : inB n a b = false := by simp [inB]; omega
theorem inB_f2 {n a b : Int} (h : b < n) : inB n a b = false := by simp [inB]; omega
theorem inB_iff {n a b : Int} : inB n a b = true ↔ a ≤ n ∧ n ≤ b := by simp [inB]
theorem inB_cases (n a b : Int) : (inB n a b = true ∧ a ≤ n ∧ n ≤ b) ∨ (inB n a b = false ∧ (n < a ∨ b < n)) := by
  by_cases h : a ≤ n <;> by_cases h2 : n ≤ b <;> simp [inB, h, h2] <;> omega

theorem within_any (n a b : Int) (w : World) : Calls Try.prog 55 #[.int .i64 n, .int .i64 a, .int .i64 b] w fun e w' => e = .returned (.bool (inB n a b)) ∧ w = w' := by
  by_cases h : a ≤ n <;> by_cases h2 : n ≤ b
  all_goals
    go_enter Try.func55, Try.ntmps55
    go_wp2
    go_ret
    exact ⟨by simp [inB, h, h2], rfl⟩
theorem l01In_any (n a b : Int) (w : World) : Calls Try.prog 56 #[.int .i64 n, .int .i64 a, .int .i64 b] w fun e w' => e = .returned (.bool (inB n a b)) ∧ w = w' := by
  by_cases h : a ≤ n <;> by_cases h2 : n ≤ b
  all_goals
    go_enter Try.func56, Try.ntmps56
    go_wp2
    go_ret
    exact ⟨by simp [inB, h, h2], rfl⟩
theorem has_any (n k : Int) (w : World) : Calls Try.prog 65 #[.int .i64 n, .int .i64 k] w fun e w' => e = .returned (.bool (inB n 0 (k - 1))) ∧ w = w' := by
  by_cases h : 0 ≤ n <;> by_cases h2 : n < k
  all_goals
    go_enter Try.func65, Try.ntmps65
    go_wp2
    go_ret
    refine ⟨?_, rfl⟩
    first | rw [inB_t (by omega) (by omega)] | rw [inB_f1 (by omega)] | rw [inB_f2 (by omega)]
    first | rfl | simp [h, h2]

/-- The cases of a number in a small range. -/
theorem out_of (x lo hi : Int) : (inB x lo hi = false) ∨ (lo ≤ x ∧ x ≤ hi) := by
  by_cases h1 : lo ≤ x <;> by_cases h2 : x ≤ hi <;> simp [inB, h1, h2]

/-- Does 'traps' hold the trap x? -/
def hasT (t x : Int) : Bool := inB t 0 3 && inB x 1 2 && (bits .and .i64 t x != 0)
theorem hasT_eqs (x : Int) : (inB x 1 2 = true ∧ (x = 1 ∨ x = 2)) ∨ (inB x 1 2 = false ∧ (x == 1) = false ∧ (x == 2) = false) := by
  rcases inB_cases x 1 2 with ⟨h, h1, h2⟩ | ⟨h, h1⟩
  · exact .inl ⟨h, by omega⟩
  · exact .inr ⟨h, by simp; omega, by simp; omega⟩
set_option maxHeartbeats 1000000 in
theorem specHasTrap_any (t x : Int) (w : World) : Calls Try.prog 26 #[.int .i64 t, .int .i64 x] w fun e w' => e = .returned (.bool (hasT t x)) ∧ w = w' := by
  unfold hasT
  rcases Bool.eq_false_or_eq_true (inB t 0 3) with h1 | h1 <;> rcases Bool.eq_false_or_eq_true (inB x 1 2) with h2 | h2
  all_goals
    go_enter Try.func26, Try.ntmps26
    go_wp2_with (go_at_call 56; refine (l01In_any _ _ _ _).mono ?_; rintro e w' ⟨rfl, rfl⟩)
    all_goals go_ret
    all_goals exact ⟨by simp [*], rfl⟩
set_option maxHeartbeats 1000000 in
theorem implHasTrap_any (t x : Int) (w : World) : Calls Try.prog 45 #[.int .i64 t, .int .i64 x] w fun e w' => e = .returned (.bool (hasT t x)) ∧ w = w' := by
  unfold hasT
  rcases Bool.eq_false_or_eq_true (inB t 0 3) with h1 | h1 <;> rcases hasT_eqs x with ⟨h2, rfl | rfl⟩ | ⟨h2, h3, h4⟩
  all_goals
    go_enter Try.func45, Try.ntmps45
    go_wp2_with (go_at_call 55; refine (within_any _ _ _ _).mono ?_; rintro e w' ⟨rfl, rfl⟩)
    all_goals go_ret
    all_goals exact ⟨by simp [*], rfl⟩

/-- The merged traps. -/
def mergeT (o i : Int) : Int := if inB o 0 3 && inB i 0 3 then bits .or .i64 o i else -1
set_option maxHeartbeats 1000000 in
theorem specMergeTraps_any (o i : Int) (w : World) : Calls Try.prog 24 #[.int .i64 o, .int .i64 i] w fun e w' => e = .returned (.int .i64 (mergeT o i)) ∧ w = w' := by
  unfold mergeT
  rcases Bool.eq_false_or_eq_true (inB o 0 3) with h1 | h1 <;> rcases Bool.eq_false_or_eq_true (inB i 0 3) with h2 | h2
  all_goals
    go_enter Try.func24, Try.ntmps24
    go_wp2_with (go_at_call 56; refine (l01In_any _ _ _ _).mono ?_; rintro e w' ⟨rfl, rfl⟩)
    all_goals go_ret
    all_goals exact ⟨by simp [*], rfl⟩
set_option maxHeartbeats 1000000 in
theorem implMergeTraps_any (o i : Int) (w : World) : Calls Try.prog 23 #[.int .i64 o, .int .i64 i] w fun e w' => e = .returned (.int .i64 (mergeT o i)) ∧ w = w' := by
  unfold mergeT
  rcases Bool.eq_false_or_eq_true (inB o 0 3) with h1 | h1 <;> rcases Bool.eq_false_or_eq_true (inB i 0 3) with h2 | h2
  all_goals
    go_enter Try.func23, Try.ntmps23
    go_wp2_with (go_at_call 55; refine (within_any _ _ _ _).mono ?_; rintro e w' ⟨rfl, rfl⟩)
    all_goals go_ret
    all_goals exact ⟨by simp [*], rfl⟩
/-- The owner of a trap. -/
def ownerT (o i x : Int) : Int := if hasT i x then 1 else if hasT o x then 2 else 0
set_option maxHeartbeats 1000000 in
theorem specOwnerOf_any (o i x : Int) (w : World) : Calls Try.prog 17 #[.int .i64 o, .int .i64 i, .int .i64 x] w fun e w' => e = .returned (.int .i64 (ownerT o i x)) ∧ w = w' := by
  unfold ownerT
  rcases Bool.eq_false_or_eq_true (hasT i x) with h1 | h1 <;> rcases Bool.eq_false_or_eq_true (hasT o x) with h2 | h2
  all_goals
    go_enter Try.func17, Try.ntmps17
    go_wp2_with (go_at_call 26; refine (specHasTrap_any _ _ _).mono ?_; rintro e w' ⟨rfl, rfl⟩)
    all_goals go_ret
    all_goals exact ⟨by simp [*], rfl⟩
set_option maxHeartbeats 1000000 in
theorem implOwnerOf_any (o i x : Int) (w : World) : Calls Try.prog 12 #[.int .i64 o, .int .i64 i, .int .i64 x] w fun e w' => e = .returned (.int .i64 (ownerT o i x)) ∧ w = w' := by
  unfold ownerT
  rcases Bool.eq_false_or_eq_true (hasT i x) with h1 | h1 <;> rcases Bool.eq_false_or_eq_true (hasT o x) with h2 | h2
  all_goals
    go_enter Try.func12, Try.ntmps12
    go_wp2_with (go_at_call 45; refine (implHasTrap_any _ _ _).mono ?_; rintro e w' ⟨rfl, rfl⟩)
    all_goals go_ret
    all_goals exact ⟨by simp [*], rfl⟩
/-- A guest's tag. -/
def tagT (m g : Int) : Int := if inB m 0 2 && inB g 0 1 then 1 + g + m * 2 else 0
/-- A bit set, 0 where it is out of range. -/
def rgT (n most : Int) : Int := if inB n 0 most then n else 0
theorem l12Within_any (n most : Int) (w : World) : Calls Try.prog 54 #[.int .i64 n, .int .i64 most] w fun e w' => e = .returned (.int .i64 (rgT n most)) ∧ w = w' := by
  unfold rgT
  rcases Bool.eq_false_or_eq_true (inB n 0 most) with h1 | h1
  all_goals
    go_enter Try.func54, Try.ntmps54
    go_wp2_with (go_at_call 56; refine (l01In_any _ _ _ _).mono ?_; rintro e w' ⟨rfl, rfl⟩)
    all_goals go_ret
    all_goals exact ⟨by simp [*], rfl⟩
theorem ranged_any (n most : Int) (w : World) : Calls Try.prog 53 #[.int .i64 n, .int .i64 most] w fun e w' => e = .returned (.int .i64 (rgT n most)) ∧ w = w' := by
  unfold rgT
  rcases Bool.eq_false_or_eq_true (inB n 0 most) with h1 | h1
  all_goals
    go_enter Try.func53, Try.ntmps53
    go_wp2_with (go_at_call 55; refine (within_any _ _ _ _).mono ?_; rintro e w' ⟨rfl, rfl⟩)
    all_goals go_ret
    all_goals exact ⟨by simp [*], rfl⟩
/-- The page of an address; what an access needs. -/
def pageT (a : Int) : Int := if a < 0 then -1 else wrap64 (a.tdiv 4)
def needT (b : Bool) : Int := if b then 2 else 1
theorem specAddrPage_any (a : Int) (w : World) : Calls Try.prog 61 #[.int .i64 a] w fun e w' => e = .returned (.int .i64 (pageT a)) ∧ w = w' := by
  unfold pageT
  by_cases h : a < 0
  all_goals
    go_enter Try.func61, Try.ntmps61
    go_wp2
    go_ret
    exact ⟨by simp [*], rfl⟩
theorem implAddrPage_any (a : Int) (w : World) : Calls Try.prog 59 #[.int .i64 a] w fun e w' => e = .returned (.int .i64 (pageT a)) ∧ w = w' := by
  unfold pageT
  by_cases h : a < 0
  all_goals
    go_enter Try.func59, Try.ntmps59
    go_wp2
    go_ret
    exact ⟨by simp [*], rfl⟩
theorem specNeedOf_any (b : Bool) (w : World) : Calls Try.prog 62 #[.bool b] w fun e w' => e = .returned (.int .i64 (needT b)) ∧ w = w' := by
  cases b
  all_goals
    go_enter Try.func62, Try.ntmps62
    go_wp2
    go_ret
    exact ⟨rfl, rfl⟩
theorem implNeedOf_any (b : Bool) (w : World) : Calls Try.prog 60 #[.bool b] w fun e w' => e = .returned (.int .i64 (needT b)) ∧ w = w' := by
  cases b
  all_goals
    go_enter Try.func60, Try.ntmps60
    go_wp2
    go_ret
    exact ⟨rfl, rfl⟩
end Go.Proofs.Ytdlcchoemladnaa
