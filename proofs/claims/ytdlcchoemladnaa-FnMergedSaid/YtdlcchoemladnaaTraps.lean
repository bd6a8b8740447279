/-
  Contracts of the functions that return short slices of integers: the faults of a control block, the owners of the traps, the tags of a hypervisor.
-/
import Derived.Test.YtdlcchoemladnaaScal
import Derived.Test.YtdlcchoemladnaaElI
import Derived.WalkKit
import Derived.WalkSpells
import Derived.Handy
namespace Go.Proofs.Ytdlcchoemladnaa
open Go.RowKit

/-- The faults of a control block. -/
def faultsT (t p : Int) (o : Bool) : List Int :=
  (if inB t 0 3 then [] else [1]) ++ (if inB p 0 255 then [] else [2]) ++ (if (p != 0) && !o then [3] else []) ++ (if (t == 2) && (p != 0) then [4] else [])

set_option maxHeartbeats 4000000 in
theorem specCtlFaults_any (t p : Int) (o : Bool) (w : World) : Calls Try.prog 57 #[.agg #[.int .i64 t, .int .i64 p, .bool o]] w fun e w' =>
    ∃ v, e = .returned v ∧ Row w' w.heap.size w'.heap.size 3 1 v (ints (faultsT t p o)) ∧ Keep 0 0 w w' := by
  have hb0 := Bld.lit (B := w.heap.size + 1) (w.alloc (.cells #[.int .i64 t, .int .i64 p, .bool o] 25)) 3 1 (by simp) (g := w.heap.size + 1) (by simp)
  rcases Bool.eq_false_or_eq_true (inB t 0 3) with h1 | h1 <;> rcases Bool.eq_false_or_eq_true (inB p 0 255) with h2 | h2 <;> rcases Bool.eq_false_or_eq_true (p != 0) with h3 | h3 <;>
    rcases Bool.eq_false_or_eq_true o with rfl | rfl <;> rcases Bool.eq_false_or_eq_true (t == 2) with h4 | h4
  all_goals
    go_enter Try.func57, Try.ntmps57
    go_wp2_with (first
      | (go_at_call 56; refine (l01In_any _ _ _ _).mono ?_; rintro e w' ⟨rfl, rfl⟩)
      | (at_builtin; refine wpList_append_one rfl _ _ 37 rfl elInt rfl (by assumption) 1 [_] _ rfl (by simp) rfl (by simp [Value.oneCell']) (by omega) (by unfold maxLen; omega) (fun v' w' hb' hsz => ?_); have c0 := (hb'.cell (p := ⟨w.heap.size, 0, none⟩) (by simp)).trans (by simp; rfl); have c1 := (hb'.cell (p := ⟨w.heap.size, 1, none⟩) (by simp)).trans (by simp; rfl); have c2 := (hb'.cell (p := ⟨w.heap.size, 2, none⟩) (by simp)).trans (by simp; rfl)))
    go_ret
    exact ⟨_, rfl, bld_post (by assumption) (by simp [faultsT, ints, *])⟩
set_option maxHeartbeats 4000000 in
theorem implCtlFaults_any (t p : Int) (o : Bool) (w : World) : Calls Try.prog 67 #[.agg #[.int .i64 t, .int .i64 p, .bool o]] w fun e w' =>
    ∃ v, e = .returned v ∧ Row w' w.heap.size w'.heap.size 3 1 v (ints (faultsT t p o)) ∧ Keep 0 0 w w' := by
  have hb0 := Bld.lit (B := w.heap.size + 1) (w.alloc (.cells #[.int .i64 t, .int .i64 p, .bool o] 25)) 3 1 (by simp) (g := w.heap.size + 1) (by simp)
  rcases Bool.eq_false_or_eq_true (inB t 0 3) with h1 | h1 <;> rcases Bool.eq_false_or_eq_true (inB p 0 255) with h2 | h2 <;> rcases Bool.eq_false_or_eq_true (p != 0) with h3 | h3 <;>
    rcases Bool.eq_false_or_eq_true o with rfl | rfl <;> rcases Bool.eq_false_or_eq_true (t == 2) with h4 | h4
  all_goals
    go_enter Try.func67, Try.ntmps67
    go_wp2_with (first
      | (go_at_call 55; refine (within_any _ _ _ _).mono ?_; rintro e w' ⟨rfl, rfl⟩)
      | (at_builtin; refine wpList_append_one rfl _ _ 37 rfl elInt rfl (by assumption) 1 [_] _ rfl (by simp) rfl (by simp [Value.oneCell']) (by omega) (by unfold maxLen; omega) (fun v' w' hb' hsz => ?_); have c0 := (hb'.cell (p := ⟨w.heap.size, 0, none⟩) (by simp)).trans (by simp; rfl); have c1 := (hb'.cell (p := ⟨w.heap.size, 1, none⟩) (by simp)).trans (by simp; rfl); have c2 := (hb'.cell (p := ⟨w.heap.size, 2, none⟩) (by simp)).trans (by simp; rfl)))
    go_ret
    exact ⟨_, rfl, bld_post (by assumption) (by simp [faultsT, ints, *])⟩
set_option maxHeartbeats 1000000 in
theorem specOwnersOf_any (o i : Int) (w : World) : Calls Try.prog 20 #[.int .i64 o, .int .i64 i] w fun e w' =>
    ∃ v, e = .returned v ∧ Row w' w.heap.size w'.heap.size 3 1 v (ints [ownerT o i 1, ownerT o i 2]) ∧ Keep 0 0 w w' := by
  go_enter Try.func20, Try.ntmps20
  go_wp2_with (go_at_call 17; refine (specOwnerOf_any _ _ _ _).mono ?_; rintro e w' ⟨rfl, rfl⟩)
  go_ret
  exact ⟨_, rfl, Row.lit w 3 (sz := 1) (cs := ints [ownerT o i 1, ownerT o i 2]) 2 rfl (by unfold maxLen; omega), (Keep.refl 0 0 w).alloc _⟩
set_option maxHeartbeats 1000000 in
theorem implOwnersOf_any (o i : Int) (w : World) : Calls Try.prog 19 #[.int .i64 o, .int .i64 i] w fun e w' =>
    ∃ v, e = .returned v ∧ Row w' w.heap.size w'.heap.size 3 1 v (ints [ownerT o i 1, ownerT o i 2]) ∧ Keep 0 0 w w' := by
  go_enter Try.func19, Try.ntmps19
  go_wp2_with (go_at_call 12; refine (implOwnerOf_any _ _ _ _).mono ?_; rintro e w' ⟨rfl, rfl⟩)
  go_ret
  exact ⟨_, rfl, Row.lit w 3 (sz := 1) (cs := ints [ownerT o i 1, ownerT o i 2]) 2 rfl (by unfold maxLen; omega), (Keep.refl 0 0 w).alloc _⟩

/-- The tags of a hypervisor. -/
def tagsT (m : Int) : List Int := if inB m 0 2 then [tagT m 0, tagT m 1] else []
end Go.Proofs.Ytdlcchoemladnaa
