/-
  Contracts of the functions that return short slices of integers: the faults of a control block, the owners of the traps, the tags of a hypervisor.
-/
import Derived.Test.YtdlcchoemladnaaDoorScal
import Derived.Test.YtdlcchoemladnaaDoorElI
import Derived.WalkKit
import Derived.WalkSpells
import Derived.Handy
namespace Go.Proofs.YtdlcchoemladnaaDoor
open Go.RowKit

/-- The faults of a control block. -/
def faultsT (t p : Int) (o : Bool) : List Int :=
  (if inB t 0 3 then [] else [1]) ++ (if inB p 0 255 then [] else [2]) ++ (if (p != 0) && !o then [3] else []) ++ (if (t == 2) && (p != 0) then [4] else [])

set_option maxHeartbeats 4000000 in
theorem specCtlFaults_any (t p : Int) (o : Bool) (w : World) : Calls Tryd.prog 30 #[.agg #[.int .i64 t, .int .i64 p, .bool o]] w fun e w' =>
    ∃ v, e = .returned v ∧ Row w' w.heap.size w'.heap.size 3 1 v (ints (faultsT t p o)) ∧ Keep 0 0 w w' := by
  have hb0 := Bld.lit (B := w.heap.size + 1) (w.alloc (.cells #[.int .i64 t, .int .i64 p, .bool o] 38)) 3 1 (by simp) (g := w.heap.size + 1) (by simp)
  rcases Bool.eq_false_or_eq_true (inB t 0 3) with h1 | h1 <;> rcases Bool.eq_false_or_eq_true (inB p 0 255) with h2 | h2 <;> rcases Bool.eq_false_or_eq_true (p != 0) with h3 | h3 <;>
    rcases Bool.eq_false_or_eq_true o with rfl | rfl <;> rcases Bool.eq_false_or_eq_true (t == 2) with h4 | h4
  all_goals
    go_enter Tryd.func30, Tryd.ntmps30
    go_wp2_with (first
      | (go_at_call 43; refine (l01In_any _ _ _ _).mono ?_; rintro e w' ⟨rfl, rfl⟩)
      | (at_builtin; refine wpList_append_one rfl _ _ 35 rfl elInt rfl (by assumption) 1 [_] _ rfl (by simp) rfl (by simp [Value.oneCell']) (by omega) (by unfold maxLen; omega) (fun v' w' hb' hsz => ?_); have c0 := (hb'.cell (p := ⟨w.heap.size, 0, none⟩) (by simp)).trans (by simp; rfl); have c1 := (hb'.cell (p := ⟨w.heap.size, 1, none⟩) (by simp)).trans (by simp; rfl); have c2 := (hb'.cell (p := ⟨w.heap.size, 2, none⟩) (by simp)).trans (by simp; rfl)))
    go_ret
    exact ⟨_, rfl, bld_post (by assumption) (by simp [faultsT, ints, *])⟩
set_option maxHeartbeats 4000000 in
theorem implCtlFaults_any (t p : Int) (o : Bool) (w : World) : Calls Tryd.prog 26 #[.agg #[.int .i64 t, .int .i64 p, .bool o]] w fun e w' =>
    ∃ v, e = .returned v ∧ Row w' w.heap.size w'.heap.size 3 1 v (ints (faultsT t p o)) ∧ Keep 0 0 w w' := by
  have hb0 := Bld.lit (B := w.heap.size + 1) (w.alloc (.cells #[.int .i64 t, .int .i64 p, .bool o] 38)) 3 1 (by simp) (g := w.heap.size + 1) (by simp)
  rcases Bool.eq_false_or_eq_true (inB t 0 3) with h1 | h1 <;> rcases Bool.eq_false_or_eq_true (inB p 0 255) with h2 | h2 <;> rcases Bool.eq_false_or_eq_true (p != 0) with h3 | h3 <;>
    rcases Bool.eq_false_or_eq_true o with rfl | rfl <;> rcases Bool.eq_false_or_eq_true (t == 2) with h4 | h4
  all_goals
    go_enter Tryd.func26, Tryd.ntmps26
    go_wp2_with (first
      | (go_at_call 42; refine (within_any _ _ _ _).mono ?_; rintro e w' ⟨rfl, rfl⟩)
      | (at_builtin; refine wpList_append_one rfl _ _ 35 rfl elInt rfl (by assumption) 1 [_] _ rfl (by simp) rfl (by simp [Value.oneCell']) (by omega) (by unfold maxLen; omega) (fun v' w' hb' hsz => ?_); have c0 := (hb'.cell (p := ⟨w.heap.size, 0, none⟩) (by simp)).trans (by simp; rfl); have c1 := (hb'.cell (p := ⟨w.heap.size, 1, none⟩) (by simp)).trans (by simp; rfl); have c2 := (hb'.cell (p := ⟨w.heap.size, 2, none⟩) (by simp)).trans (by simp; rfl)))
    go_ret
    exact ⟨_, rfl, bld_post (by assumption) (by simp [faultsT, ints, *])⟩

/-- The tags of a hypervisor. -/
def tagsT (m : Int) : List Int := if inB m 0 2 then [tagT m 0, tagT m 1] else []
end Go.Proofs.YtdlcchoemladnaaDoor
