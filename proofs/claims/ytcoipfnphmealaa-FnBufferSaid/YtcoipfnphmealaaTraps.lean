/-
  Contracts of the functions that return short slices of integers: the faults of a control block, the owners of the traps, the tags of a hypervisor.
-/
import Derived.Test.YtcoipfnphmealaaScal
import Derived.Test.YtcoipfnphmealaaElI
import Derived.WalkKit
import Derived.WalkSpells
import Derived.Handy
namespace Go.Proofs.Ytcoipfnphmealaa
open Go.RowKit

/-- The faults of a control block. -/
def faultsT (t p : Int) (o : Bool) : List Int :=
  (if inB t 0 3 then [] else [1]) ++ (if inB p 0 255 then [] else [2]) ++ (if (p != 0) && !o then [3] else []) ++ (if (t == 2) && (p != 0) then [4] else [])


/-- The tags of a hypervisor. -/
def tagsT (m : Int) : List Int := if inB m 0 2 then [tagT m 0, tagT m 1] else []
set_option maxHeartbeats 2000000 in
theorem specTagsOf_any (m : Int) (w : World) : Calls Try.prog 44 #[.int .i64 m] w fun e w' =>
    ∃ v, e = .returned v ∧ Row w' w.heap.size w'.heap.size 3 1 v (ints (tagsT m)) ∧ Keep 0 0 w w' := by
  have hb0 := Bld.lit (B := w.heap.size) w 3 1 (by simp) (g := w.heap.size) rfl
  rcases Bool.eq_false_or_eq_true (inB m 0 2) with h1 | h1
  · go_enter Try.func44, Try.ntmps44
    go_wp2_with (go_at_call 72; refine (l01In_any _ _ _ _).mono ?_; rintro e w' ⟨rfl, rfl⟩)
    refine wp_loop_rounds 3 ?_
    rw [rounds_succ]
    go_wp2_with (first | (go_at_call 72; refine (l01In_any _ _ _ _).mono ?_; rintro e w' ⟨rfl, rfl⟩) | (go_at_call 42; refine (specTagOf_any _ _ _).mono ?_; rintro e w' ⟨rfl, rfl⟩) | (at_builtin; refine wpList_append_one rfl _ _ 37 rfl elInt rfl (by assumption) 1 [_] _ rfl (by simp) rfl (by simp [Value.oneCell']) (by omega) (by unfold maxLen; omega) (fun v' w' hb' hsz => ?_)))
    rw [rounds_succ]
    go_wp2_with (first | (go_at_call 72; refine (l01In_any _ _ _ _).mono ?_; rintro e w' ⟨rfl, rfl⟩) | (go_at_call 42; refine (specTagOf_any _ _ _).mono ?_; rintro e w' ⟨rfl, rfl⟩) | (at_builtin; refine wpList_append_one rfl _ _ 37 rfl elInt rfl (by assumption) 1 [_] _ rfl (by simp) rfl (by simp [Value.oneCell']) (by omega) (by unfold maxLen; omega) (fun v' w' hb' hsz => ?_)))
    rw [rounds_succ]
    go_wp2_with (first | (go_at_call 72; refine (l01In_any _ _ _ _).mono ?_; rintro e w' ⟨rfl, rfl⟩) | (go_at_call 42; refine (specTagOf_any _ _ _).mono ?_; rintro e w' ⟨rfl, rfl⟩) | (at_builtin; refine wpList_append_one rfl _ _ 37 rfl elInt rfl (by assumption) 1 [_] _ rfl (by simp) rfl (by simp [Value.oneCell']) (by omega) (by unfold maxLen; omega) (fun v' w' hb' hsz => ?_)))
    go_ret
    exact ⟨_, rfl, bld_post0 (by assumption) (by simp [tagsT, ints, *])⟩
  · go_enter Try.func44, Try.ntmps44
    go_wp2_with (go_at_call 72; refine (l01In_any _ _ _ _).mono ?_; rintro e w' ⟨rfl, rfl⟩)
    refine wp_loop_rounds 1 ?_
    rw [rounds_succ]
    go_wp2_with (go_at_call 72; refine (l01In_any _ _ _ _).mono ?_; rintro e w' ⟨rfl, rfl⟩)
    go_ret
    exact ⟨_, rfl, bld_post0 (by assumption) (by simp [tagsT, ints, *])⟩
set_option maxHeartbeats 2000000 in
theorem implTagsOf_any (m : Int) (w : World) : Calls Try.prog 38 #[.int .i64 m] w fun e w' =>
    ∃ v, e = .returned v ∧ Row w' w.heap.size w'.heap.size 3 1 v (ints (tagsT m)) ∧ Keep 0 0 w w' := by
  have hb0 := Bld.lit (B := w.heap.size) w 3 1 (by simp) (g := w.heap.size) rfl
  rcases Bool.eq_false_or_eq_true (inB m 0 2) with h1 | h1
  · go_enter Try.func38, Try.ntmps38
    go_wp2_with (go_at_call 74; refine (has_any _ _ _).mono ?_; rintro e w' ⟨rfl, rfl⟩)
    refine wp_loop_rounds 3 ?_
    rw [rounds_succ]
    go_wp2_with (first | (go_at_call 74; refine (has_any _ _ _).mono ?_; rintro e w' ⟨rfl, rfl⟩) | (go_at_call 36; refine (implTagOf_any _ _ _).mono ?_; rintro e w' ⟨rfl, rfl⟩) | (at_builtin; refine wpList_append_one rfl _ _ 37 rfl elInt rfl (by assumption) 1 [_] _ rfl (by simp) rfl (by simp [Value.oneCell']) (by omega) (by unfold maxLen; omega) (fun v' w' hb' hsz => ?_)))
    rw [rounds_succ]
    go_wp2_with (first | (go_at_call 74; refine (has_any _ _ _).mono ?_; rintro e w' ⟨rfl, rfl⟩) | (go_at_call 36; refine (implTagOf_any _ _ _).mono ?_; rintro e w' ⟨rfl, rfl⟩) | (at_builtin; refine wpList_append_one rfl _ _ 37 rfl elInt rfl (by assumption) 1 [_] _ rfl (by simp) rfl (by simp [Value.oneCell']) (by omega) (by unfold maxLen; omega) (fun v' w' hb' hsz => ?_)))
    rw [rounds_succ]
    go_wp2_with (first | (go_at_call 74; refine (has_any _ _ _).mono ?_; rintro e w' ⟨rfl, rfl⟩) | (go_at_call 36; refine (implTagOf_any _ _ _).mono ?_; rintro e w' ⟨rfl, rfl⟩) | (at_builtin; refine wpList_append_one rfl _ _ 37 rfl elInt rfl (by assumption) 1 [_] _ rfl (by simp) rfl (by simp [Value.oneCell']) (by omega) (by unfold maxLen; omega) (fun v' w' hb' hsz => ?_)))
    go_ret
    exact ⟨_, rfl, bld_post0 (by assumption) (by simp [tagsT, ints, *])⟩
  · go_enter Try.func38, Try.ntmps38
    go_wp2_with (go_at_call 74; refine (has_any _ _ _).mono ?_; rintro e w' ⟨rfl, rfl⟩)
    go_ret
    exact ⟨_, rfl, bld_post0 (Bld.nil0 w 3 1 (Nat.le_refl _)) (by simp [tagsT, ints, *])⟩
end Go.Proofs.Ytcoipfnphmealaa
