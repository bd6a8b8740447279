/-
  Contracts of the laws' own comparisons of slices that read the same: sameEntrys, sameInts, sameSlots, sameInss.
-/
import Derived.Test.YtcoipfnphmealaaMem
import Derived.Test.YtcoipfnphmealaaProg
import Derived.WalkKit
import Derived.WalkSpells
import Derived.Deep.QuietTactic
import Derived.BigQuiet
import Derived.Laws.StructEq
namespace Go.Proofs.Ytcoipfnphmealaa
open Go.RowKit

theorem cells_at {w : World} {b off n sz k : Nat} {xs : List Int} (hl : xs.length = n * sz) (hc : ∀ j u, (ints xs)[j]? = some u → w.cell? ⟨b, off + j, none⟩ = some u) (hk : k < n) (q : Nat) (hq : q < sz) :
    ∃ x, xs[k * sz + q]? = some x ∧ w.cell? ⟨b, off + k * sz + q, none⟩ = some (.int .i64 x) := by
  have hlt : k * sz + q < xs.length := by
    have h1 : (k + 1) * sz ≤ n * sz := Nat.mul_le_mul_right _ hk
    rw [Nat.succ_mul] at h1
    omega
  refine ⟨xs[k * sz + q], List.getElem?_eq_getElem hlt, ?_⟩
  rw [Nat.add_assoc]
  exact hc _ _ (ints_get xs _ hlt)
set_option maxHeartbeats 4000000 in
theorem sameEntrys_eq (w : World) (h1 h2 : Nat) (va vb : Value) (xs : List Int) (ra : Rd w h1 4 va (ints xs)) (rb : Rd w h2 4 vb (ints xs)) :
    Calls Try.prog 13 #[va, vb] w fun e w' => e = .returned (.bool true) ∧ Dr w w' := by
  obtain ⟨A, n, c, rfl, hn, hm, hl, ha⟩ := ra
  obtain ⟨B, n', c', rfl, hn', hm', hl', hb⟩ := rb
  rw [ints_length] at hl hl'
  unfold maxLen at hm hm'
  obtain rfl : n' = n := by omega
  have hm2 : n' ≤ 9223372036854775807 := by omega
  have HL := Lib.hid hl
  clear hl hl'
  go_enter Try.func13, Try.ntmps13
  go_wp2
  go_loopw [5] (fun i wr => ∃ k m : Nat, k ≤ n' ∧ i = .int .i64 k ∧ wr = w.drewN m) (fun i _ => n' - (intOf i).toNat)
  case atStart => exact ⟨0, 0, Nat.zero_le _, rfl, rfl⟩
  case round =>
    obtain ⟨k, m, hk, rfl, rfl⟩ := hrel
    by_cases hlt : k < n'
    · obtain ⟨b, off, rfl, hb1, hca⟩ := ha (by omega)
      obtain ⟨b', off', rfl, hb2, hcb⟩ := hb (by omega)
      obtain ⟨x0, g0, c0⟩ := cells_at HL.out hca hlt 0 (by omega)
      obtain ⟨y0, e0, d0⟩ := cells_at HL.out hcb hlt 0 (by omega)
      obtain rfl : x0 = y0 := Option.some.inj (g0.symm.trans e0)
      clear g0 e0
      rw [Nat.add_zero] at c0 d0
      obtain ⟨x1, g1, c1⟩ := cells_at HL.out hca hlt 1 (by omega)
      obtain ⟨y1, e1, d1⟩ := cells_at HL.out hcb hlt 1 (by omega)
      obtain rfl : x1 = y1 := Option.some.inj (g1.symm.trans e1)
      clear g1 e1
      obtain ⟨x2, g2, c2⟩ := cells_at HL.out hca hlt 2 (by omega)
      obtain ⟨y2, e2, d2⟩ := cells_at HL.out hcb hlt 2 (by omega)
      obtain rfl : x2 = y2 := Option.some.inj (g2.symm.trans e2)
      clear g2 e2
      obtain ⟨x3, g3, c3⟩ := cells_at HL.out hca hlt 3 (by omega)
      obtain ⟨y3, e3, d3⟩ := cells_at HL.out hcb hlt 3 (by omega)
      obtain rfl : x3 = y3 := Option.some.inj (g3.symm.trans e3)
      clear g3 e3
      clear hca hcb ha hb
      go_wp2
      all_goals try (go_quiet (fail); go_wp2)
      go_roundw
      case rel => exact ⟨k + 1, _, by omega, by go_num, rfl⟩
      case measure => simp [intOf]; omega
    · obtain rfl : k = n' := by omega
      go_wp2
      go_ret
      exact ⟨rfl, _, rfl⟩
set_option maxHeartbeats 4000000 in
theorem sameInts_eq (w : World) (h1 h2 : Nat) (va vb : Value) (xs : List Int) (ra : Rd w h1 1 va (ints xs)) (rb : Rd w h2 1 vb (ints xs)) :
    Calls Try.prog 20 #[va, vb] w fun e w' => e = .returned (.bool true) ∧ Dr w w' := by
  obtain ⟨A, n, c, rfl, hn, hm, hl, ha⟩ := ra
  obtain ⟨B, n', c', rfl, hn', hm', hl', hb⟩ := rb
  rw [ints_length] at hl hl'
  unfold maxLen at hm hm'
  obtain rfl : n' = n := by omega
  have hm2 : n' ≤ 9223372036854775807 := by omega
  have HL := Lib.hid hl
  clear hl hl'
  go_enter Try.func20, Try.ntmps20
  go_wp2
  go_loopw [5] (fun i wr => ∃ k m : Nat, k ≤ n' ∧ i = .int .i64 k ∧ wr = w.drewN m) (fun i _ => n' - (intOf i).toNat)
  case atStart => exact ⟨0, 0, Nat.zero_le _, rfl, rfl⟩
  case round =>
    obtain ⟨k, m, hk, rfl, rfl⟩ := hrel
    by_cases hlt : k < n'
    · obtain ⟨b, off, rfl, hb1, hca⟩ := ha (by omega)
      obtain ⟨b', off', rfl, hb2, hcb⟩ := hb (by omega)
      obtain ⟨x0, g0, c0⟩ := cells_at HL.out hca hlt 0 (by omega)
      obtain ⟨y0, e0, d0⟩ := cells_at HL.out hcb hlt 0 (by omega)
      obtain rfl : x0 = y0 := Option.some.inj (g0.symm.trans e0)
      clear g0 e0
      rw [Nat.add_zero] at c0 d0
      rw [Nat.mul_one] at c0 d0
      clear hca hcb ha hb
      go_wp2
      all_goals try (go_quiet (fail); go_wp2)
      go_roundw
      case rel => exact ⟨k + 1, _, by omega, by go_num, rfl⟩
      case measure => simp [intOf]; omega
    · obtain rfl : k = n' := by omega
      go_wp2
      go_ret
      exact ⟨rfl, _, rfl⟩
set_option maxHeartbeats 4000000 in
theorem sameSlots_eq (w : World) (h1 h2 : Nat) (va vb : Value) (xs : List Int) (ra : Rd w h1 2 va (ints xs)) (rb : Rd w h2 2 vb (ints xs)) :
    Calls Try.prog 49 #[va, vb] w fun e w' => e = .returned (.bool true) ∧ Dr w w' := by
  obtain ⟨A, n, c, rfl, hn, hm, hl, ha⟩ := ra
  obtain ⟨B, n', c', rfl, hn', hm', hl', hb⟩ := rb
  rw [ints_length] at hl hl'
  unfold maxLen at hm hm'
  obtain rfl : n' = n := by omega
  have hm2 : n' ≤ 9223372036854775807 := by omega
  have HL := Lib.hid hl
  clear hl hl'
  go_enter Try.func49, Try.ntmps49
  go_wp2
  go_loopw [5] (fun i wr => ∃ k m : Nat, k ≤ n' ∧ i = .int .i64 k ∧ wr = w.drewN m) (fun i _ => n' - (intOf i).toNat)
  case atStart => exact ⟨0, 0, Nat.zero_le _, rfl, rfl⟩
  case round =>
    obtain ⟨k, m, hk, rfl, rfl⟩ := hrel
    by_cases hlt : k < n'
    · obtain ⟨b, off, rfl, hb1, hca⟩ := ha (by omega)
      obtain ⟨b', off', rfl, hb2, hcb⟩ := hb (by omega)
      obtain ⟨x0, g0, c0⟩ := cells_at HL.out hca hlt 0 (by omega)
      obtain ⟨y0, e0, d0⟩ := cells_at HL.out hcb hlt 0 (by omega)
      obtain rfl : x0 = y0 := Option.some.inj (g0.symm.trans e0)
      clear g0 e0
      rw [Nat.add_zero] at c0 d0
      obtain ⟨x1, g1, c1⟩ := cells_at HL.out hca hlt 1 (by omega)
      obtain ⟨y1, e1, d1⟩ := cells_at HL.out hcb hlt 1 (by omega)
      obtain rfl : x1 = y1 := Option.some.inj (g1.symm.trans e1)
      clear g1 e1
      clear hca hcb ha hb
      go_wp2
      all_goals try (go_quiet (fail); go_wp2)
      go_roundw
      case rel => exact ⟨k + 1, _, by omega, by go_num, rfl⟩
      case measure => simp [intOf]; omega
    · obtain rfl : k = n' := by omega
      go_wp2
      go_ret
      exact ⟨rfl, _, rfl⟩
end Go.Proofs.Ytcoipfnphmealaa
