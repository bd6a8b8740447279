/-
  Contracts of the functions on slots and rights: a slot of a table, the rights that two have in common, a slot composed with a table.
-/
import Derived.Test.YtcoipfnphmealaaPair
import Derived.Test.YtcoipfnphmealaaScal
import Derived.Test.YtcoipfnphmealaaKeep
namespace Go.Proofs.Ytcoipfnphmealaa
open Go.RowKit

def slotAtT (t : List Two) (p : Int) : Two := if inB p 0 ((t.length : Int) - 1) then t.getD p.toNat (-1, 0) else (-1, 0)
def bothT (a b : Int) : Int := if inB a 0 3 && inB b 0 3 then bits .and .i64 a b else 0
def compT (a : Two) (t : List Two) : Two :=
  if a.1 == -1 || (slotAtT t a.1).1 == -1 || bothT a.2 (slotAtT t a.1).2 == 0 then (-1, 0) else ((slotAtT t a.1).1, bothT a.2 (slotAtT t a.1).2)
theorem Keep.cellsX {w w' : World} (h : Keep 0 0 w w') {q j : Nat} {v : Value} (hq : q < w.heap.size) (hc : w.cell? ⟨q, j, none⟩ = some v) : ∀ X, (w'.alloc X).cell? ⟨q, j, none⟩ = some v := fun X => (h.alloc X).cells hq hc
theorem Keep.freeX {w w' : World} (h : Keep 0 0 w w') {q j : Nat} (hq : q < w.heap.size) (hc : w.frozen? ⟨q, j, none⟩ = false) : ∀ X, (w'.alloc X).frozen? ⟨q, j, none⟩ = false := fun X => (h.alloc X).free hq hc
theorem specNoSlot_any (w : World) : Calls Try.prog 85 #[] w fun e w' => e = .returned (.agg #[.int .i64 (-1), .int .i64 0]) ∧ Keep 0 0 w w' := by
  go_enter Try.func85, Try.ntmps85
  go_wp2
  go_returns
  exact ⟨rfl, by repeat' (first | exact Keep.refl _ _ _ | (with_reducible refine Keep.alloc ?_ _) | (with_reducible refine Keep.setCell ?_ (.inr (by first | (simp; done) | (simp; omega))) _))⟩
theorem specBothRights_any (a b : Int) (w : World) : Calls Try.prog 102 #[.int .i64 a, .int .i64 b] w fun e w' => e = .returned (.int .i64 (bothT a b)) ∧ w = w' := by
  unfold bothT
  rcases Bool.eq_false_or_eq_true (inB a 0 3) with h1 | h1 <;> rcases Bool.eq_false_or_eq_true (inB b 0 3) with h2 | h2
  all_goals
    go_enter Try.func102, Try.ntmps102
    go_wp2_with (first | (go_at_call 121; go_in) | (go_at_call 72; refine (l01In_any _ _ _ _).mono ?_; rintro e w' ⟨rfl, rfl⟩))
    all_goals go_ret
    all_goals exact ⟨by simp [*], rfl⟩
theorem implNoSlot_any (w : World) : Calls Try.prog 82 #[] w fun e w' => e = .returned (.agg #[.int .i64 (-1), .int .i64 0]) ∧ Keep 0 0 w w' := by
  go_enter Try.func82, Try.ntmps82
  go_wp2
  go_returns
  exact ⟨rfl, by repeat' (first | exact Keep.refl _ _ _ | (with_reducible refine Keep.alloc ?_ _) | (with_reducible refine Keep.setCell ?_ (.inr (by first | (simp; done) | (simp; omega))) _))⟩
theorem implBothRights_any (a b : Int) (w : World) : Calls Try.prog 98 #[.int .i64 a, .int .i64 b] w fun e w' => e = .returned (.int .i64 (bothT a b)) ∧ w = w' := by
  unfold bothT
  rcases Bool.eq_false_or_eq_true (inB a 0 3) with h1 | h1 <;> rcases Bool.eq_false_or_eq_true (inB b 0 3) with h2 | h2
  all_goals
    go_enter Try.func98, Try.ntmps98
    go_wp2_with (first | (go_at_call 117; go_in) | (go_at_call 73; refine (within_any _ _ _ _).mono ?_; rintro e w' ⟨rfl, rfl⟩))
    all_goals go_ret
    all_goals exact ⟨by simp [*], rfl⟩
set_option maxHeartbeats 2000000 in
theorem specSlotAt_to (w : World) (hi : Nat) (v : Value) (l : List Two) (p x0 x1 : Int) (hr : Rd w hi 2 v (ints (twosI l))) (hE : slotAtT l p = (x0, x1)) :
    Calls Try.prog 101 #[v, .int .i64 p] w fun e w' => e = .returned (.agg #[.int .i64 x0, .int .i64 x1]) ∧ Keep 0 0 w w' := by
  obtain ⟨A, n, c, rfl, hn, hm, hl, ha⟩ := hr
  rw [ints_length, twosI_length] at hl
  unfold maxLen at hm
  have hm2 : n ≤ 9223372036854775807 := by omega
  have hln : l.length = n := by omega
  have HL := Lib.hid hln
  have HE := Lib.hid hE
  clear hl hE
  rcases inB_cases p 0 ((n : Int) - 1) with ⟨hi1, hp0, hp1⟩ | ⟨hi1, _⟩
  · obtain ⟨k, rfl⟩ := Int.eq_ofNat_of_zero_le hp0
    have hkn : k < n := by omega
    obtain ⟨b, off, rfl, hb1, hc⟩ := ha (by omega)
    obtain ⟨y0, y1, hy, c0, c1, bA⟩ := twos_at HL.out hc hkn
    have HY := Lib.hid (show (y0, y1) = (x0, x1) from by
      have h1 := get_of_take hy (by omega)
      have h2 := HE.out
      unfold slotAtT at h2
      rw [HL.out, hi1, if_pos rfl] at h2
      rw [← h2, List.getD_eq_getElem?_getD, show (k : Int).toNat = k from rfl, h1]
      rfl)
    have d0 : ∀ X, (w.alloc X).cell? ⟨b, off + k * 2, none⟩ = some (.int .i64 y0) := (Keep.refl 0 0 w).cellsX bA c0
    have d1 : ∀ X, (w.alloc X).cell? ⟨b, off + k * 2 + 1, none⟩ = some (.int .i64 y1) := (Keep.refl 0 0 w).cellsX bA c1
    clear hc ha hy c0 c1 hln
    go_enter Try.func101, Try.ntmps101
    go_wp2_with (go_at_call 72; refine (l01In_any _ _ _ _).mono ?_; rintro e w' ⟨rfl, rfl⟩)
    go_returns
    have h := HY.out
    injection h with h1 h2
    exact ⟨by rw [h1, h2], by repeat' (first | exact Keep.refl _ _ _ | (with_reducible refine Keep.alloc ?_ _) | (with_reducible refine Keep.setCell ?_ (.inr (Nat.le_refl _)) _))⟩
  · have HY := Lib.hid (show ((-1 : Int), (0 : Int)) = (x0, x1) from by
      have h2 := HE.out
      unfold slotAtT at h2
      rw [HL.out, hi1] at h2
      exact h2)
    have K0 := keep_1 w (.cells #[.int .i64 0, .int .i64 0] 67)
    clear ha hln
    go_enter Try.func101, Try.ntmps101
    go_wp2_with (first | (go_at_call 72; refine (l01In_any _ _ _ _).mono ?_; rintro e w' ⟨rfl, rfl⟩) | fail)
    refine (specNoSlot_any _).mono ?_
    rintro e w1 ⟨rfl, k1⟩
    have r0 : w1.cell? ⟨w.heap.size, 0, none⟩ = some (.int .i64 0) := k1.cells (by simp) (by go_cell)
    have r1 : w1.cell? ⟨w.heap.size, 1, none⟩ = some (.int .i64 0) := k1.cells (by simp) (by go_cell)
    have f0 : w1.frozen? ⟨w.heap.size, 0, none⟩ = false := k1.free (by simp) (by simp)
    have f1 : w1.frozen? ⟨w.heap.size, 1, none⟩ = false := k1.free (by simp) (by simp)
    have K1 := K0.tr0 k1
    clear K0 k1
    go_wp2
    refine bodyPost_ret (v := .agg #[.int .i64 (-1), .int .i64 0]) (by simp [results, Try.results101, go_sem, r0, r1]) rfl ?_
    have h := HY.out
    injection h with h1 h2
    exact ⟨by rw [h1, h2], (K1.setCell (.inr (Nat.le_refl _)) _).setCell (.inr (Nat.le_refl _)) _⟩
set_option maxHeartbeats 2000000 in
theorem implSlotAt_to (w : World) (hi : Nat) (v : Value) (l : List Two) (p x0 x1 : Int) (hr : Rd w hi 2 v (ints (twosI l))) (hE : slotAtT l p = (x0, x1)) :
    Calls Try.prog 97 #[v, .int .i64 p] w fun e w' => e = .returned (.agg #[.int .i64 x0, .int .i64 x1]) ∧ Keep 0 0 w w' := by
  obtain ⟨A, n, c, rfl, hn, hm, hl, ha⟩ := hr
  rw [ints_length, twosI_length] at hl
  unfold maxLen at hm
  have hm2 : n ≤ 9223372036854775807 := by omega
  have hln : l.length = n := by omega
  have HL := Lib.hid hln
  have HE := Lib.hid hE
  clear hl hE
  rcases inB_cases p 0 ((n : Int) - 1) with ⟨hi1, hp0, hp1⟩ | ⟨hi1, _⟩
  · obtain ⟨k, rfl⟩ := Int.eq_ofNat_of_zero_le hp0
    have hkn : k < n := by omega
    obtain ⟨b, off, rfl, hb1, hc⟩ := ha (by omega)
    obtain ⟨y0, y1, hy, c0, c1, bA⟩ := twos_at HL.out hc hkn
    have HY := Lib.hid (show (y0, y1) = (x0, x1) from by
      have h1 := get_of_take hy (by omega)
      have h2 := HE.out
      unfold slotAtT at h2
      rw [HL.out, hi1, if_pos rfl] at h2
      rw [← h2, List.getD_eq_getElem?_getD, show (k : Int).toNat = k from rfl, h1]
      rfl)
    have d0 : ∀ X, (w.alloc X).cell? ⟨b, off + k * 2, none⟩ = some (.int .i64 y0) := (Keep.refl 0 0 w).cellsX bA c0
    have d1 : ∀ X, (w.alloc X).cell? ⟨b, off + k * 2 + 1, none⟩ = some (.int .i64 y1) := (Keep.refl 0 0 w).cellsX bA c1
    clear hc ha hy c0 c1 hln
    go_enter Try.func97, Try.ntmps97
    go_wp2_with (go_at_call 74; refine (has_any _ _ _).mono ?_; rintro e w' ⟨rfl, rfl⟩)
    go_returns
    have h := HY.out
    injection h with h1 h2
    exact ⟨by rw [h1, h2], by repeat' (first | exact Keep.refl _ _ _ | (with_reducible refine Keep.alloc ?_ _) | (with_reducible refine Keep.setCell ?_ (.inr (Nat.le_refl _)) _))⟩
  · have HY := Lib.hid (show ((-1 : Int), (0 : Int)) = (x0, x1) from by
      have h2 := HE.out
      unfold slotAtT at h2
      rw [HL.out, hi1] at h2
      exact h2)
    have K0 := keep_1 w (.cells #[.int .i64 0, .int .i64 0] 67)
    clear ha hln
    go_enter Try.func97, Try.ntmps97
    go_wp2_with (first | (go_at_call 74; refine (has_any _ _ _).mono ?_; rintro e w' ⟨rfl, rfl⟩) | fail)
    refine (implNoSlot_any _).mono ?_
    rintro e w1 ⟨rfl, k1⟩
    have r0 : w1.cell? ⟨w.heap.size, 0, none⟩ = some (.int .i64 0) := k1.cells (by simp) (by go_cell)
    have r1 : w1.cell? ⟨w.heap.size, 1, none⟩ = some (.int .i64 0) := k1.cells (by simp) (by go_cell)
    have f0 : w1.frozen? ⟨w.heap.size, 0, none⟩ = false := k1.free (by simp) (by simp)
    have f1 : w1.frozen? ⟨w.heap.size, 1, none⟩ = false := k1.free (by simp) (by simp)
    have K1 := K0.tr0 k1
    clear K0 k1
    go_wp2
    refine bodyPost_ret (v := .agg #[.int .i64 (-1), .int .i64 0]) (by simp [results, Try.results97, go_sem, r0, r1]) rfl ?_
    have h := HY.out
    injection h with h1 h2
    exact ⟨by rw [h1, h2], (K1.setCell (.inr (Nat.le_refl _)) _).setCell (.inr (Nat.le_refl _)) _⟩
set_option maxHeartbeats 4000000 in
theorem specComposeSlot_to (w : World) (hi : Nat) (v : Value) (l : List Two) (a0 a1 x0 x1 : Int) (hr : Rd w hi 2 v (ints (twosI l))) (hhi : hi ≤ w.heap.size) (hE : compT (a0, a1) l = (x0, x1)) :
    Calls Try.prog 86 #[.agg #[.int .i64 a0, .int .i64 a1], v] w fun e w' => e = .returned (.agg #[.int .i64 x0, .int .i64 x1]) ∧ Keep 0 0 w w' := by
  obtain ⟨s0, s1, hs⟩ : ∃ s0 s1, slotAtT l a0 = (s0, s1) := ⟨_, _, rfl⟩
  have K0 := keep_2 w (.cells #[.int .i64 a0, .int .i64 a1] 67) (.cells #[.int .i64 0, .int .i64 0] 67)
  have hr1 := hr.keep K0 hhi (.inr (Nat.le_refl 0))
  have hE2 : (if a0 == -1 || s0 == -1 || bothT a1 s1 == 0 then ((-1 : Int), (0 : Int)) else (s0, bothT a1 s1)) = (x0, x1) := by rw [← hE]; unfold compT; rw [hs]
  have HS := Lib.hid hs
  have HE := Lib.hid hE2
  clear hE hs hE2 hr
  rcases Bool.eq_false_or_eq_true (a0 == -1) with q1 | q1 <;> rcases Bool.eq_false_or_eq_true (s0 == -1) with q2 | q2 <;> rcases Bool.eq_false_or_eq_true (bothT a1 s1 == 0) with q3 | q3
  all_goals
    have HF := HE.out
    rw [q1, q2, q3] at HF
    have HG := Lib.hid HF
    clear HF HE
    go_enter Try.func86, Try.ntmps86
    go_wp2_with fail
    refine (specSlotAt_to _ _ _ l a0 s0 s1 hr1 HS.out).mono ?_
    rintro e w1 ⟨rfl, k1⟩
    have b0 := k1.cellsX (q := w.heap.size) (j := 0) (v := .int .i64 a0) (by simp; omega) (by first | go_cell | (simp [go_sem]; done))
    have b1 := k1.cellsX (q := w.heap.size) (j := 1) (v := .int .i64 a1) (by simp; omega) (by first | go_cell | (simp [go_sem]; done))
    have r0 := k1.cellsX (q := w.heap.size + 1) (j := 0) (v := .int .i64 0) (by simp) (by first | go_cell | (simp [go_sem]; done))
    have r1 := k1.cellsX (q := w.heap.size + 1) (j := 1) (v := .int .i64 0) (by simp) (by first | go_cell | (simp [go_sem]; done))
    have f0 := k1.freeX (q := w.heap.size + 1) (j := 0) (by simp) (by first | (simp [go_sem]; done) | simp)
    have f1 := k1.freeX (q := w.heap.size + 1) (j := 1) (by simp) (by first | (simp [go_sem]; done) | simp)
    have K1 := (K0.tr0 k1).alloc (.cells #[.int .i64 s0, .int .i64 s1] 67)
    have R0 := Lib.hid (r0 (.cells #[.int .i64 s0, .int .i64 s1] 67))
    have R1 := Lib.hid (r1 (.cells #[.int .i64 s0, .int .i64 s1] 67))
    have F0 := Lib.hid (f0 (.cells #[.int .i64 s0, .int .i64 s1] 67))
    have F1 := Lib.hid (f1 (.cells #[.int .i64 s0, .int .i64 s1] 67))
    have HZ := Lib.hid (show w.heap.size + 1 < (w1.alloc (.cells #[.int .i64 s0, .int .i64 s1] 67)).heap.size from by have := k1.size; simp at this; simp; omega)
    clear k1 hr1
    go_wp2_with (go_at_call 102; refine (specBothRights_any _ _ _).mono ?_; rintro e w' ⟨rfl, rfl⟩)
  · refine (specNoSlot_any _).mono ?_
    rintro e w2 ⟨rfl, k2⟩
    have z0 := k2.cells HZ.out R0.out
    have z1 := k2.cells HZ.out R1.out
    have g0 := k2.free HZ.out F0.out
    have g1 := k2.free HZ.out F1.out
    have K2 := K1.tr0 k2
    clear b0 b1 r0 r1 f0 f1 K1 k2
    go_wp2
    refine bodyPost_ret (v := .agg #[.int .i64 (-1), .int .i64 0]) (by simp [results, Try.results86, go_sem, z0, z1]) rfl ?_
    have h : ((-1 : Int), (0 : Int)) = (x0, x1) := HG.out
    injection h with h1 h2
    exact ⟨by rw [h1, h2], (K2.setCell (p := ⟨w.heap.size + 1, 0, none⟩) (.inr (Nat.le_succ _)) _).setCell (p := ⟨w.heap.size + 1, 1, none⟩) (.inr (Nat.le_succ _)) _⟩
  · refine (specNoSlot_any _).mono ?_
    rintro e w2 ⟨rfl, k2⟩
    have z0 := k2.cells HZ.out R0.out
    have z1 := k2.cells HZ.out R1.out
    have g0 := k2.free HZ.out F0.out
    have g1 := k2.free HZ.out F1.out
    have K2 := K1.tr0 k2
    clear b0 b1 r0 r1 f0 f1 K1 k2
    go_wp2
    refine bodyPost_ret (v := .agg #[.int .i64 (-1), .int .i64 0]) (by simp [results, Try.results86, go_sem, z0, z1]) rfl ?_
    have h : ((-1 : Int), (0 : Int)) = (x0, x1) := HG.out
    injection h with h1 h2
    exact ⟨by rw [h1, h2], (K2.setCell (p := ⟨w.heap.size + 1, 0, none⟩) (.inr (Nat.le_succ _)) _).setCell (p := ⟨w.heap.size + 1, 1, none⟩) (.inr (Nat.le_succ _)) _⟩
  · refine (specNoSlot_any _).mono ?_
    rintro e w2 ⟨rfl, k2⟩
    have z0 := k2.cells HZ.out R0.out
    have z1 := k2.cells HZ.out R1.out
    have g0 := k2.free HZ.out F0.out
    have g1 := k2.free HZ.out F1.out
    have K2 := K1.tr0 k2
    clear b0 b1 r0 r1 f0 f1 K1 k2
    go_wp2
    refine bodyPost_ret (v := .agg #[.int .i64 (-1), .int .i64 0]) (by simp [results, Try.results86, go_sem, z0, z1]) rfl ?_
    have h : ((-1 : Int), (0 : Int)) = (x0, x1) := HG.out
    injection h with h1 h2
    exact ⟨by rw [h1, h2], (K2.setCell (p := ⟨w.heap.size + 1, 0, none⟩) (.inr (Nat.le_succ _)) _).setCell (p := ⟨w.heap.size + 1, 1, none⟩) (.inr (Nat.le_succ _)) _⟩
  · refine (specNoSlot_any _).mono ?_
    rintro e w2 ⟨rfl, k2⟩
    have z0 := k2.cells HZ.out R0.out
    have z1 := k2.cells HZ.out R1.out
    have g0 := k2.free HZ.out F0.out
    have g1 := k2.free HZ.out F1.out
    have K2 := K1.tr0 k2
    clear b0 b1 r0 r1 f0 f1 K1 k2
    go_wp2
    refine bodyPost_ret (v := .agg #[.int .i64 (-1), .int .i64 0]) (by simp [results, Try.results86, go_sem, z0, z1]) rfl ?_
    have h : ((-1 : Int), (0 : Int)) = (x0, x1) := HG.out
    injection h with h1 h2
    exact ⟨by rw [h1, h2], (K2.setCell (p := ⟨w.heap.size + 1, 0, none⟩) (.inr (Nat.le_succ _)) _).setCell (p := ⟨w.heap.size + 1, 1, none⟩) (.inr (Nat.le_succ _)) _⟩
  · refine (specNoSlot_any _).mono ?_
    rintro e w2 ⟨rfl, k2⟩
    have z0 := k2.cells HZ.out R0.out
    have z1 := k2.cells HZ.out R1.out
    have g0 := k2.free HZ.out F0.out
    have g1 := k2.free HZ.out F1.out
    have K2 := K1.tr0 k2
    clear b0 b1 r0 r1 f0 f1 K1 k2
    go_wp2
    refine bodyPost_ret (v := .agg #[.int .i64 (-1), .int .i64 0]) (by simp [results, Try.results86, go_sem, z0, z1]) rfl ?_
    have h : ((-1 : Int), (0 : Int)) = (x0, x1) := HG.out
    injection h with h1 h2
    exact ⟨by rw [h1, h2], (K2.setCell (p := ⟨w.heap.size + 1, 0, none⟩) (.inr (Nat.le_succ _)) _).setCell (p := ⟨w.heap.size + 1, 1, none⟩) (.inr (Nat.le_succ _)) _⟩
  · refine (specNoSlot_any _).mono ?_
    rintro e w2 ⟨rfl, k2⟩
    have z0 := k2.cells HZ.out R0.out
    have z1 := k2.cells HZ.out R1.out
    have g0 := k2.free HZ.out F0.out
    have g1 := k2.free HZ.out F1.out
    have K2 := K1.tr0 k2
    clear b0 b1 r0 r1 f0 f1 K1 k2
    go_wp2
    refine bodyPost_ret (v := .agg #[.int .i64 (-1), .int .i64 0]) (by simp [results, Try.results86, go_sem, z0, z1]) rfl ?_
    have h : ((-1 : Int), (0 : Int)) = (x0, x1) := HG.out
    injection h with h1 h2
    exact ⟨by rw [h1, h2], (K2.setCell (p := ⟨w.heap.size + 1, 0, none⟩) (.inr (Nat.le_succ _)) _).setCell (p := ⟨w.heap.size + 1, 1, none⟩) (.inr (Nat.le_succ _)) _⟩
  · refine (specNoSlot_any _).mono ?_
    rintro e w2 ⟨rfl, k2⟩
    have z0 := k2.cells HZ.out R0.out
    have z1 := k2.cells HZ.out R1.out
    have g0 := k2.free HZ.out F0.out
    have g1 := k2.free HZ.out F1.out
    have K2 := K1.tr0 k2
    clear b0 b1 r0 r1 f0 f1 K1 k2
    go_wp2
    refine bodyPost_ret (v := .agg #[.int .i64 (-1), .int .i64 0]) (by simp [results, Try.results86, go_sem, z0, z1]) rfl ?_
    have h : ((-1 : Int), (0 : Int)) = (x0, x1) := HG.out
    injection h with h1 h2
    exact ⟨by rw [h1, h2], (K2.setCell (p := ⟨w.heap.size + 1, 0, none⟩) (.inr (Nat.le_succ _)) _).setCell (p := ⟨w.heap.size + 1, 1, none⟩) (.inr (Nat.le_succ _)) _⟩
  · refine bodyPost_ret (v := .agg #[.int .i64 s0, .int .i64 (bothT a1 s1)]) (by simp [results, Try.results86, go_sem, r0, r1]) rfl ?_
    have h : (s0, bothT a1 s1) = (x0, x1) := HG.out
    injection h with h1 h2
    exact ⟨by rw [h1, h2], (K1.setCell (p := ⟨w.heap.size + 1, 0, none⟩) (.inr (Nat.le_succ _)) _).setCell (p := ⟨w.heap.size + 1, 1, none⟩) (.inr (Nat.le_succ _)) _⟩
set_option maxHeartbeats 4000000 in
theorem implComposeSlot_to (w : World) (hi : Nat) (v : Value) (l : List Two) (a0 a1 x0 x1 : Int) (hr : Rd w hi 2 v (ints (twosI l))) (hhi : hi ≤ w.heap.size) (hE : compT (a0, a1) l = (x0, x1)) :
    Calls Try.prog 81 #[.agg #[.int .i64 a0, .int .i64 a1], v] w fun e w' => e = .returned (.agg #[.int .i64 x0, .int .i64 x1]) ∧ Keep 0 0 w w' := by
  obtain ⟨s0, s1, hs⟩ : ∃ s0 s1, slotAtT l a0 = (s0, s1) := ⟨_, _, rfl⟩
  have K0 := keep_2 w (.cells #[.int .i64 a0, .int .i64 a1] 67) (.cells #[.int .i64 0, .int .i64 0] 67)
  have hr1 := hr.keep K0 hhi (.inr (Nat.le_refl 0))
  have hE2 : (if a0 == -1 || s0 == -1 || bothT a1 s1 == 0 then ((-1 : Int), (0 : Int)) else (s0, bothT a1 s1)) = (x0, x1) := by rw [← hE]; unfold compT; rw [hs]
  have HS := Lib.hid hs
  have HE := Lib.hid hE2
  clear hE hs hE2 hr
  rcases Bool.eq_false_or_eq_true (a0 == -1) with q1 | q1 <;> rcases Bool.eq_false_or_eq_true (s0 == -1) with q2 | q2 <;> rcases Bool.eq_false_or_eq_true (bothT a1 s1 == 0) with q3 | q3
  all_goals
    have HF := HE.out
    rw [q1, q2, q3] at HF
    have HG := Lib.hid HF
    clear HF HE
    go_enter Try.func81, Try.ntmps81
    go_wp2_with fail
    refine (implSlotAt_to _ _ _ l a0 s0 s1 hr1 HS.out).mono ?_
    rintro e w1 ⟨rfl, k1⟩
    have b0 := k1.cellsX (q := w.heap.size) (j := 0) (v := .int .i64 a0) (by simp; omega) (by first | go_cell | (simp [go_sem]; done))
    have b1 := k1.cellsX (q := w.heap.size) (j := 1) (v := .int .i64 a1) (by simp; omega) (by first | go_cell | (simp [go_sem]; done))
    have r0 := k1.cellsX (q := w.heap.size + 1) (j := 0) (v := .int .i64 0) (by simp) (by first | go_cell | (simp [go_sem]; done))
    have r1 := k1.cellsX (q := w.heap.size + 1) (j := 1) (v := .int .i64 0) (by simp) (by first | go_cell | (simp [go_sem]; done))
    have f0 := k1.freeX (q := w.heap.size + 1) (j := 0) (by simp) (by first | (simp [go_sem]; done) | simp)
    have f1 := k1.freeX (q := w.heap.size + 1) (j := 1) (by simp) (by first | (simp [go_sem]; done) | simp)
    have K1 := (K0.tr0 k1).alloc (.cells #[.int .i64 s0, .int .i64 s1] 67)
    have R0 := Lib.hid (r0 (.cells #[.int .i64 s0, .int .i64 s1] 67))
    have R1 := Lib.hid (r1 (.cells #[.int .i64 s0, .int .i64 s1] 67))
    have F0 := Lib.hid (f0 (.cells #[.int .i64 s0, .int .i64 s1] 67))
    have F1 := Lib.hid (f1 (.cells #[.int .i64 s0, .int .i64 s1] 67))
    have HZ := Lib.hid (show w.heap.size + 1 < (w1.alloc (.cells #[.int .i64 s0, .int .i64 s1] 67)).heap.size from by have := k1.size; simp at this; simp; omega)
    clear k1 hr1
    go_wp2_with (go_at_call 98; refine (implBothRights_any _ _ _).mono ?_; rintro e w' ⟨rfl, rfl⟩)
  · refine (implNoSlot_any _).mono ?_
    rintro e w2 ⟨rfl, k2⟩
    have z0 := k2.cells HZ.out R0.out
    have z1 := k2.cells HZ.out R1.out
    have g0 := k2.free HZ.out F0.out
    have g1 := k2.free HZ.out F1.out
    have K2 := K1.tr0 k2
    clear b0 b1 r0 r1 f0 f1 K1 k2
    go_wp2
    refine bodyPost_ret (v := .agg #[.int .i64 (-1), .int .i64 0]) (by simp [results, Try.results81, go_sem, z0, z1]) rfl ?_
    have h : ((-1 : Int), (0 : Int)) = (x0, x1) := HG.out
    injection h with h1 h2
    exact ⟨by rw [h1, h2], (K2.setCell (p := ⟨w.heap.size + 1, 0, none⟩) (.inr (Nat.le_succ _)) _).setCell (p := ⟨w.heap.size + 1, 1, none⟩) (.inr (Nat.le_succ _)) _⟩
  · refine (implNoSlot_any _).mono ?_
    rintro e w2 ⟨rfl, k2⟩
    have z0 := k2.cells HZ.out R0.out
    have z1 := k2.cells HZ.out R1.out
    have g0 := k2.free HZ.out F0.out
    have g1 := k2.free HZ.out F1.out
    have K2 := K1.tr0 k2
    clear b0 b1 r0 r1 f0 f1 K1 k2
    go_wp2
    refine bodyPost_ret (v := .agg #[.int .i64 (-1), .int .i64 0]) (by simp [results, Try.results81, go_sem, z0, z1]) rfl ?_
    have h : ((-1 : Int), (0 : Int)) = (x0, x1) := HG.out
    injection h with h1 h2
    exact ⟨by rw [h1, h2], (K2.setCell (p := ⟨w.heap.size + 1, 0, none⟩) (.inr (Nat.le_succ _)) _).setCell (p := ⟨w.heap.size + 1, 1, none⟩) (.inr (Nat.le_succ _)) _⟩
  · refine (implNoSlot_any _).mono ?_
    rintro e w2 ⟨rfl, k2⟩
    have z0 := k2.cells HZ.out R0.out
    have z1 := k2.cells HZ.out R1.out
    have g0 := k2.free HZ.out F0.out
    have g1 := k2.free HZ.out F1.out
    have K2 := K1.tr0 k2
    clear b0 b1 r0 r1 f0 f1 K1 k2
    go_wp2
    refine bodyPost_ret (v := .agg #[.int .i64 (-1), .int .i64 0]) (by simp [results, Try.results81, go_sem, z0, z1]) rfl ?_
    have h : ((-1 : Int), (0 : Int)) = (x0, x1) := HG.out
    injection h with h1 h2
    exact ⟨by rw [h1, h2], (K2.setCell (p := ⟨w.heap.size + 1, 0, none⟩) (.inr (Nat.le_succ _)) _).setCell (p := ⟨w.heap.size + 1, 1, none⟩) (.inr (Nat.le_succ _)) _⟩
  · refine (implNoSlot_any _).mono ?_
    rintro e w2 ⟨rfl, k2⟩
    have z0 := k2.cells HZ.out R0.out
    have z1 := k2.cells HZ.out R1.out
    have g0 := k2.free HZ.out F0.out
    have g1 := k2.free HZ.out F1.out
    have K2 := K1.tr0 k2
    clear b0 b1 r0 r1 f0 f1 K1 k2
    go_wp2
    refine bodyPost_ret (v := .agg #[.int .i64 (-1), .int .i64 0]) (by simp [results, Try.results81, go_sem, z0, z1]) rfl ?_
    have h : ((-1 : Int), (0 : Int)) = (x0, x1) := HG.out
    injection h with h1 h2
    exact ⟨by rw [h1, h2], (K2.setCell (p := ⟨w.heap.size + 1, 0, none⟩) (.inr (Nat.le_succ _)) _).setCell (p := ⟨w.heap.size + 1, 1, none⟩) (.inr (Nat.le_succ _)) _⟩
  · refine (implNoSlot_any _).mono ?_
    rintro e w2 ⟨rfl, k2⟩
    have z0 := k2.cells HZ.out R0.out
    have z1 := k2.cells HZ.out R1.out
    have g0 := k2.free HZ.out F0.out
    have g1 := k2.free HZ.out F1.out
    have K2 := K1.tr0 k2
    clear b0 b1 r0 r1 f0 f1 K1 k2
    go_wp2
    refine bodyPost_ret (v := .agg #[.int .i64 (-1), .int .i64 0]) (by simp [results, Try.results81, go_sem, z0, z1]) rfl ?_
    have h : ((-1 : Int), (0 : Int)) = (x0, x1) := HG.out
    injection h with h1 h2
    exact ⟨by rw [h1, h2], (K2.setCell (p := ⟨w.heap.size + 1, 0, none⟩) (.inr (Nat.le_succ _)) _).setCell (p := ⟨w.heap.size + 1, 1, none⟩) (.inr (Nat.le_succ _)) _⟩
  · refine (implNoSlot_any _).mono ?_
    rintro e w2 ⟨rfl, k2⟩
    have z0 := k2.cells HZ.out R0.out
    have z1 := k2.cells HZ.out R1.out
    have g0 := k2.free HZ.out F0.out
    have g1 := k2.free HZ.out F1.out
    have K2 := K1.tr0 k2
    clear b0 b1 r0 r1 f0 f1 K1 k2
    go_wp2
    refine bodyPost_ret (v := .agg #[.int .i64 (-1), .int .i64 0]) (by simp [results, Try.results81, go_sem, z0, z1]) rfl ?_
    have h : ((-1 : Int), (0 : Int)) = (x0, x1) := HG.out
    injection h with h1 h2
    exact ⟨by rw [h1, h2], (K2.setCell (p := ⟨w.heap.size + 1, 0, none⟩) (.inr (Nat.le_succ _)) _).setCell (p := ⟨w.heap.size + 1, 1, none⟩) (.inr (Nat.le_succ _)) _⟩
  · refine (implNoSlot_any _).mono ?_
    rintro e w2 ⟨rfl, k2⟩
    have z0 := k2.cells HZ.out R0.out
    have z1 := k2.cells HZ.out R1.out
    have g0 := k2.free HZ.out F0.out
    have g1 := k2.free HZ.out F1.out
    have K2 := K1.tr0 k2
    clear b0 b1 r0 r1 f0 f1 K1 k2
    go_wp2
    refine bodyPost_ret (v := .agg #[.int .i64 (-1), .int .i64 0]) (by simp [results, Try.results81, go_sem, z0, z1]) rfl ?_
    have h : ((-1 : Int), (0 : Int)) = (x0, x1) := HG.out
    injection h with h1 h2
    exact ⟨by rw [h1, h2], (K2.setCell (p := ⟨w.heap.size + 1, 0, none⟩) (.inr (Nat.le_succ _)) _).setCell (p := ⟨w.heap.size + 1, 1, none⟩) (.inr (Nat.le_succ _)) _⟩
  · refine bodyPost_ret (v := .agg #[.int .i64 s0, .int .i64 (bothT a1 s1)]) (by simp [results, Try.results81, go_sem, r0, r1]) rfl ?_
    have h : (s0, bothT a1 s1) = (x0, x1) := HG.out
    injection h with h1 h2
    exact ⟨by rw [h1, h2], (K1.setCell (p := ⟨w.heap.size + 1, 0, none⟩) (.inr (Nat.le_succ _)) _).setCell (p := ⟨w.heap.size + 1, 1, none⟩) (.inr (Nat.le_succ _)) _⟩
end Go.Proofs.Ytcoipfnphmealaa
