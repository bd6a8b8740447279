/-
  Contracts of eqIntS, markIntS, heldIntS of the statements' own helpers: comparing two slices of integers; writing the numbers k, k+1, .. into a slice; asking whether they still stand there.
-/
import Derived.Test.YtiakihknknignaaProg
import Derived.Test.YtiakihknknignaaMem
import Derived.WalkKit
import Derived.WalkSpells
import Derived.Deep.QuietTactic
import Derived.BigQuiet
namespace Go.Proofs.Ytiakihknknignaa
open Go.RowKit

set_option maxHeartbeats 1000000 in
theorem eqIntS_any (w : World) (h1 h2 : Nat) (va vb : Value) (xs ys : List Int) (ra : Rd w h1 1 va (ints xs)) (rb : Rd w h2 1 vb (ints ys)) :
    Calls Try.prog 37 #[va, vb] w fun e w' => e = .returned (.bool (decide (xs = ys))) ∧ Dr w w' := by
  obtain ⟨A, n, c, rfl, hn, hm, hl, ha⟩ := ra
  obtain ⟨B, n', c', rfl, hn', hm', hl', hb⟩ := rb
  rw [ints_length, Nat.mul_one] at hl hl'
  unfold maxLen at hm hm'
  by_cases hq : xs.length = ys.length
  · obtain rfl : n' = n := by omega
    have hm2 : n' ≤ 9223372036854775807 := by omega
    have HL := Lib.hid hl
    have HL' := Lib.hid hl'
    have HQ := Lib.hid hq
    clear hl hl' hq
    go_enter Try.func37, Try.ntmps37
    go_wp2
    go_loopw [5] (fun i wr => ∃ k m : Nat, k ≤ n' ∧ i = .int .i64 k ∧ xs.take k = ys.take k ∧ wr = w.drewN m) (fun i _ => n' - (intOf i).toNat)
    case atStart => exact ⟨0, 0, Nat.zero_le _, rfl, rfl, rfl⟩
    case round =>
      obtain ⟨k, m, hk, rfl, ht, rfl⟩ := hrel
      have HT := Lib.hid ht
      clear ht
      by_cases hlt : k < n'
      · obtain ⟨b, off, rfl, _, hca⟩ := ha (by omega)
        obtain ⟨b', off', rfl, _, hcb⟩ := hb (by omega)
        have ca := hca k _ (ints_get xs k (by rw [HL.out]; omega))
        have cb := hcb k _ (ints_get ys k (by rw [HL'.out]; omega))
        have HX := Lib.hid (List.take_succ_eq_append_getElem (l := xs) (i := k) (by rw [HL.out]; omega))
        have HY := Lib.hid (List.take_succ_eq_append_getElem (l := ys) (i := k) (by rw [HL'.out]; omega))
        generalize xs[k]'(by rw [HL.out]; omega) = x at ca HX
        generalize ys[k]'(by rw [HL'.out]; omega) = y at cb HY
        clear hca hcb ha hb
        by_cases hxy : x = y
        · have hd : (x != y) = false := by simp [hxy]
          have HE := Lib.hid hxy
          clear hxy
          go_wp2
          go_quiet (fail)
          go_wp2
          go_roundw
          case rel => exact ⟨k + 1, _, by omega, by go_num, by rw [HX.out, HY.out, HT.out, HE.out], rfl⟩
          case measure => simp [intOf]; omega
        · have hd : (x != y) = true := by simp [hxy]
          have hf : decide (xs = ys) = false := by
            simp only [decide_eq_false_iff_not]
            rintro rfl
            have := HX.out.symm.trans HY.out
            simp at this
            exact hxy this
          have HF := Lib.hid hf
          clear hxy hf
          go_wp2
          go_quiet (fail)
          go_wp2
          go_ret
          exact ⟨by rw [HF.out]; rfl, Dr.mk2 _ _ _⟩
      · go_wp2
        go_ret
        refine ⟨?_, Dr.mk _ _⟩
        have h1 : xs.take k = xs := List.take_of_length_le (by rw [HL.out]; omega)
        have h2 : ys.take k = ys := List.take_of_length_le (by rw [HL'.out]; omega)
        have h3 := HT.out
        rw [h1, h2] at h3
        simp [h3]
  · have hd : ((n : Int) != n') = true := by simp; omega
    have hf : decide (xs = ys) = false := by simp; rintro rfl; exact hq rfl
    have HF := Lib.hid hf
    clear hl hl' hf hq
    go_enter Try.func37, Try.ntmps37
    go_wp2
    go_ret
    exact ⟨by rw [HF.out]; rfl, Dr.refl _⟩

set_option maxHeartbeats 1000000 in
theorem markIntS_any (w : World) (lo hi : Nat) (v : Value) (xs : List Value) (N : Nat) (hN : xs.length = N) (k0 : Int) (hr : Row w lo hi 3 1 v xs) (h0 : 0 ≤ k0) (h9 : k0 + N ≤ 4611686018427387904) :
    Calls Try.prog 38 #[v, .int .i64 k0] w fun e w' => e = .returned (.int .i64 (k0 + N)) ∧ Row w' lo hi 3 1 v (marks k0 N) ∧ Keep lo hi w w' := by
  subst hN
  obtain ⟨A, n, c, rfl⟩ := hr.slice
  obtain ⟨hl, hn, hm⟩ := hr.len
  rw [Nat.mul_one] at hl
  unfold maxLen at hm
  have hm2 : n ≤ 9223372036854775807 := by omega
  have HL := Lib.hid hl
  have h9' : k0 + n ≤ 4611686018427387904 := by omega
  clear hl h9
  go_enter Try.func38, Try.ntmps38
  go_wp2
  go_loopw [1, 5] (fun kk i wr => ∃ k : Nat, k ≤ n ∧ i = .int .i64 k ∧ kk = .int .i64 (k0 + k) ∧ Row wr lo hi 3 1 (.slice A n c) (marks k0 k ++ xs.drop k) ∧ Keep lo hi w wr) (fun _ i _ => n - (intOf i).toNat)
  case atStart => exact ⟨0, Nat.zero_le _, rfl, by simp, by simpa [marks] using hr, Keep.refl _ _ _⟩
  case round =>
    obtain ⟨k, hk, rfl, rfl, hrow, hkeep⟩ := hrel
    by_cases hlt : k < n
    · obtain ⟨g, off, rfl, hlo, hhi, hgs, hat⟩ := hrow.at_ (by omega)
      have hkl : k < xs.length := by rw [HL.out]; exact hlt
      obtain ⟨hcell, hfr⟩ := hat k _ ((marks_next k0 k xs).trans (List.getElem?_eq_getElem hkl))
      generalize xs[k] = x at hcell
      have hrow' := hrow.set_ k (.int .i64 (k0 + k))
      rw [marks_step k0 k xs hkl] at hrow'
      have hkeep' := hkeep.setCell (p := ⟨g, off + k, none⟩) (.inl ⟨hlo, hhi⟩) (.int .i64 (k0 + k))
      clear hat hrow hkeep hr
      go_wp2
      all_goals try (go_quiet (fail); go_wp2)
      go_roundw
      case rel => exact ⟨k + 1, by omega, by go_num, by go_num, hrow', hkeep'⟩
      case measure => simp [intOf]; omega
    · have hkn : k = n := by omega
      subst hkn
      go_wp2
      go_ret
      have hl2 := HL.out
      exact ⟨by rw [hl2]; rfl, by rw [hl2]; rw [List.drop_of_length_le (by omega), List.append_nil] at hrow; exact hrow, hkeep⟩

set_option maxHeartbeats 1000000 in
theorem heldIntS_any (w : World) (hi : Nat) (v : Value) (m : Nat) (k0 : Int) (hr : Rd w hi 1 v (marks k0 m)) (h0 : 0 ≤ k0) (h9 : k0 + m ≤ 4611686018427387904) :
    Calls Try.prog 39 #[v, .int .i64 k0] w fun e w' => e = .returned (.int .i64 (k0 + m)) ∧ Dr w w' := by
  obtain ⟨A, n, c, rfl, hn, hm, hl, ha⟩ := hr
  rw [marks_length, Nat.mul_one] at hl
  subst hl
  unfold maxLen at hm
  have hm2 : m ≤ 9223372036854775807 := by omega
  go_enter Try.func39, Try.ntmps39
  go_wp2
  go_loopw [1, 5] (fun kk i wr => ∃ k : Nat, k ≤ m ∧ i = .int .i64 k ∧ kk = .int .i64 (k0 + k) ∧ Dr w wr) (fun _ i _ => m - (intOf i).toNat)
  case atStart => exact ⟨0, Nat.zero_le _, rfl, by simp, Dr.refl _⟩
  case round =>
    obtain ⟨k, hk, rfl, rfl, ⟨q, rfl⟩⟩ := hrel
    by_cases hlt : k < m
    · obtain ⟨b, off, rfl, _, hc⟩ := ha (by omega)
      have hcell := hc k _ (marks_get k0 m k hlt)
      have hd : ((k0 + (k : Int)) != (k0 + (k : Int))) = false := by simp
      clear hc ha
      go_wp2
      all_goals try (go_quiet (fail); go_wp2)
      go_roundw
      case rel => exact ⟨k + 1, by omega, by go_num, by go_num, by first | exact Dr.mk _ _ | exact Dr.mk2 _ _ _⟩
      case measure => simp [intOf]; omega
    · have hkn : k = m := by omega
      subst hkn
      go_wp2
      go_ret
      exact ⟨rfl, Dr.mk _ _⟩
end Go.Proofs.Ytiakihknknignaa
