/-
  Contracts of the laws' own comparisons of slices: sameInss, sameSlots.
-/
import Derived.Test.YtdlcchoemladnaaPair
import Derived.Test.YtdlcchoemladnaaSame
namespace Go.Proofs.Ytdlcchoemladnaa
open Go.RowKit

set_option maxHeartbeats 4000000 in
theorem sameInss_any (w : World) (h1 h2 : Nat) (va vb : Value) (xs ys : List Int) (ra : Rd w h1 2 va (ints xs)) (rb : Rd w h2 2 vb (ints ys)) :
    Calls Try.prog 43 #[va, vb] w fun e w' => e = .returned (.bool (decide (xs = ys))) ∧ Dr w w' := by
  obtain ⟨A, n, c, rfl, hn, hm, hl, ha⟩ := ra
  obtain ⟨B, n', c', rfl, hn', hm', hl', hb⟩ := rb
  rw [ints_length] at hl hl'
  unfold maxLen at hm hm'
  by_cases hq : xs.length = ys.length
  · obtain rfl : n' = n := by omega
    have hm2 : n' ≤ 9223372036854775807 := by omega
    have HL := Lib.hid hl
    have HL' := Lib.hid hl'
    have HQ := Lib.hid hq
    clear hl hl' hq
    go_enter Try.func43, Try.ntmps43
    go_wp2
    go_loopw [5] (fun i wr => ∃ k m : Nat, k ≤ n' ∧ i = .int .i64 k ∧ xs.take (k * 2) = ys.take (k * 2) ∧ wr = w.drewN m) (fun i _ => n' - (intOf i).toNat)
    case atStart => exact ⟨0, 0, Nat.zero_le _, rfl, rfl, rfl⟩
    case round =>
      obtain ⟨k, m, hk, rfl, ht, rfl⟩ := hrel
      have HT := Lib.hid ht
      clear ht
      by_cases hlt : k < n'
      · obtain ⟨b, off, rfl, hb1, hca⟩ := ha (by omega)
        obtain ⟨b', off', rfl, hb2, hcb⟩ := hb (by omega)
        obtain ⟨x0, x1, hx, cx0, cx1⟩ := ints_at2 HL.out hca hlt
        obtain ⟨y0, y1, hy, cy0, cy1⟩ := ints_at2 HL'.out hcb hlt
        have HX := Lib.hid hx
        have HY := Lib.hid hy
        clear hca hcb ha hb hx hy
        by_cases hxy : x0 = y0 ∧ x1 = y1
        · obtain ⟨rfl, rfl⟩ := hxy
          go_wp2
          all_goals try (go_quiet (fail); go_wp2)
          go_roundw
          case rel => exact ⟨k + 1, _, by omega, by go_num, by rw [HX.out, HY.out, HT.out], rfl⟩
          case measure => simp [intOf]; omega
        · have hf : decide (xs = ys) = false := by
            simp only [decide_eq_false_iff_not]
            rintro rfl
            have := List.append_cancel_left (HX.out.symm.trans HY.out)
            simp only [List.cons.injEq, and_true] at this
            exact hxy this
          have HF := Lib.hid hf
          have e1 : (x0 == y0 && x1 == y1) = false := by
            rw [Bool.eq_false_iff]
            simpa using hxy
          have e2 : (x0 = y0 → ¬ x1 = y1) := fun a b => hxy ⟨a, b⟩
          clear hxy hf
          by_cases h0 : x0 = y0
          · have h1 := e2 h0
            subst h0
            have e3 : (x1 == y1) = false := by simp [h1]
            clear e1 e2
            go_wp2
            all_goals try (go_quiet (fail); go_wp2)
            go_ret
            exact ⟨by rw [HF.out]; rfl, by first | exact Dr.mk _ _ | exact Dr.mk2 _ _ _⟩
          · have e3 : (x0 == y0) = false := by simp [h0]
            clear e1 e2
            go_wp2
            all_goals try (go_quiet (fail); go_wp2)
            go_ret
            exact ⟨by rw [HF.out]; rfl, by first | exact Dr.mk _ _ | exact Dr.mk2 _ _ _⟩
      · go_wp2
        go_ret
        refine ⟨?_, Dr.mk _ _⟩
        have h1 : xs.take (k * 2) = xs := List.take_of_length_le (by rw [HL.out]; omega)
        have h2 : ys.take (k * 2) = ys := List.take_of_length_le (by rw [HL'.out]; omega)
        have h3 := HT.out
        rw [h1, h2] at h3
        simp [h3]
  · have hd : ((n : Int) != n') = true := by simp; omega
    have hf : decide (xs = ys) = false := by simp; rintro rfl; exact hq rfl
    have HF := Lib.hid hf
    clear hl hl' hf hq
    go_enter Try.func43, Try.ntmps43
    go_wp2
    go_ret
    exact ⟨by rw [HF.out]; rfl, Dr.refl _⟩
end Go.Proofs.Ytdlcchoemladnaa
