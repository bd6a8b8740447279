/-
  Contracts of the laws' own comparisons of slices: sameInts, sameInss, sameSlots.
-/
import Derived.Test.YtdlcchoemladnaaOpen
import Derived.Test.YtdlcchoemladnaaOne
import Derived.Test.YtdlcchoemladnaaMem
import Derived.Test.YtdlcchoemladnaaProg
import Derived.WalkSpells
import Derived.Deep.QuietTactic
import Derived.BigQuiet
import Derived.Laws.StructEq
namespace Go.Proofs.Ytdlcchoemladnaa
open Go.RowKit

set_option maxHeartbeats 1000000 in
theorem sameInts_any (w : World) (h1 h2 : Nat) (va vb : Value) (xs ys : List Int) (ra : Rd w h1 1 va (ints xs)) (rb : Rd w h2 1 vb (ints ys)) :
    Calls Try.prog 18 #[va, vb] w fun e w' => e = .returned (.bool (decide (xs = ys))) ∧ Dr w w' := by
  obtain ⟨A, n, c, rfl, hn, hm, hl, ha⟩ := ra
  obtain ⟨B, n', c', rfl, hn', hm', hl', hb⟩ := rb
  rw [ints_length, Nat.mul_one] at hl hl'
  unfold maxLen at hm hm'
  by_cases hq : xs.length = ys.length
  · obtain rfl : n' = n := by omega
    have hm2 : n' ≤ 9223372036854775807 := by omega
    have HL := Lib.hid hl
    have HL' := Lib.hid hl'
    have HQ := Lib.hid hq
    clear hl hl' hq
    go_enter Try.func18, Try.ntmps18
    go_wp2
    go_loopw [5] (fun i wr => ∃ k m : Nat, k ≤ n' ∧ i = .int .i64 k ∧ xs.take k = ys.take k ∧ wr = w.drewN m) (fun i _ => n' - (intOf i).toNat)
    case atStart => exact ⟨0, 0, Nat.zero_le _, rfl, rfl, rfl⟩
    case round =>
      obtain ⟨k, m, hk, rfl, ht, rfl⟩ := hrel
      have HT := Lib.hid ht
      clear ht
      by_cases hlt : k < n'
      · obtain ⟨b, off, rfl, _, hca⟩ := ha (by omega)
        obtain ⟨b', off', rfl, _, hcb⟩ := hb (by omega)
        have ca := hca k _ (ints_get xs k (by rw [HL.out]; omega))
        have cb := hcb k _ (ints_get ys k (by rw [HL'.out]; omega))
        have HX := Lib.hid (List.take_succ_eq_append_getElem (l := xs) (i := k) (by rw [HL.out]; omega))
        have HY := Lib.hid (List.take_succ_eq_append_getElem (l := ys) (i := k) (by rw [HL'.out]; omega))
        generalize xs[k]'(by rw [HL.out]; omega) = x at ca HX
        generalize ys[k]'(by rw [HL'.out]; omega) = y at cb HY
        clear hca hcb ha hb
        by_cases hxy : x = y
        · have hd : (x != y) = false := by simp [hxy]
          have HE := Lib.hid hxy
          clear hxy
          go_wp2
          go_quiet (fail)
          go_wp2
          go_roundw
          case rel => exact ⟨k + 1, _, by omega, by go_num, by rw [HX.out, HY.out, HT.out, HE.out], rfl⟩
          case measure => simp [intOf]; omega
        · have hd : (x != y) = true := by simp [hxy]
          have hf : decide (xs = ys) = false := by
            simp only [decide_eq_false_iff_not]
            rintro rfl
            have := HX.out.symm.trans HY.out
            simp at this
            exact hxy this
          have HF := Lib.hid hf
          clear hxy hf
          go_wp2
          go_quiet (fail)
          go_wp2
          go_ret
          exact ⟨by rw [HF.out]; rfl, Dr.mk2 _ _ _⟩
      · go_wp2
        go_ret
        refine ⟨?_, Dr.mk _ _⟩
        have h1 : xs.take k = xs := List.take_of_length_le (by rw [HL.out]; omega)
        have h2 : ys.take k = ys := List.take_of_length_le (by rw [HL'.out]; omega)
        have h3 := HT.out
        rw [h1, h2] at h3
        simp [h3]
  · have hd : ((n : Int) != n') = true := by simp; omega
    have hf : decide (xs = ys) = false := by simp; rintro rfl; exact hq rfl
    have HF := Lib.hid hf
    clear hl hl' hf hq
    go_enter Try.func18, Try.ntmps18
    go_wp2
    go_ret
    exact ⟨by rw [HF.out]; rfl, Dr.refl _⟩

end Go.Proofs.Ytdlcchoemladnaa
