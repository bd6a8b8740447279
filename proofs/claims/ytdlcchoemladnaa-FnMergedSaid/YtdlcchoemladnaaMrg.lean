/-
  The plain law of merging into a control block: what is merged grants no more.
-/
import Derived.Test.YtdlcchoemladnaaCtl
namespace Go.Proofs.Ytdlcchoemladnaa
open Go.RowKit

set_option maxRecDepth 100000 in
theorem and_part (a : Nat) (h : a < 256) : a &&& (255 ^^^ a) = 0 := (by decide : ∀ a < 256, a &&& (255 ^^^ a) = 0) a h
theorem gr_self (p : Int) (h0 : 0 ≤ p) (h1 : p ≤ 255) : bits .and .i64 p (bits .xor .i64 255 p) = 0 := by
  obtain ⟨a, rfl⟩ := Int.eq_ofNat_of_zero_le h0
  have := i64_xor_nat 255 a (by omega) (by omega)
  rw [show ((255 : Nat) : Int) = 255 from rfl] at this
  have hx : 255 ^^^ a < 256 := Nat.xor_lt_two_pow (n := 8) (by omega) (by omega)
  rw [this, i64_and_nat a (255 ^^^ a) (by omega) (by omega), and_part a (by omega)]
  rfl
theorem ctlOk_range {t p : Int} {o : Bool} (h : ctlOkT t p o = true) : inB t 0 3 = true ∧ inB p 0 255 = true := by
  unfold ctlOkT faultsT at h
  rcases Bool.eq_false_or_eq_true (inB t 0 3) with h1 | h1 <;> rcases Bool.eq_false_or_eq_true (inB p 0 255) with h2 | h2
  · exact ⟨h1, h2⟩
  all_goals simp [h1, h2] at h
theorem merged_ok {u t p : Int} {o : Bool} (h0 : 0 ≤ u) (h1 : u ≤ 3) (h : ctlOkT t p o = true) : grantsT (mergeT u t) p o t p o = false := by
  obtain ⟨ht, hp⟩ := ctlOk_range h
  have hp2 : grT p p 255 = false := by
    unfold grT rgT
    rcases inB_cases p 0 255 with ⟨_, h2, h3⟩ | ⟨h2, _⟩
    · rw [hp]
      simp only [if_true]
      rw [gr_self p h2 h3]
      rfl
    · rw [h2] at hp
      cases hp
  have ht2 : grT t (mergeT u t) 3 = false := by
    rcases inB_cases t 0 3 with ⟨_, h2, h3⟩ | ⟨h2, _⟩
    · rcases (show t = 0 ∨ t = 1 ∨ t = 2 ∨ t = 3 from by omega) with rfl | rfl | rfl | rfl <;> rcases (show u = 0 ∨ u = 1 ∨ u = 2 ∨ u = 3 from by omega) with rfl | rfl | rfl | rfl <;> rfl
    · rw [h2] at ht
      cases ht
  unfold grantsT
  rw [hp2, ht2]
  cases o <;> rfl
theorem owner_inner (o i x : Int) : (ownerT o i x == 1) = hasT i x := by
  unfold ownerT
  rcases Bool.eq_false_or_eq_true (hasT i x) with h | h
  · rw [h]; rfl
  · rw [h]
    rcases Bool.eq_false_or_eq_true (hasT o x) with h2 | h2 <;> rw [h2] <;> rfl
end Go.Proofs.Ytdlcchoemladnaa
