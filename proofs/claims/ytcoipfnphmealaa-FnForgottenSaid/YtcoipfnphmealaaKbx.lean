/-
  A local variable of what is kept: its block and the two rows that it leads to.
-/
import Derived.Test.YtcoipfnphmealaaTab
namespace Go.Proofs.Ytcoipfnphmealaa
open Go.RowKit

/-- The block Q holds what is kept: the flags ks, the slots sl, in rows that lie elsewhere. -/
def KB (Q : Nat) (w : World) (va vb : Value) (ks : List Bool) (sl : List Two) : Prop :=
  ∃ lo hi, Lo w Q 55 #[va, vb] ∧ Duo w lo hi va vb (bols ks) (ints (twosI sl)) ∧ hi ≤ w.heap.size ∧ (hi ≤ Q ∨ Q < lo)
section
variable {Q : Nat} {w w2 : World} {va vb vc vd : Value} {ks ks' : List Bool} {sl sl' : List Two}
theorem KB.quiet (h : KB Q w va vb ks sl) (k : Keep 0 0 w w2) : KB Q w2 va vb ks sl := by
  obtain ⟨lo, hi, h1, h2, h3, h4⟩ := h
  exact ⟨lo, hi, h1.keep0 k, h2.keep k (.inr (.inr (Nat.le_refl 0))), Nat.le_trans h3 k.size, h4⟩
theorem KB.box (h : KB Q w va vb ks sl) : Lo w Q 55 #[va, vb] := by
  obtain ⟨lo, hi, h1, h2, h3, h4⟩ := h
  exact h1
theorem KB.a (h : KB Q w va vb ks sl) : Row w 0 w.heap.size 4 1 va (bols ks) := by
  obtain ⟨lo, hi, h1, h2, h3, h4⟩ := h
  exact h2.a.mono (Nat.zero_le _) h3
theorem KB.b (h : KB Q w va vb ks sl) : Row w 0 w.heap.size 67 2 vb (ints (twosI sl)) := by
  obtain ⟨lo, hi, h1, h2, h3, h4⟩ := h
  exact h2.b.mono (Nat.zero_le _) h3
theorem KB.new {lo : Nat} (hd : Duo w lo w.heap.size va vb (bols ks) (ints (twosI sl))) : KB w.heap.size (w.alloc (.cells #[va, vb] 55)) va vb ks sl :=
  ⟨lo, w.heap.size, Lo.new w _ _ rfl, hd.keep (keep_1 w _) (.inr (.inr (Nat.le_refl 0))), (keep_1 w _).size, .inl (Nat.le_refl _)⟩
theorem KB.step (h : KB Q w va vb ks sl) (k : Keep 0 0 w w2) (hd : Duo w2 w.heap.size w2.heap.size vc vd (bols ks') (ints (twosI sl'))) :
    KB Q ((w2.setCell ⟨Q, 0, none⟩ vc).setCell ⟨Q, 1, none⟩ vd) vc vd ks' sl' := by
  have hq := h.box.lt
  have kS : Keep Q (Q + 1) w2 ((w2.setCell ⟨Q, 0, none⟩ vc).setCell ⟨Q, 1, none⟩ vd) :=
    ((Keep.refl Q (Q + 1) w2).setCell (p := ⟨Q, 0, none⟩) (.inl ⟨Nat.le_refl _, Nat.lt_succ_self _⟩) _).setCell (p := ⟨Q, 1, none⟩) (.inl ⟨Nat.le_refl _, Nat.lt_succ_self _⟩) _
  exact ⟨w.heap.size, w2.heap.size, ((h.box.keep0 k).set2_0 vc).set 1 vd, hd.keep kS (.inr (.inl hq)), kS.size, .inr hq⟩
theorem KB.store {V : World} (k : Keep 0 0 V w2) (hq : V.heap.size ≤ Q) : Keep 0 0 V ((w2.setCell ⟨Q, 0, none⟩ vc).setCell ⟨Q, 1, none⟩ vd) :=
  (k.setCell (p := ⟨Q, 0, none⟩) (.inr hq) _).setCell (p := ⟨Q, 1, none⟩) (.inr hq) _
theorem KB.lens (h : KB Q w va vb ks sl) : ∃ A n c B m d, va = .slice A n c ∧ vb = .slice B m d ∧ n = ks.length ∧ m = sl.length := by
  have ha := h.a
  have hb := h.b
  obtain ⟨A, n, c, rfl⟩ := ha.slice
  obtain ⟨B, m, d, rfl⟩ := hb.slice
  refine ⟨A, n, c, B, m, d, rfl, rfl, ?_, ?_⟩
  · have := ha.len.1; rw [bols_length] at this; omega
  · have := hb.len.1; rw [ints_length, twosI_length] at this; omega
end
/-- A row of slots that was drawn, as a list of pairs. -/
theorem twos_row {w : World} {lo hi : Nat} {E : TypeId} {v : Value} {l : List Int} {N : Nat} (h : Row w lo hi E 2 v (ints l)) (hl : l.length ≤ N) : ∃ t : List Two, twosI t = l ∧ Row w lo hi E 2 v (ints (twosI t)) ∧ t.length * 2 ≤ N := by
  obtain ⟨A, n, c, rfl⟩ := h.slice
  have hn := h.len.1
  rw [ints_length] at hn
  obtain ⟨t, e, ht⟩ := twos_of hn
  refine ⟨t, e, by rw [e]; exact h, by omega⟩
end Go.Proofs.Ytcoipfnphmealaa
