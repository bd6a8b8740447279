/-
  The draw behind the statement on forgotten uses.
-/
import Derived.Test.YtcoipfnphmealaaCas2
namespace Go.Proofs.Ytcoipfnphmealaa
open Go.RowKit

set_option maxHeartbeats 2000000 in
theorem DrawKeptOk_any (w : World) (v : Value) (bs : List Int) (hr : Rd w w.heap.size 1 v (byts bs)) : Calls Try.prog 54 #[v] w fun e w' =>
    ∃ (va vb vi vo : Value) (ks : List Bool) (sl inner outer : List Two), e = .returned (.tuple #[.agg #[va, vb], vi, vo]) ∧ ks.length ≤ 4 ∧ sl.length ≤ 4 ∧ inner.length ≤ 4 ∧ outer.length ≤ 8 ∧
    Rd w' w'.heap.size 1 va (bols ks) ∧ Rd w' w'.heap.size 2 vb (ints (twosI sl)) ∧ Rd w' w'.heap.size 2 vi (ints (twosI inner)) ∧ Rd w' w'.heap.size 2 vo (ints (twosI outer)) ∧ Keep 0 0 w w' := by
  obtain ⟨X, hX⟩ : ∃ X, X = w.alloc (.cells #[.slice none 0 0, .slice none 0 0] 55) := ⟨_, rfl⟩
  have KW : Keep 0 0 w X := by rw [hX]; exact keep_1 w _
  have LX : Lo X w.heap.size 55 #[.slice none 0 0, .slice none 0 0] := by rw [hX]; exact Lo.new w _ _ rfl
  have hr2 := (hr.keep KW (Nat.le_refl _) (.inr (Nat.le_refl 0))).mono KW.size
  have HX := Lib.hid hX
  have hsz := LX.lt
  clear hX hr
  go_enter Try.func54, Try.ntmps54
  go_wp2_with fail
  rw [← HX.out]
  refine (l01New_any X v bs hr2).mono ?_
  rintro e W1 ⟨rfl, hc1, k1⟩
  have L1 := LX.keep0 k1
  have K1 := KW.tr0 k1
  clear KW LX k1 hr2
  go_wp2_with fail
  refine (l07Case_any W1 _ hc1).mono ?_
  rintro e W2 ⟨va, vb, vi, vo, ks, sl, inner, outer, rfl, l1, l2, l3, l4, ra, rb, ri, ro, hc2, k2⟩
  have h1w := L1.lt
  obtain ⟨A2, n2, c2, rfl⟩ := ra.slice
  obtain ⟨B2, m2, d2, rfl⟩ := rb.slice
  have L2 : Lo W2 w.heap.size 55 #[.slice none 0 0, .slice none 0 0] := ⟨(k2.block _ L1.lt (.inl hsz)).trans L1.row⟩
  have K2 := K1.trm k2 (Nat.le_of_lt hsz)
  have kS : Keep w.heap.size (w.heap.size + 1) W2 ((W2.setCell ⟨w.heap.size, 0, none⟩ (.slice A2 n2 c2)).setCell ⟨w.heap.size, 1, none⟩ (.slice B2 m2 d2)) :=
    ((Keep.refl w.heap.size (w.heap.size + 1) W2).setCell (p := ⟨w.heap.size, 0, none⟩) (.inl ⟨Nat.le_refl _, Nat.lt_succ_self _⟩) _).setCell (p := ⟨w.heap.size, 1, none⟩) (.inl ⟨Nat.le_refl _, Nat.lt_succ_self _⟩) _
  have ra2 := Lib.hid (((ra.keep kS (.inr (.inl h1w))).rd).mono kS.size)
  have rb2 := Lib.hid (((rb.keep kS (.inr (.inl h1w))).rd).mono kS.size)
  have ri2 := Lib.hid (((ri.keep kS (.inr (.inl h1w))).rd).mono kS.size)
  have ro2 := Lib.hid (((ro.keep kS (.inr (.inl h1w))).rd).mono kS.size)
  have K3 := Lib.hid (K2.trm kS (Nat.le_refl _))
  obtain ⟨r0, r1, f0, f1⟩ := L2.c2
  clear k2 L1 K1 hc1 hc2 ra rb ri ro kS K2
  go_wp2
  refine bodyPost_ret (v := .tuple #[.agg #[.slice A2 n2 c2, .slice B2 m2 d2], vi, vo]) (by simp [results, Try.results54, go_sem, r0, r1]) rfl ?_
  exact ⟨_, _, _, _, ks, sl, inner, outer, rfl, l1, l2, l3, l4, ra2.out, rb2.out, ri2.out, ro2.out, K3.out⟩
theorem field_slots (a b : Value) (W : World) : (Instr.field 55 (.agg #[a, b]) 1).run Try.prog W = .ok b W := by
  simp [Instr.field, run_underlying Try.underlying55, go_sem, asAgg]
end Go.Proofs.Ytcoipfnphmealaa
