/-
  The plain law of TagsIn: sorting a list of integers and striking repeats gives what one gets by putting each in its place. No program in sight.
-/
import Derived.Lib.SlicesCompact
namespace Go.Proofs.Ytcoipfnphmealaa
open Go.Lib

/-- x put into its place of a list that goes up. -/
def insR : List Int → Int → List Int
  | [], x => [x]
  | y :: l, x => if y < x then y :: insR l x else if y = x then y :: l else x :: y :: l
def insAll (l : List Int) : List Int := l.foldl insR []
theorem insAll_snoc (l : List Int) (x : Int) : insAll (l ++ [x]) = insR (insAll l) x := by simp [insAll]
theorem insR_mem (l : List Int) (x y : Int) : y ∈ insR l x ↔ y ∈ l ∨ y = x := by
  induction l with
  | nil => simp [insR]
  | cons z l ih =>
    unfold insR
    split
    · simp [ih, or_assoc]
    · split
      · subst_vars
        simp
        intro h
        exact .inl h
      · simp [or_comm]
theorem insR_up (l : List Int) (x : Int) (h : l.Pairwise (· < ·)) : (insR l x).Pairwise (· < ·) := by
  induction l with
  | nil => simp [insR]
  | cons z l ih =>
    rw [List.pairwise_cons] at h
    unfold insR
    split
    · rw [List.pairwise_cons]
      refine ⟨fun y hy => ?_, ih h.2⟩
      rcases (insR_mem l x y).1 hy with h1 | rfl
      · exact h.1 y h1
      · assumption
    · split
      · rw [List.pairwise_cons]; exact h
      · rw [List.pairwise_cons, List.pairwise_cons]
        refine ⟨fun y hy => ?_, h⟩
        rcases List.mem_cons.1 hy with rfl | h1
        · omega
        · have := h.1 y h1; omega
theorem insAll_props (l : List Int) : (insAll l).Pairwise (· < ·) ∧ ∀ y, y ∈ insAll l ↔ y ∈ l := by
  have : ∀ (l s : List Int), s.Pairwise (· < ·) → (l.foldl insR s).Pairwise (· < ·) ∧ ∀ y, y ∈ l.foldl insR s ↔ y ∈ s ∨ y ∈ l := by
    intro l
    induction l with
    | nil => intro s hs; exact ⟨hs, by simp⟩
    | cons a l ih =>
      intro s hs
      obtain ⟨h1, h2⟩ := ih (insR s a) (insR_up s a hs)
      refine ⟨h1, fun y => ?_⟩
      rw [List.foldl_cons, h2, insR_mem, List.mem_cons, or_assoc]
  obtain ⟨h1, h2⟩ := this l [] List.Pairwise.nil
  exact ⟨h1, fun y => by rw [insAll, h2]; simp⟩
theorem insR_length (l : List Int) (x : Int) : (insR l x).length ≤ l.length + 1 := by
  induction l with
  | nil => simp [insR]
  | cons z l ih =>
    unfold insR
    split
    · simp; omega
    · split <;> simp
theorem insAll_length (l : List Int) : (insAll l).length ≤ l.length := by
  have : ∀ (l s : List Int), (l.foldl insR s).length ≤ s.length + l.length := by
    intro l
    induction l with
    | nil => intro s; simp
    | cons a l ih => intro s; have := ih (insR s a); have := insR_length s a; simp at *; omega
  have := this l []
  simp only [List.length_nil, Nat.zero_add] at this
  exact this
/-- The place found by going on while the elements are smaller. -/
theorem insR_put (l : List Int) (x : Int) : ∀ k, (∀ y ∈ l.take k, y < x) → (k = l.length ∨ ∃ z, l[k]? = some z ∧ ¬ z < x ∧ ¬ z = x) → insR l x = l.take k ++ x :: l.drop k := by
  induction l with
  | nil => intro k _ h; rcases h with h | ⟨z, h, _⟩ <;> simp at h ⊢; simp [insR]
  | cons a l ih =>
    intro k h1 h2
    cases k with
    | zero =>
      rcases h2 with h2 | ⟨z, h2, h3, h4⟩
      · simp at h2
      · simp at h2
        subst h2
        simp [insR, h3, h4]
    | succ k =>
      have ha : a < x := h1 a (by simp)
      simp only [insR, if_pos ha, List.take_succ_cons, List.drop_succ_cons, List.cons_append]
      rw [ih k (fun y hy => h1 y (by simp [hy])) (by simpa using h2)]
theorem insR_there (l : List Int) (x : Int) : ∀ k, (∀ y ∈ l.take k, y < x) → l[k]? = some x → insR l x = l := by
  induction l with
  | nil => intro k _ h; simp at h
  | cons a l ih =>
    intro k h1 h2
    cases k with
    | zero => simp at h2; subst h2; simp [insR]
    | succ k =>
      have ha : a < x := h1 a (by simp)
      simp only [insR, if_pos ha]
      rw [ih k (fun y hy => h1 y (by simp [hy])) (by simpa using h2)]
theorem up_unique : ∀ {a b : List Int}, a.Pairwise (· < ·) → b.Pairwise (· < ·) → (∀ x, x ∈ a ↔ x ∈ b) → a = b
  | [], [], _, _, _ => rfl
  | [], b :: _, _, _, h => by have := (h b).2 (by simp); simp at this
  | a :: _, [], _, _, h => by have := (h a).1 (by simp); simp at this
  | a :: l, b :: k, ha, hb, h => by
    rw [List.pairwise_cons] at ha hb
    have e : a = b := by
      have h1 := (h a).1 (by simp)
      have h2 := (h b).2 (by simp)
      rcases List.mem_cons.1 h1 with h1 | h1
      · exact h1
      · rcases List.mem_cons.1 h2 with h2 | h2
        · exact h2.symm
        · have := hb.1 a h1; have := ha.1 b h2; omega
    subst e
    rw [up_unique ha.2 hb.2 (fun x => ?_)]
    have := h x
    simp only [List.mem_cons] at this
    constructor
    · intro hx
      rcases this.1 (.inr hx) with rfl | h3
      · have := ha.1 x hx; omega
      · exact h3
    · intro hx
      rcases this.2 (.inr hx) with rfl | h3
      · have := hb.1 x hx; omega
      · exact h3
theorem compact_props (zs : List Int) (h : zs.Pairwise (· ≤ ·)) : (compact zs).Pairwise (· < ·) ∧ ∀ x, x ∈ compact zs ↔ x ∈ zs := by
  have get (j : Nat) (hj : j < zs.length) : zs.toArray[j]! = zs[j] := by simp [hj]
  have key : ∀ m, m ≤ zs.length → (compactUpTo zs.toArray m).Pairwise (· < ·) ∧ ∀ x, x ∈ compactUpTo zs.toArray m ↔ x ∈ zs.take m := by
    intro m
    induction m with
    | zero => intro _; simp [compactUpTo]
    | succ m ih =>
      intro hm
      obtain ⟨h1, h2⟩ := ih (by omega)
      rw [compactUpTo_succ, List.take_succ_eq_append_getElem (by omega), get m (by omega)]
      have hle : ∀ x ∈ zs.take m, x ≤ zs[m] := by
        intro x hx
        obtain ⟨j, hj, rfl⟩ := List.getElem_of_mem hx
        rw [List.length_take] at hj
        rw [List.getElem_take]
        exact List.pairwise_iff_getElem.1 h j m (by omega) (by omega) (by omega)
      by_cases hk : keeps zs.toArray m = true
      · rw [if_pos hk]
        refine ⟨?_, fun x => by rw [List.mem_append, List.mem_append, h2]⟩
        rw [List.pairwise_append]
        refine ⟨h1, by simp, fun x hx y hy => ?_⟩
        simp only [List.mem_singleton] at hy
        subst hy
        have hx2 := (h2 x).1 hx
        simp only [keeps, decide_eq_true_eq] at hk
        rcases hk with rfl | hk
        · simp at hx2
        · rcases Nat.eq_zero_or_pos m with rfl | hpos
          · simp at hx2
          rw [get m (by omega), get (m - 1) (by omega)] at hk
          have h4 : zs[m - 1] ≤ zs[m] := List.pairwise_iff_getElem.1 h (m - 1) m (by omega) (by omega) (by omega)
          have h5 : x ≤ zs[m - 1] := by
            obtain ⟨j, hj, rfl⟩ := List.getElem_of_mem hx2
            rw [List.length_take] at hj
            rw [List.getElem_take]
            rcases Nat.lt_or_ge j (m - 1) with h6 | h6
            · exact List.pairwise_iff_getElem.1 h j (m - 1) (by omega) (by omega) h6
            · have e : j = m - 1 := by omega
              subst e
              exact Int.le_refl _
          omega
      · rw [if_neg hk, List.append_nil]
        refine ⟨h1, fun x => ?_⟩
        rw [h2]
        constructor
        · intro hx; exact List.mem_append.2 (.inl hx)
        · intro hx
          rcases List.mem_append.1 hx with h6 | h6
          · exact h6
          · simp only [List.mem_singleton] at h6
            simp only [keeps, decide_eq_true_eq, not_or, Classical.not_not] at hk
            rw [get m (by omega), get (m - 1) (by omega)] at hk
            rw [h6, hk.2]
            have e : zs[m - 1] = (zs.take m)[m - 1]'(by rw [List.length_take]; omega) := by rw [List.getElem_take]
            rw [e]
            exact List.getElem_mem _
  obtain ⟨h1, h2⟩ := key zs.length (Nat.le_refl _)
  rw [List.take_length] at h2
  exact ⟨by simpa [compact] using h1, fun x => by rw [compact]; simpa using h2 x⟩
/-- The two ways of listing the tags agree. -/
theorem compact_sort (l : List Int) : compact (l.mergeSort fun x y => decide (x ≤ y)) = insAll l := by
  have hs : (l.mergeSort fun x y => decide (x ≤ y)).Pairwise (· ≤ ·) := by
    have := List.pairwise_mergeSort (le := fun x y : Int => decide (x ≤ y)) (by intro a b c; simp; omega) (by intro a b; simp; omega) l
    simpa using this
  obtain ⟨h1, h2⟩ := compact_props _ hs
  obtain ⟨h3, h4⟩ := insAll_props l
  exact up_unique h1 h3 fun x => by rw [h2, h4]; exact (List.mergeSort_perm l _).mem_iff
end Go.Proofs.Ytcoipfnphmealaa
