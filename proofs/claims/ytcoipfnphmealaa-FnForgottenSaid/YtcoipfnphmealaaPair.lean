/-
  Slices of structs of two integers as lists of pairs.
-/
import Derived.Test.YtcoipfnphmealaaTwo
namespace Go.Proofs.Ytcoipfnphmealaa
open Go.RowKit

abbrev Two := Int × Int
def twoI (e : Two) : List Int := [e.1, e.2]
def twosI (l : List Two) : List Int := l.flatMap twoI
theorem twosI_append (l k : List Two) : twosI (l ++ k) = twosI l ++ twosI k := by simp [twosI]
theorem twosI_one (e : Two) : twosI [e] = twoI e := by simp [twosI]
theorem twosI_length (l : List Two) : (twosI l).length = l.length * 2 := by
  induction l with
  | nil => rfl
  | cons a l ih => rw [show a :: l = [a] ++ l from rfl, twosI_append, List.length_append, ih, twosI_one, List.length_append, Nat.add_mul]; rfl
theorem twosI_take (l : List Two) (k : Nat) : (twosI l).take (k * 2) = twosI (l.take k) := by
  induction l generalizing k with
  | nil => simp [twosI]
  | cons a l ih =>
    rw [show a :: l = [a] ++ l from rfl, twosI_append, twosI_one]
    cases k with
    | zero => simp [twosI]
    | succ k =>
      rw [show (k + 1) * 2 = 2 + k * 2 from by omega, List.take_append, show (twoI a).length = 2 from rfl, show 2 + k * 2 - 2 = k * 2 from by omega, ih, List.take_of_length_le (by simp [twoI])]
      simp [twosI]
theorem twosI_inj {l k : List Two} (h : twosI l = twosI k) : l = k := by
  induction l generalizing k with
  | nil =>
    cases k with
    | nil => rfl
    | cons b k => simp [twosI, twoI] at h
  | cons a l ih =>
    cases k with
    | nil => simp [twosI, twoI] at h
    | cons b k =>
      rw [show a :: l = [a] ++ l from rfl, show b :: k = [b] ++ k from rfl, twosI_append, twosI_append, twosI_one, twosI_one] at h
      have h1 := List.append_inj h rfl
      have e1 : a = b := by
        have := h1.1
        simp only [twoI, List.cons.injEq, and_true] at this
        obtain ⟨a1, a2⟩ := a
        obtain ⟨b1, b2⟩ := b
        simp_all
      rw [e1, ih h1.2]
theorem twos_of {xs : List Int} {n : Nat} (h : xs.length = n * 2) : ∃ l : List Two, twosI l = xs ∧ l.length = n := by
  induction n generalizing xs with
  | zero => exact ⟨[], (List.eq_nil_of_length_eq_zero (by omega)).symm, rfl⟩
  | succ n ih =>
    rcases xs with _ | ⟨a, _ | ⟨b, ys⟩⟩
    · simp at h
    · simp at h; omega
    · obtain ⟨l, e, hl⟩ := ih (xs := ys) (by simp only [List.length_cons] at h; omega)
      exact ⟨(a, b) :: l, by rw [← e]; rfl, by simp [hl]⟩
/-- The pair number k, and its two cells. -/
theorem twos_at {w : World} {n : Nat} {b off : Nat} {l : List Two} (hl : l.length = n) (hc : ∀ j u, (ints (twosI l))[j]? = some u → w.cell? ⟨b, off + j, none⟩ = some u) {k : Nat} (hk : k < n) :
    ∃ x0 x1 : Int, l.take (k + 1) = l.take k ++ [(x0, x1)] ∧ w.cell? ⟨b, off + k * 2, none⟩ = some (.int .i64 x0) ∧ w.cell? ⟨b, off + k * 2 + 1, none⟩ = some (.int .i64 x1) ∧ b < w.heap.size := by
  obtain ⟨x0, x1, hx, c0, c1⟩ := ints_at2 (n := n) (by rw [twosI_length, hl]) hc hk
  refine ⟨x0, x1, ?_, c0, c1, World.block_lt_of_cell? _ _ c0⟩
  rw [twosI_take, twosI_take] at hx
  apply twosI_inj
  rw [hx, twosI_append, twosI_one]
  rfl
theorem get_of_take {α : Type} {l : List α} {k : Nat} {e : α} (h : l.take (k + 1) = l.take k ++ [e]) (hk : k < l.length) : l[k]? = some e := by
  have := List.take_succ_eq_append_getElem (l := l) hk
  rw [h] at this
  have := List.append_cancel_left this
  rw [List.getElem?_eq_getElem hk]
  simpa using this.symm
theorem twos_snoc (l : List Two) (x0 x1 : Int) : ints (twosI l) ++ [.int .i64 x0, .int .i64 x1] = ints (twosI (l ++ [(x0, x1)])) := by
  rw [twosI_append, ints_append, twosI_one]; rfl
end Go.Proofs.Ytcoipfnphmealaa
