/-
  The statements' own test of a draw's length; twelve drawn numbers in their cells; the plain laws of merging.
-/
import Derived.Test.YtcoipfnphmealaaDraw
import Derived.Test.YtcoipfnphmealaaScal
namespace Go.Proofs.Ytcoipfnphmealaa
open Go.RowKit

def bigT (n : Nat) : Bool := decide (1048576 < n)
theorem big_any (A : Option Addr) (n c : Nat) (hn : n ≤ 9223372036854775807) (w : World) : Calls Try.prog 10 #[.slice A n c] w fun e w' => e = .returned (.bool (bigT n)) ∧ w = w' := by
  unfold bigT
  rcases Nat.lt_or_ge 1048576 n with h | h
  · have h1 : decide ((n : Int) > 1048576) = true := by simp; omega
    have h2 : decide (1048576 < n) = true := by simpa using h
    go_enter Try.func10, Try.ntmps10
    go_wp2
    go_ret
    exact ⟨by simp [*], rfl⟩
  · have h1 : decide ((n : Int) > 1048576) = false := by simp; omega
    have h2 : decide (1048576 < n) = false := by simp; omega
    go_enter Try.func10, Try.ntmps10
    go_wp2
    go_ret
    exact ⟨by simp [*], rfl⟩
theorem twelve {l : List Int} (h : l.length = 12) : ∃ p0 p1 p2 p3 p4 p5 p6 p7 p8 p9 p10 p11, l = [p0, p1, p2, p3, p4, p5, p6, p7, p8, p9, p10, p11] := by
  match l, h with
  | [p0, p1, p2, p3, p4, p5, p6, p7, p8, p9, p10, p11], _ => exact ⟨p0, p1, p2, p3, p4, p5, p6, p7, p8, p9, p10, p11, rfl⟩
/-- Twelve drawn numbers, opened: where they lie, and the first five. -/
theorem places_open {w w' : World} {E : TypeId} {v : Value} {l : List Int} (hl : l.length = 12) (hx : ∀ x ∈ l, 0 ≤ x ∧ x < 10000) (hr : Row w' w.heap.size w'.heap.size E 1 v (ints l)) :
    ∃ (g off c : Nat) (p0 p1 p2 p3 p4 : Int), v = .slice (some ⟨g, off, none⟩) 12 c ∧ w.heap.size ≤ g ∧ g < w'.heap.size ∧ w'.cell? ⟨g, off, none⟩ = some (.int .i64 p0) ∧ w'.cell? ⟨g, off + 1, none⟩ = some (.int .i64 p1) ∧ w'.cell? ⟨g, off + 2, none⟩ = some (.int .i64 p2) ∧
      w'.cell? ⟨g, off + 3, none⟩ = some (.int .i64 p3) ∧ w'.cell? ⟨g, off + 4, none⟩ = some (.int .i64 p4) ∧ (0 ≤ p0 ∧ p0 < 10000) ∧ (0 ≤ p1 ∧ p1 < 10000) ∧ (0 ≤ p2 ∧ p2 < 10000) ∧ (0 ≤ p3 ∧ p3 < 10000) ∧ (0 ≤ p4 ∧ p4 < 10000) := by
  obtain ⟨p0, p1, p2, p3, p4, p5, p6, p7, p8, p9, p10, p11, rfl⟩ := twelve hl
  obtain ⟨A, n, c, rfl⟩ := hr.slice
  have h12 : n = 12 := by have := hr.len.1; rw [ints_length] at this; simp at this; omega
  subst h12
  obtain ⟨g, off, rfl, h1, h2, _, hat⟩ := hr.at_ (by omega)
  exact ⟨g, off, c, p0, p1, p2, p3, p4, rfl, h1, h2, (hat 0 _ rfl).1, (hat 1 _ rfl).1, (hat 2 _ rfl).1, (hat 3 _ rfl).1, (hat 4 _ rfl).1, hx p0 (by simp), hx p1 (by simp), hx p2 (by simp), hx p3 (by simp), hx p4 (by simp)⟩
theorem four (x : Int) (h : 0 ≤ x) (h2 : x < 4) : x = 0 ∨ x = 1 ∨ x = 2 ∨ x = 3 := by omega
theorem mergeLaws (a b c : Int) (ha : 0 ≤ a) (ha' : a < 4) (hb : 0 ≤ b) (hb' : b < 4) (hc : 0 ≤ c) (hc' : c < 4) :
    (mergeT a b == mergeT b a) = true ∧ (mergeT a (mergeT b c) == mergeT (mergeT a b) c) = true ∧ (mergeT a 0 == a) = true ∧ (mergeT a a == a) = true ∧
    hasT (mergeT a b) 1 = (hasT a 1 || hasT b 1) ∧ (ownerT a b 2 == 0) = !(hasT (mergeT a b) 2) := by
  rcases four a ha ha' with rfl | rfl | rfl | rfl <;> rcases four b hb hb' with rfl | rfl | rfl | rfl <;> rcases four c hc hc' with rfl | rfl | rfl | rfl <;> exact ⟨rfl, rfl, rfl, rfl, rfl, rfl⟩
end Go.Proofs.Ytcoipfnphmealaa
