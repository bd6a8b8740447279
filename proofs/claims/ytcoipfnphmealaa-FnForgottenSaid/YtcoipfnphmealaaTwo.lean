/-
  Contracts of the statements' helpers on slices of structs of two integers (instructions, slots).
-/
import Derived.Test.YtcoipfnphmealaaConv
import Derived.Test.YtcoipfnphmealaaMem
import Derived.WalkKit
import Derived.WalkSpells
import Derived.Deep.QuietTactic
import Derived.BigQuiet
import Derived.Deep.RegionHeld3
import Derived.Handy
namespace Go.Proofs.Ytcoipfnphmealaa
open Go.RowKit

theorem run_make_row2 {P : Program} (t e : TypeId) (i : TypeInfo) (z : Value) (ht : P.underlying t = some (.slice e)) (hi : P.info? e = some i) (hz : i.zero = some z)
    (kl kc : IntKind) (n c : Nat) (hnc : n ≤ c) (hbytes : i.bytes * c ≤ 281474976710656) (h63 : c ≤ 9223372036854775807) (w : World) :
    (Instr.makeSlice t (.int kl (n : Int)) (.int kc (c : Int))).run P w = .ok (.slice (some ⟨w.heap.size, 0, none⟩) n c) (w.alloc (.cells (madeCells z.cells (c * i.size)) e)) := by
  have hb : (i.bytes : Int) * (c : Int) ≤ 281474976710656 := by
    have h : ((i.bytes * c : Nat) : Int) ≤ 281474976710656 := by omega
    rwa [Int.natCast_mul] at h
  have hr := run_make (P := P) w t e i z ht hi hz kl kc n c (by omega) (by omega) hb (by omega)
  simp only [Int.toNat_natCast] at hr
  exact hr
theorem marks_at2 {w : World} {b off n k : Nat} {k0 : Int} (hc : ∀ j u, (marks k0 (n * 2))[j]? = some u → w.cell? ⟨b, off + j, none⟩ = some u) (hk : k < n) :
    w.cell? ⟨b, off + k * 2, none⟩ = some (.int .i64 (k0 + (k : Int) * 2)) ∧ w.cell? ⟨b, off + k * 2 + 1, none⟩ = some (.int .i64 (k0 + (k : Int) * 2 + 1)) := by
  have h (j : Nat) (hj : j < 2) : w.cell? ⟨b, off + k * 2 + j, none⟩ = some (.int .i64 (k0 + ((k * 2 + j : Nat) : Int))) := by
    rw [Nat.add_assoc]
    exact hc (k * 2 + j) _ (marks_get k0 _ _ (by omega))
  refine ⟨?_, ?_⟩
  · rw [show (k0 + (k : Int) * 2) = k0 + ((k * 2 + 0 : Nat) : Int) from by omega]; exact h 0 (by omega)
  · rw [show (k0 + (k : Int) * 2 + 1) = k0 + ((k * 2 + 1 : Nat) : Int) from by omega]; exact h 1 (by omega)
theorem ints_at2 {w : World} {b off n k : Nat} {xs : List Int} (hl : xs.length = n * 2) (hc : ∀ j u, (ints xs)[j]? = some u → w.cell? ⟨b, off + j, none⟩ = some u) (hk : k < n) :
    ∃ x0 x1, xs.take ((k + 1) * 2) = xs.take (k * 2) ++ [x0, x1] ∧ w.cell? ⟨b, off + k * 2, none⟩ = some (.int .i64 x0) ∧ w.cell? ⟨b, off + k * 2 + 1, none⟩ = some (.int .i64 x1) := by
  have h (j : Nat) (hj : j < 2) : w.cell? ⟨b, off + k * 2 + j, none⟩ = some (.int .i64 (xs[k * 2 + j]'(by omega))) := by
    rw [Nat.add_assoc]
    exact hc (k * 2 + j) _ (ints_get xs _ (by omega))
  refine ⟨xs[k * 2]'(by omega), xs[k * 2 + 1]'(by omega), ?_, h 0 (by omega), h 1 (by omega)⟩
  rw [show (k + 1) * 2 = k * 2 + 1 + 1 from by omega, List.take_succ_eq_append_getElem (by omega), List.take_succ_eq_append_getElem (by omega)]
  simp only [List.append_assoc, List.cons_append, List.nil_append]
/-- The two stores of a round, as the walk makes them. -/
theorem row_mark2 {w0 w : World} {lo hi : Nat} {E : TypeId} {A : Option Addr} {n c k : Nat} {k0 : Int} {xs : List Value} (hr : Row w lo hi E 2 (.slice A n c) (marks k0 (k * 2) ++ xs.drop (k * 2))) (hk : Keep lo hi w0 w)
    (hl : xs.length = n * 2) (hlt : k < n) : ∃ g off, A = some ⟨g, off, none⟩ ∧ lo ≤ g ∧ g < hi ∧
    ∃ x0 : Value, (w.cell? ⟨g, off + k * 2, none⟩ = some x0 ∧ w.frozen? ⟨g, off + k * 2, none⟩ = false) ∧
    ∃ x1 : Value, ((w.setCell ⟨g, off + k * 2, none⟩ (.int .i64 (k0 + (k : Int) * 2))).cell? ⟨g, off + k * 2 + 1, none⟩ = some x1 ∧ (w.setCell ⟨g, off + k * 2, none⟩ (.int .i64 (k0 + (k : Int) * 2))).frozen? ⟨g, off + k * 2 + 1, none⟩ = false) ∧
    Row ((w.setCell ⟨g, off + k * 2, none⟩ (.int .i64 (k0 + (k : Int) * 2))).setCell ⟨g, off + k * 2 + 1, none⟩ (.int .i64 (k0 + (k : Int) * 2 + 1)))
      lo hi E 2 (.slice (some ⟨g, off, none⟩) n c) (marks k0 (k * 2 + 1 + 1) ++ xs.drop (k * 2 + 1 + 1)) ∧
    Keep lo hi w0 ((w.setCell ⟨g, off + k * 2, none⟩ (.int .i64 (k0 + (k : Int) * 2))).setCell ⟨g, off + k * 2 + 1, none⟩ (.int .i64 (k0 + (k : Int) * 2 + 1))) := by
  obtain ⟨g, off, rfl, hlo, hhi, _, _⟩ := hr.at_ (by omega)
  have st {w : World} {q : Nat} {y : Int} (h : Row w lo hi E 2 (.slice (some ⟨g, off, none⟩) n c) (marks k0 q ++ xs.drop q)) (hq : q < n * 2) (e : k0 + (q : Int) = y) :
      (∃ x : Value, w.cell? ⟨g, off + q, none⟩ = some x ∧ w.frozen? ⟨g, off + q, none⟩ = false) ∧ Row (w.setCell ⟨g, off + q, none⟩ (.int .i64 y)) lo hi E 2 (.slice (some ⟨g, off, none⟩) n c) (marks k0 (q + 1) ++ xs.drop (q + 1)) := by
    subst e
    obtain ⟨g', off', e', _, _, _, hat⟩ := h.at_ (by omega)
    injection e' with e'
    injection e' with e1 e2
    subst e1 e2
    refine ⟨⟨_, hat q _ ((marks_next k0 q xs).trans (List.getElem?_eq_getElem (by omega)))⟩, ?_⟩
    have := h.set_ q (.int .i64 (k0 + (q : Int)))
    rwa [marks_step k0 q xs (by omega)] at this
  obtain ⟨⟨x0, f0⟩, r1⟩ := st (q := k * 2) (y := k0 + (k : Int) * 2) hr (by omega) (by omega)
  obtain ⟨⟨x1, f1⟩, r2⟩ := st (q := k * 2 + 1) (y := k0 + (k : Int) * 2 + 1) r1 (by omega) (by omega)
  exact ⟨g, off, rfl, hlo, hhi, x0, f0, x1, f1, r2, (hk.setCell (.inl ⟨hlo, hhi⟩) _).setCell (.inl ⟨hlo, hhi⟩) _⟩
/-- Two cells of a row that was made are filled. -/
theorem row_fill2 {w : World} {lo hi : Nat} {E : TypeId} {g n c k : Nat} {xs : List Int} {Z : List Value} (h : Row w lo hi E 2 (.slice (some ⟨g, 0, none⟩) n c) (ints (xs.take (k * 2)) ++ Z.drop (k * 2))) (hk : k < n) (hx : xs.length = n * 2) (hZ : Z.length = n * 2)
    {x0 x1 : Int} (hx4 : xs.take ((k + 1) * 2) = xs.take (k * 2) ++ [x0, x1]) :
    ∃ y0 y1 : Value, (w.cell? ⟨g, k * 2, none⟩ = some y0 ∧ w.cell? ⟨g, k * 2 + 1, none⟩ = some y1 ∧ w.frozen? ⟨g, k * 2, none⟩ = false ∧ w.frozen? ⟨g, k * 2 + 1, none⟩ = false) ∧
    Row ((w.setCell ⟨g, k * 2, none⟩ (.int .i64 x0)).setCell ⟨g, k * 2 + 1, none⟩ (.int .i64 x1)) lo hi E 2 (.slice (some ⟨g, 0, none⟩) n c) (ints (xs.take ((k + 1) * 2)) ++ Z.drop ((k + 1) * 2)) := by
  have hl : (ints (xs.take (k * 2))).length = k * 2 := by rw [ints_length, List.length_take]; omega
  obtain ⟨g', off', e', _, _, _, hat⟩ := h.at_ (by omega)
  injection e' with e'
  injection e' with e1 e2
  subst e1 e2
  have at_ (j : Nat) (hj : j < 2) : ∃ y : Value, w.cell? ⟨g, k * 2 + j, none⟩ = some y ∧ w.frozen? ⟨g, k * 2 + j, none⟩ = false := by
    have hlt : k * 2 + j < (ints (xs.take (k * 2)) ++ Z.drop (k * 2)).length := by rw [List.length_append, hl, List.length_drop]; omega
    have := hat (k * 2 + j) _ (List.getElem?_eq_getElem hlt)
    rw [Nat.zero_add] at this
    exact ⟨_, this⟩
  obtain ⟨y0, c0, f0⟩ := at_ 0 (by omega)
  obtain ⟨y1, c1, f1⟩ := at_ 1 (by omega)
  refine ⟨y0, y1, ⟨c0, c1, f0, f1⟩, ?_⟩
  have r1 := (h.put (q := k * 2) hl (by rw [List.length_drop]; omega) (.int .i64 x0)).2.2.2
  have r2 := (r1.put (q := k * 2 + 1) (by simp [hl]) (by simp only [List.length_drop]; omega) (.int .i64 x1)).2.2.2
  simp only [Nat.zero_add] at r2
  rw [hx4, ints_append]
  simp only [List.drop_drop, List.append_assoc, List.cons_append, List.nil_append] at r2
  rw [show (k + 1) * 2 = k * 2 + (1 + 1) from by omega]
  simpa [ints, List.append_assoc] using r2
theorem elSlot : Elem Try.prog 50 67 (.agg #[.int .i64 0, .int .i64 0]) 2 16 :=
  ⟨Try.underlying50, info_parts (by kernel_rfl), rfl, by decide⟩
end Go.Proofs.Ytcoipfnphmealaa
