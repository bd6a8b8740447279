/-
  Contracts of the statements' helpers on slices of entries (four integers an element): eqEntryS, markEntryS, heldEntryS, toEntryS, szEntryS.
-/
import Derived.Test.YtcoipfnphmealaaConv
import Derived.Test.YtcoipfnphmealaaMem
import Derived.WalkKit
import Derived.WalkSpells
import Derived.Deep.QuietTactic
import Derived.BigQuiet
import Derived.Deep.RegionHeld3
import Derived.Handy
namespace Go.Proofs.Ytcoipfnphmealaa
open Go.RowKit

theorem run_make_rowN {P : Program} (t e : TypeId) (i : TypeInfo) (z : Value) (ht : P.underlying t = some (.slice e)) (hi : P.info? e = some i) (hz : i.zero = some z)
    (kl kc : IntKind) (n c : Nat) (hnc : n ≤ c) (hbytes : i.bytes * c ≤ 281474976710656) (h63 : c ≤ 9223372036854775807) (w : World) :
    (Instr.makeSlice t (.int kl (n : Int)) (.int kc (c : Int))).run P w = .ok (.slice (some ⟨w.heap.size, 0, none⟩) n c) (w.alloc (.cells (madeCells z.cells (c * i.size)) e)) := by
  have hb : (i.bytes : Int) * (c : Int) ≤ 281474976710656 := by
    have h : ((i.bytes * c : Nat) : Int) ≤ 281474976710656 := by omega
    rwa [Int.natCast_mul] at h
  have hr := run_make (P := P) w t e i z ht hi hz kl kc n c (by omega) (by omega) hb (by omega)
  simp only [Int.toNat_natCast] at hr
  exact hr
theorem marks_at4 {w : World} {b off n k : Nat} {k0 : Int} (hc : ∀ j u, (marks k0 (n * 4))[j]? = some u → w.cell? ⟨b, off + j, none⟩ = some u) (hk : k < n) :
    w.cell? ⟨b, off + k * 4, none⟩ = some (.int .i64 (k0 + (k : Int) * 4)) ∧ w.cell? ⟨b, off + k * 4 + 1, none⟩ = some (.int .i64 (k0 + (k : Int) * 4 + 1)) ∧
    w.cell? ⟨b, off + k * 4 + 2, none⟩ = some (.int .i64 (k0 + (k : Int) * 4 + 1 + 1)) ∧ w.cell? ⟨b, off + k * 4 + 3, none⟩ = some (.int .i64 (k0 + (k : Int) * 4 + 1 + 1 + 1)) := by
  have h (j : Nat) (hj : j < 4) : w.cell? ⟨b, off + k * 4 + j, none⟩ = some (.int .i64 (k0 + ((k * 4 + j : Nat) : Int))) := by
    rw [Nat.add_assoc]
    exact hc (k * 4 + j) _ (marks_get k0 _ _ (by omega))
  refine ⟨?_, ?_, ?_, ?_⟩
  · rw [show (k0 + (k : Int) * 4) = k0 + ((k * 4 + 0 : Nat) : Int) from by omega]; exact h 0 (by omega)
  · rw [show (k0 + (k : Int) * 4 + 1) = k0 + ((k * 4 + 1 : Nat) : Int) from by omega]; exact h 1 (by omega)
  · rw [show (k0 + (k : Int) * 4 + 1 + 1) = k0 + ((k * 4 + 2 : Nat) : Int) from by omega]; exact h 2 (by omega)
  · rw [show (k0 + (k : Int) * 4 + 1 + 1 + 1) = k0 + ((k * 4 + 3 : Nat) : Int) from by omega]; exact h 3 (by omega)
theorem ints_at4 {w : World} {b off n k : Nat} {xs : List Int} (hl : xs.length = n * 4) (hc : ∀ j u, (ints xs)[j]? = some u → w.cell? ⟨b, off + j, none⟩ = some u) (hk : k < n) :
    ∃ x0 x1 x2 x3, xs.take ((k + 1) * 4) = xs.take (k * 4) ++ [x0, x1, x2, x3] ∧ w.cell? ⟨b, off + k * 4, none⟩ = some (.int .i64 x0) ∧ w.cell? ⟨b, off + k * 4 + 1, none⟩ = some (.int .i64 x1) ∧
    w.cell? ⟨b, off + k * 4 + 2, none⟩ = some (.int .i64 x2) ∧ w.cell? ⟨b, off + k * 4 + 3, none⟩ = some (.int .i64 x3) := by
  have h (j : Nat) (hj : j < 4) : w.cell? ⟨b, off + k * 4 + j, none⟩ = some (.int .i64 (xs[k * 4 + j]'(by omega))) := by
    rw [Nat.add_assoc]
    exact hc (k * 4 + j) _ (ints_get xs _ (by omega))
  refine ⟨xs[k * 4]'(by omega), xs[k * 4 + 1]'(by omega), xs[k * 4 + 2]'(by omega), xs[k * 4 + 3]'(by omega), ?_, h 0 (by omega), h 1 (by omega), h 2 (by omega), h 3 (by omega)⟩
  rw [show (k + 1) * 4 = k * 4 + 1 + 1 + 1 + 1 from by omega, List.take_succ_eq_append_getElem (by omega), List.take_succ_eq_append_getElem (by omega), List.take_succ_eq_append_getElem (by omega), List.take_succ_eq_append_getElem (by omega)]
  simp only [List.append_assoc, List.cons_append, List.nil_append]

/-- The four stores of a round, as the walk makes them. -/
theorem row_mark4 {w0 w : World} {lo hi : Nat} {E : TypeId} {A : Option Addr} {n c k : Nat} {k0 : Int} {xs : List Value} (hr : Row w lo hi E 4 (.slice A n c) (marks k0 (k * 4) ++ xs.drop (k * 4))) (hk : Keep lo hi w0 w)
    (hl : xs.length = n * 4) (hlt : k < n) : ∃ g off, A = some ⟨g, off, none⟩ ∧ lo ≤ g ∧ g < hi ∧
    ∃ x0 : Value, (w.cell? ⟨g, off + k * 4, none⟩ = some x0 ∧ w.frozen? ⟨g, off + k * 4, none⟩ = false) ∧
    ∃ x1 : Value, ((w.setCell ⟨g, off + k * 4, none⟩ (.int .i64 (k0 + (k : Int) * 4))).cell? ⟨g, off + k * 4 + 1, none⟩ = some x1 ∧ (w.setCell ⟨g, off + k * 4, none⟩ (.int .i64 (k0 + (k : Int) * 4))).frozen? ⟨g, off + k * 4 + 1, none⟩ = false) ∧
    ∃ x2 : Value, (((w.setCell ⟨g, off + k * 4, none⟩ (.int .i64 (k0 + (k : Int) * 4))).setCell ⟨g, off + k * 4 + 1, none⟩ (.int .i64 (k0 + (k : Int) * 4 + 1))).cell? ⟨g, off + k * 4 + 2, none⟩ = some x2 ∧
      ((w.setCell ⟨g, off + k * 4, none⟩ (.int .i64 (k0 + (k : Int) * 4))).setCell ⟨g, off + k * 4 + 1, none⟩ (.int .i64 (k0 + (k : Int) * 4 + 1))).frozen? ⟨g, off + k * 4 + 2, none⟩ = false) ∧
    ∃ x3 : Value, ((((w.setCell ⟨g, off + k * 4, none⟩ (.int .i64 (k0 + (k : Int) * 4))).setCell ⟨g, off + k * 4 + 1, none⟩ (.int .i64 (k0 + (k : Int) * 4 + 1))).setCell ⟨g, off + k * 4 + 2, none⟩ (.int .i64 (k0 + (k : Int) * 4 + 1 + 1))).cell? ⟨g, off + k * 4 + 3, none⟩ = some x3 ∧
      (((w.setCell ⟨g, off + k * 4, none⟩ (.int .i64 (k0 + (k : Int) * 4))).setCell ⟨g, off + k * 4 + 1, none⟩ (.int .i64 (k0 + (k : Int) * 4 + 1))).setCell ⟨g, off + k * 4 + 2, none⟩ (.int .i64 (k0 + (k : Int) * 4 + 1 + 1))).frozen? ⟨g, off + k * 4 + 3, none⟩ = false) ∧
    Row ((((w.setCell ⟨g, off + k * 4, none⟩ (.int .i64 (k0 + (k : Int) * 4))).setCell ⟨g, off + k * 4 + 1, none⟩ (.int .i64 (k0 + (k : Int) * 4 + 1))).setCell ⟨g, off + k * 4 + 2, none⟩ (.int .i64 (k0 + (k : Int) * 4 + 1 + 1))).setCell ⟨g, off + k * 4 + 3, none⟩ (.int .i64 (k0 + (k : Int) * 4 + 1 + 1 + 1)))
      lo hi E 4 (.slice (some ⟨g, off, none⟩) n c) (marks k0 (k * 4 + 1 + 1 + 1 + 1) ++ xs.drop (k * 4 + 1 + 1 + 1 + 1)) ∧
    Keep lo hi w0 ((((w.setCell ⟨g, off + k * 4, none⟩ (.int .i64 (k0 + (k : Int) * 4))).setCell ⟨g, off + k * 4 + 1, none⟩ (.int .i64 (k0 + (k : Int) * 4 + 1))).setCell ⟨g, off + k * 4 + 2, none⟩ (.int .i64 (k0 + (k : Int) * 4 + 1 + 1))).setCell ⟨g, off + k * 4 + 3, none⟩ (.int .i64 (k0 + (k : Int) * 4 + 1 + 1 + 1))) := by
  obtain ⟨g, off, rfl, hlo, hhi, _, _⟩ := hr.at_ (by omega)
  have st {w : World} {q : Nat} {y : Int} (h : Row w lo hi E 4 (.slice (some ⟨g, off, none⟩) n c) (marks k0 q ++ xs.drop q)) (hq : q < n * 4) (e : k0 + (q : Int) = y) :
      (∃ x : Value, w.cell? ⟨g, off + q, none⟩ = some x ∧ w.frozen? ⟨g, off + q, none⟩ = false) ∧ Row (w.setCell ⟨g, off + q, none⟩ (.int .i64 y)) lo hi E 4 (.slice (some ⟨g, off, none⟩) n c) (marks k0 (q + 1) ++ xs.drop (q + 1)) := by
    subst e
    obtain ⟨g', off', e', _, _, _, hat⟩ := h.at_ (by omega)
    injection e' with e'
    injection e' with e1 e2
    subst e1 e2
    refine ⟨⟨_, hat q _ ((marks_next k0 q xs).trans (List.getElem?_eq_getElem (by omega)))⟩, ?_⟩
    have := h.set_ q (.int .i64 (k0 + (q : Int)))
    rwa [marks_step k0 q xs (by omega)] at this
  obtain ⟨⟨x0, f0⟩, r1⟩ := st (q := k * 4) (y := k0 + (k : Int) * 4) hr (by omega) (by omega)
  obtain ⟨⟨x1, f1⟩, r2⟩ := st (q := k * 4 + 1) (y := k0 + (k : Int) * 4 + 1) r1 (by omega) (by omega)
  obtain ⟨⟨x2, f2⟩, r3⟩ := st (q := k * 4 + 1 + 1) (y := k0 + (k : Int) * 4 + 1 + 1) r2 (by omega) (by omega)
  obtain ⟨⟨x3, f3⟩, r4⟩ := st (q := k * 4 + 1 + 1 + 1) (y := k0 + (k : Int) * 4 + 1 + 1 + 1) r3 (by omega) (by omega)
  exact ⟨g, off, rfl, hlo, hhi, x0, f0, x1, f1, x2, f2, x3, f3, r4, (((hk.setCell (.inl ⟨hlo, hhi⟩) _).setCell (.inl ⟨hlo, hhi⟩) _).setCell (.inl ⟨hlo, hhi⟩) _).setCell (.inl ⟨hlo, hhi⟩) _⟩

theorem elEnt : Elem Try.prog 24 26 (.agg #[.int .i64 0, .int .i64 0, .int .i64 0, .int .i64 0]) 4 32 :=
  ⟨Try.underlying24, info_parts (by kernel_rfl), rfl, by decide⟩
end Go.Proofs.Ytcoipfnphmealaa
