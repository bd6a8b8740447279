/-
  Local variables of several cells: a block with its cells, carried from world to world.
-/
import Derived.Test.YtcoipfnphmealaaCur
namespace Go.Proofs.Ytcoipfnphmealaa
open Go.RowKit

/-- The block q is a local variable with the cells cs. -/
structure Lo (w : World) (q : Nat) (E : TypeId) (cs : Array Value) : Prop where
  row : w.heap[q]? = some (.cells cs E (0, 0))
section
variable {w w' : World} {q g : Nat} {E : TypeId} {cs : Array Value}
theorem Lo.lt (h : Lo w q E cs) : q < w.heap.size := (Array.getElem?_eq_some_iff.1 h.row).1
theorem Lo.keep0 (h : Lo w q E cs) (k : Keep 0 0 w w') : Lo w' q E cs := ⟨(k.block q h.lt (.inr (Nat.zero_le _))).trans h.row⟩
theorem Lo.move (h : Lo w q E cs) (k : Keep g (g + 1) w w') (hg : g < q) : Lo w' q E cs := ⟨(k.block q h.lt (.inr hg)).trans h.row⟩
theorem Lo.cell (h : Lo w q E cs) (j : Nat) {v : Value} (hj : cs[j]? = some v) : w.cell? ⟨q, j, none⟩ = some v := (cell_of_row w q j cs E (0, 0) h.row).trans hj
theorem Lo.free (h : Lo w q E cs) (j : Nat) : w.frozen? ⟨q, j, none⟩ = false := free_of_row h.row j
theorem Lo.c3 {a b c : Value} (h : Lo w q E #[a, b, c]) : w.cell? ⟨q, 0, none⟩ = some a ∧ w.cell? ⟨q, 1, none⟩ = some b ∧ w.cell? ⟨q, 2, none⟩ = some c ∧ w.frozen? ⟨q, 0, none⟩ = false ∧ w.frozen? ⟨q, 1, none⟩ = false ∧ w.frozen? ⟨q, 2, none⟩ = false :=
  ⟨h.cell 0 rfl, h.cell 1 rfl, h.cell 2 rfl, h.free 0, h.free 1, h.free 2⟩
theorem Lo.c2 {a b : Value} (h : Lo w q E #[a, b]) : w.cell? ⟨q, 0, none⟩ = some a ∧ w.cell? ⟨q, 1, none⟩ = some b ∧ w.frozen? ⟨q, 0, none⟩ = false ∧ w.frozen? ⟨q, 1, none⟩ = false :=
  ⟨h.cell 0 rfl, h.cell 1 rfl, h.free 0, h.free 1⟩
theorem Lo.new (w : World) (E : TypeId) (cs : Array Value) {p : Nat} (hp : w.heap.size = p) : Lo (w.alloc (.cells cs E)) p E cs := by
  subst hp
  exact ⟨Go.heap_alloc_new w _⟩
theorem Lo.set (h : Lo w q E cs) (j : Nat) (u : Value) : Lo (w.setCell ⟨q, j, none⟩ u) q E (cs.setIfInBounds j u) := by
  have hlt := h.lt
  have hr := h.row
  refine ⟨?_⟩
  simp [World.setCell, Array.getElem?_modify, hr]
theorem Lo.set3_0 {a b c : Value} (h : Lo w q E #[a, b, c]) (u : Value) : Lo (w.setCell ⟨q, 0, none⟩ u) q E #[u, b, c] := h.set 0 u
theorem Lo.set3_1 {a b c : Value} (h : Lo w q E #[a, b, c]) (u : Value) : Lo (w.setCell ⟨q, 1, none⟩ u) q E #[a, u, c] := h.set 1 u
theorem Lo.set3_2 {a b c : Value} (h : Lo w q E #[a, b, c]) (u : Value) : Lo (w.setCell ⟨q, 2, none⟩ u) q E #[a, b, u] := h.set 2 u
theorem Lo.set2_0 {a b : Value} (h : Lo w q E #[a, b]) (u : Value) : Lo (w.setCell ⟨q, 0, none⟩ u) q E #[u, b] := h.set 0 u
theorem Lo.set2_1 {a b : Value} (h : Lo w q E #[a, b]) (u : Value) : Lo (w.setCell ⟨q, 1, none⟩ u) q E #[a, u] := h.set 1 u
theorem Lo.other (h : Lo w q E cs) {b j : Nat} (u : Value) (hb : b ≠ q) : Lo (w.setCell ⟨b, j, none⟩ u) q E cs := ⟨by rw [show (w.setCell ⟨b, j, none⟩ u).heap[q]? = w.heap[q]? from Below.heap_setCell w _ u q (by show q ≠ b; omega)]; exact h.row⟩
end
theorem Cur.other {w : World} {g b j : Nat} (h : Cur w g) (u : Value) (hb : g < b) : Cur (w.setCell ⟨b, j, none⟩ u) g :=
  h.keep (lo := b) (hi := b + 1) ((Keep.refl b (b + 1) w).setCell (p := ⟨b, j, none⟩) (.inl ⟨Nat.le_refl _, Nat.lt_succ_self _⟩) u) (.inl hb)
theorem Lo.c4 {w : World} {q : Nat} {E : TypeId} {a b c d : Value} (h : Lo w q E #[a, b, c, d]) : w.cell? ⟨q, 0, none⟩ = some a ∧ w.cell? ⟨q, 1, none⟩ = some b ∧ w.cell? ⟨q, 2, none⟩ = some c ∧ w.cell? ⟨q, 3, none⟩ = some d ∧ w.frozen? ⟨q, 0, none⟩ = false ∧ w.frozen? ⟨q, 1, none⟩ = false ∧ w.frozen? ⟨q, 2, none⟩ = false ∧ w.frozen? ⟨q, 3, none⟩ = false :=
  ⟨h.cell 0 rfl, h.cell 1 rfl, h.cell 2 rfl, h.cell 3 rfl, h.free 0, h.free 1, h.free 2, h.free 3⟩
theorem Lo.set4 {w : World} {q : Nat} {E : TypeId} {a b c d a' b' c' d' : Value} (h : Lo w q E #[a, b, c, d]) : Lo ((((w.setCell ⟨q, 0, none⟩ a').setCell ⟨q, 1, none⟩ b').setCell ⟨q, 2, none⟩ c').setCell ⟨q, 3, none⟩ d') q E #[a', b', c', d'] :=
  (((h.set 0 a').set 1 b').set 2 c').set 3 d'
theorem Lo.drew {w : World} {q : Nat} {E : TypeId} {cs : Array Value} (h : Lo w q E cs) : Lo w.drew q E cs := h.keep0 (Keep.refl 0 0 w).drew
theorem boxed4 {X w : World} {E : TypeId} {a b c d : Value} (k : Keep 0 0 (X.alloc (.cells #[a, b, c, d] E)).drew w) : Lo w X.heap.size E #[a, b, c, d] := ((Lo.new X E #[a, b, c, d] rfl).drew).keep0 k
/-- An integer of the machine. -/
def Lim (x : Int) : Prop := -9223372036854775808 ≤ x ∧ x ≤ 9223372036854775807
theorem lim_of {x : Int} (h : -1000 ≤ x) (h2 : x ≤ 1000) : Lim x := ⟨by omega, by omega⟩
theorem lim0 : Lim 0 := lim_of (by omega) (by omega)
theorem Keep.any0 {w w' : World} (h : Keep 0 0 w w') (lo hi : Nat) : Keep lo hi w w' := h.mono (.inl (Nat.le_refl 0))
end Go.Proofs.Ytcoipfnphmealaa
