/-
  Words for memory, used by the walks of this seat: a frame relation between worlds, slices that read as lists, slices whose row the call made itself. Plain lemmas; no program in sight.
-/
import Derived.WalkKit
import Derived.Below
import Derived.Laws.OwnMore
import Derived.Laws.Rows
import Derived.Deep.Draws
import Derived.Lib.Hide
namespace Go.Proofs.Ytcoipfnphmealaa
open Go.RowKit

/-- From w to w' no block that was there has changed, but for those in the window lo .. hi-1. -/
structure Keep (lo hi : Nat) (w w' : World) : Prop where
  os : w'.os = w.os
  tape : w'.tape = w.tape
  output : w'.output = w.output
  size : w.heap.size ≤ w'.heap.size
  block : ∀ k, k < w.heap.size → (k < lo ∨ hi ≤ k) → w'.heap[k]? = w.heap[k]?

theorem Keep.refl (lo hi : Nat) (w : World) : Keep lo hi w w := ⟨rfl, rfl, rfl, Nat.le_refl _, fun _ _ _ => rfl⟩
theorem Keep.trans {l1 h1 l2 h2 lo hi : Nat} {a b c : World} (h : Keep l1 h1 a b) (k : Keep l2 h2 b c)
    (hh : ∀ i, i < a.heap.size → (i < lo ∨ hi ≤ i) → (i < l1 ∨ h1 ≤ i) ∧ (i < l2 ∨ h2 ≤ i)) : Keep lo hi a c :=
  ⟨k.os.trans h.os, k.tape.trans h.tape, k.output.trans h.output, Nat.le_trans h.size k.size,
    fun i hi' hw => (k.block i (Nat.lt_of_lt_of_le hi' h.size) (hh i hi' hw).2).trans (h.block i hi' (hh i hi' hw).1)⟩
theorem Keep.drew {lo hi : Nat} {a w : World} (h : Keep lo hi a w) : Keep lo hi a w.drew := ⟨h.os, h.tape, h.output, h.size, h.block⟩
theorem Keep.drewN {lo hi : Nat} {a w : World} (h : Keep lo hi a w) (n : Nat) : Keep lo hi a (w.drewN n) := ⟨h.os, h.tape, h.output, h.size, h.block⟩
theorem Keep.alloc {lo hi : Nat} {a w : World} (h : Keep lo hi a w) (o : Obj) : Keep lo hi a (w.alloc o) :=
  ⟨h.os, h.tape, h.output, Nat.le_trans h.size (by simp), fun i hi' hw => (Below.heap_alloc w o i (Nat.lt_of_lt_of_le hi' h.size)).trans (h.block i hi' hw)⟩
theorem Keep.setCell {lo hi : Nat} {a w : World} (h : Keep lo hi a w) {p : Addr} (hp : (lo ≤ p.block ∧ p.block < hi) ∨ a.heap.size ≤ p.block) (u : Value) : Keep lo hi a (w.setCell p u) :=
  ⟨h.os, h.tape, h.output, by simpa [World.setCell] using h.size, fun i hi' hw => (Below.heap_setCell w p u i (by omega)).trans (h.block i hi' hw)⟩
theorem Keep.grown {lo hi : Nat} {a w w' : World} {row : Option Nat} (h : Keep lo hi a w) (hg : w.grownBy w' row) (hr : ∀ k, row = some k → (lo ≤ k ∧ k < hi) ∨ a.heap.size ≤ k) : Keep lo hi a w' :=
  ⟨hg.os.trans h.os, hg.tape.trans h.tape, hg.output.trans h.output, Nat.le_trans h.size hg.size,
    fun i hi' hw => (hg.block i (Nat.lt_of_lt_of_le hi' h.size) (fun e => by have := hr i e.symm; omega)).trans (h.block i hi' hw)⟩
theorem Keep.mono {lo hi lo' hi' : Nat} {a w : World} (h : Keep lo hi a w) (hh : hi ≤ lo ∨ (lo' ≤ lo ∧ hi ≤ hi')) : Keep lo' hi' a w :=
  ⟨h.os, h.tape, h.output, h.size, fun i hi1 hw => h.block i hi1 (by omega)⟩
theorem keep_1 (w : World) (o : Obj) : Keep 0 0 w (w.alloc o) := (Keep.refl 0 0 w).alloc o
theorem keep_2 (w : World) (o p : Obj) : Keep 0 0 w ((w.alloc o).alloc p) := (keep_1 w o).alloc p
theorem Keep.below {w w' : World} (h : Keep 0 0 w w') : Below w.heap.size w w' := ⟨h.os, h.tape, h.output, h.size, fun k hk => h.block k hk (by omega)⟩
theorem Keep.of_below {w w' : World} (h : Below w.heap.size w w') : Keep 0 0 w w' := ⟨h.os, h.tape, h.output, h.size, fun k hk _ => h.block k hk⟩
theorem Keep.cell {lo hi : Nat} {w w' : World} (h : Keep lo hi w w') {p : Addr} (hp : p.block < w.heap.size) (hw : p.block < lo ∨ hi ≤ p.block) : w'.cell? p = w.cell? p :=
  World.cell?_of_block (w := w) (h.block p.block hp hw)
theorem Keep.cell0 {w w' : World} (h : Keep 0 0 w w') {p : Addr} (hp : p.block < w.heap.size) : w'.cell? p = w.cell? p := h.cell hp (.inr (Nat.zero_le _))
theorem Keep.tr0 {a b c : World} (h : Keep 0 0 a b) (k : Keep 0 0 b c) : Keep 0 0 a c := h.trans k fun i _ _ => by omega
theorem Keep.trm {a b c : World} {lo hi : Nat} (h : Keep 0 0 a b) (k : Keep lo hi b c) (hl : a.heap.size ≤ lo) : Keep 0 0 a c := h.trans k fun i _ _ => by omega
theorem Keep.frozen {lo hi : Nat} {w w' : World} (h : Keep lo hi w w') {p : Addr} (hp : p.block < w.heap.size) (hw : p.block < lo ∨ hi ≤ p.block) : w'.frozen? p = w.frozen? p :=
  World.frozen?_of_block (w := w) (h.block p.block hp hw)

/-- The slice value v holds the cells xs ('sz' cells an element), all in blocks below hi. -/
def Rd (w : World) (hi sz : Nat) (v : Value) (xs : List Value) : Prop :=
  ∃ (A : Option Addr) (n cap : Nat), v = .slice A n cap ∧ n ≤ cap ∧ cap ≤ maxLen ∧ xs.length = n * sz ∧
    (0 < n → ∃ b off, A = some ⟨b, off, none⟩ ∧ b < hi ∧ ∀ j u, xs[j]? = some u → w.cell? ⟨b, off + j, none⟩ = some u)

/-- The slice value v holds the cells xs in a row that may be written (element type E), in a block of the window lo .. hi-1. -/
def Row (w : World) (lo hi : Nat) (E : TypeId) (sz : Nat) (v : Value) (xs : List Value) : Prop :=
  ∃ (A : Option Addr) (n cap : Nat), v = .slice A n cap ∧ n ≤ cap ∧ cap ≤ maxLen ∧ xs.length = n * sz ∧
    (0 < n → ∃ g off cur, A = some ⟨g, off, none⟩ ∧ lo ≤ g ∧ g < hi ∧ w.heap[g]? = some (.cells cur E (0, 0)) ∧ ∀ j u, xs[j]? = some u → cur[off + j]? = some u)

section
variable {w w' : World} {lo hi lo' hi' sz : Nat} {E : TypeId} {v : Value} {xs : List Value}

theorem Rd.keep (h : Rd w hi sz v xs) (hk : Keep lo' hi' w w') (hb : hi ≤ w.heap.size) (hd : hi ≤ lo' ∨ hi' ≤ lo') : Rd w' hi sz v xs := by
  obtain ⟨A, n, cap, e, h1, h2, h3, h4⟩ := h
  refine ⟨A, n, cap, e, h1, h2, h3, fun hn => ?_⟩
  obtain ⟨b, off, hA, hlt, hc⟩ := h4 hn
  exact ⟨b, off, hA, hlt, fun j u hu => (hk.cell (p := ⟨b, off + j, none⟩) (by show b < _; omega) (by show b < _ ∨ _ ≤ b; omega)).trans (hc j u hu)⟩
theorem Rd.mono (h : Rd w hi sz v xs) (hb : hi ≤ hi') : Rd w hi' sz v xs := by
  obtain ⟨A, n, cap, e, h1, h2, h3, h4⟩ := h
  refine ⟨A, n, cap, e, h1, h2, h3, fun hn => ?_⟩
  obtain ⟨b, off, hA, hlt, hc⟩ := h4 hn
  exact ⟨b, off, hA, by omega, hc⟩

theorem Row.rd (h : Row w lo hi E sz v xs) : Rd w hi sz v xs := by
  obtain ⟨A, n, cap, e, h1, h2, h3, h4⟩ := h
  refine ⟨A, n, cap, e, h1, h2, h3, fun hn => ?_⟩
  obtain ⟨g, off, cur, hA, hl, hlt, hg, hc⟩ := h4 hn
  exact ⟨g, off, hA, hlt, fun j u hu => (cell_of_row w g (off + j) cur E (0, 0) hg).trans (hc j u hu)⟩
theorem Row.keep (h : Row w lo hi E sz v xs) (hk : Keep lo' hi' w w') (hd : hi ≤ lo' ∨ hi' ≤ lo ∨ hi' ≤ lo') : Row w' lo hi E sz v xs := by
  obtain ⟨A, n, cap, e, h1, h2, h3, h4⟩ := h
  refine ⟨A, n, cap, e, h1, h2, h3, fun hn => ?_⟩
  obtain ⟨g, off, cur, hA, hl, hlt, hg, hc⟩ := h4 hn
  have hgs : g < w.heap.size := (Array.getElem?_eq_some_iff.1 hg).1
  exact ⟨g, off, cur, hA, hl, hlt, (hk.block g hgs (by omega)).trans hg, hc⟩
theorem Row.mono (h : Row w lo hi E sz v xs) (hl : lo' ≤ lo) (hh : hi ≤ hi') : Row w lo' hi' E sz v xs := by
  obtain ⟨A, n, cap, e, h1, h2, h3, h4⟩ := h
  refine ⟨A, n, cap, e, h1, h2, h3, fun hn => ?_⟩
  obtain ⟨g, off, cur, hA, hl', hlt, hg, hc⟩ := h4 hn
  exact ⟨g, off, cur, hA, by omega, by omega, hg, hc⟩
theorem Row.clip (h : Row w lo hi E sz v xs) : Row w lo w.heap.size E sz v xs := by
  obtain ⟨A, n, cap, e, h1, h2, h3, h4⟩ := h
  refine ⟨A, n, cap, e, h1, h2, h3, fun hn => ?_⟩
  obtain ⟨g, off, cur, hA, hl', hlt, hg, hc⟩ := h4 hn
  exact ⟨g, off, cur, hA, hl', (Array.getElem?_eq_some_iff.1 hg).1, hg, hc⟩
theorem Row.of_own {base n : Nat} (h : w.ownsRow base E sz v n xs) : Row w base w.heap.size E sz v xs := by
  obtain ⟨h1, ⟨rfl, rfl⟩ | ⟨g, cap, cur, rfl, hb, hg, hn, hm, hs, ht⟩⟩ := h
  · exact ⟨none, 0, 0, rfl, Nat.le_refl _, Nat.zero_le _, h1, fun h => absurd h (by omega)⟩
  · refine ⟨_, n, cap, rfl, hn, hm, h1, fun _ => ⟨g, 0, cur, rfl, hb, (Array.getElem?_eq_some_iff.1 hg).1, hg, fun j u hu => ?_⟩⟩
    rw [← ht, List.getElem?_take] at hu
    split at hu
    · simpa using hu
    · cases hu
theorem Rd.nil (hi sz : Nat) : Rd w hi sz (.slice none 0 0) [] := ⟨none, 0, 0, rfl, Nat.le_refl _, Nat.zero_le _, by simp, fun h => absurd h (by omega)⟩
end

/-- The world has only made draws. -/
def Dr (w w' : World) : Prop := ∃ n, w' = w.drewN n
theorem Dr.refl (w : World) : Dr w w := ⟨0, rfl⟩
theorem Dr.drewN {w w' : World} (h : Dr w w') (n : Nat) : Dr w (w'.drewN n) := by
  obtain ⟨m, rfl⟩ := h
  exact ⟨m + n, by simp [World.drewN_drewN]⟩
theorem Dr.drew {w w' : World} (h : Dr w w') : Dr w w'.drew := h.drewN 1
theorem Dr.mk (w : World) (n : Nat) : Dr w (w.drewN n) := ⟨n, rfl⟩
theorem Dr.mk2 (w : World) (m n : Nat) : Dr w ((w.drewN m).drewN n) := (Dr.mk w m).drewN n
theorem Dr.keep {w w' : World} (h : Dr w w') (lo hi : Nat) : Keep lo hi w w' := by
  obtain ⟨n, rfl⟩ := h
  exact (Keep.refl lo hi w).drewN n
theorem Dr.size {w w' : World} (h : Dr w w') : w'.heap.size = w.heap.size := by
  obtain ⟨n, rfl⟩ := h
  rfl

/-- A store into a row that may be written. -/
theorem Row.set_ {w : World} {lo hi sz : Nat} {E : TypeId} {g off n c : Nat} {xs : List Value} (h : Row w lo hi E sz (.slice (some ⟨g, off, none⟩) n c) xs) (j : Nat) (u : Value) :
    Row (w.setCell ⟨g, off + j, none⟩ u) lo hi E sz (.slice (some ⟨g, off, none⟩) n c) (xs.set j u) := by
  obtain ⟨A, n', cap, e, h1, h2, h3, h4⟩ := h
  injection e with e1 e2 e3
  subst e1 e2 e3
  refine ⟨_, n, c, rfl, h1, h2, by rw [List.length_set]; exact h3, fun hn => ?_⟩
  obtain ⟨g', off', cur, hA, hl, hlt, hg, hc⟩ := h4 hn
  injection hA with hA
  injection hA with hA1 hA2
  subst hA1 hA2
  refine ⟨g, off, cur.setIfInBounds (off + j) u, rfl, hl, hlt, ?_, fun i v hv => ?_⟩
  · simp [World.setCell, Array.getElem?_modify, hg]
  · rw [List.getElem?_set] at hv
    by_cases hji : j = i
    · subst hji
      rw [if_pos rfl] at hv
      split at hv
      · have hx := hc j _ (List.getElem?_eq_getElem (by assumption))
        have hlt2 : off + j < cur.size := (Array.getElem?_eq_some_iff.1 hx).1
        rw [Array.getElem?_setIfInBounds_self_of_lt hlt2]
        exact hv
      · cases hv
    · rw [if_neg hji] at hv
      rw [Array.getElem?_setIfInBounds_ne (by omega)]
      exact hc i v hv
/-- What a walk wants of a row at one of its cells. -/
theorem Row.at_ {w : World} {lo hi sz : Nat} {E : TypeId} {A : Option Addr} {n c : Nat} {xs : List Value} (h : Row w lo hi E sz (.slice A n c) xs) (hn : 0 < n) :
    ∃ g off, A = some ⟨g, off, none⟩ ∧ lo ≤ g ∧ g < hi ∧ g < w.heap.size ∧ ∀ j u, xs[j]? = some u → w.cell? ⟨g, off + j, none⟩ = some u ∧ w.frozen? ⟨g, off + j, none⟩ = false := by
  obtain ⟨A', n', cap, e, h1, h2, h3, h4⟩ := h
  injection e with e1 e2 e3
  subst e1 e2 e3
  obtain ⟨g, off, cur, hA, hl, hlt, hg, hc⟩ := h4 hn
  exact ⟨g, off, hA, hl, hlt, (Array.getElem?_eq_some_iff.1 hg).1, fun j u hu => ⟨(cell_of_row w g (off + j) cur E (0, 0) hg).trans (hc j u hu), by simp [World.frozen?, hg]⟩⟩
theorem Row.len {w : World} {lo hi sz : Nat} {E : TypeId} {A : Option Addr} {n c : Nat} {xs : List Value} (h : Row w lo hi E sz (.slice A n c) xs) : xs.length = n * sz ∧ n ≤ c ∧ c ≤ maxLen := by
  obtain ⟨A', n', cap, e, h1, h2, h3, h4⟩ := h
  injection e with e1 e2 e3
  subst e1 e2 e3
  exact ⟨h3, h1, h2⟩
theorem Row.slice {w : World} {lo hi sz : Nat} {E : TypeId} {v : Value} {xs : List Value} (h : Row w lo hi E sz v xs) : ∃ A n c, v = .slice A n c := by
  obtain ⟨A', n', cap, e, _⟩ := h
  exact ⟨_, _, _, e⟩

/-! ### Integers in cells; the numbers k, k+1, .. that a mark writes -/
def ints (l : List Int) : List Value := l.map (Value.int .i64)
theorem ints_get (l : List Int) (k : Nat) (h : k < l.length) : (ints l)[k]? = some (.int .i64 l[k]) := by simp [ints, h]
theorem ints_length (l : List Int) : (ints l).length = l.length := by simp [ints]
theorem ints_append (l k : List Int) : ints (l ++ k) = ints l ++ ints k := by simp [ints]
def marks (k : Int) (n : Nat) : List Value := (List.range n).map fun (i : Nat) => Value.int IntKind.i64 (k + (i : Int))
theorem marks_length (k : Int) (n : Nat) : (marks k n).length = n := by simp [marks]
theorem marks_get (k : Int) (n j : Nat) (h : j < n) : (marks k n)[j]? = some (.int .i64 (k + (j : Int))) := by simp [marks, h]
theorem marks_step (k : Int) (j : Nat) (cs : List Value) (h : j < cs.length) : (marks k j ++ cs.drop j).set j (.int .i64 (k + (j : Int))) = marks k (j + 1) ++ cs.drop (j + 1) := by
  apply List.ext_getElem?
  intro i
  rw [List.getElem?_set]
  by_cases h1 : j = i
  · subst h1
    rw [if_pos rfl, if_pos (by simp [marks_length]; omega), List.getElem?_append_left (by rw [marks_length]; omega), marks_get _ _ _ (by omega)]
  · rw [if_neg h1]
    by_cases h2 : i < j
    · rw [List.getElem?_append_left (by rw [marks_length]; omega), List.getElem?_append_left (by rw [marks_length]; omega), marks_get _ _ _ h2, marks_get _ _ _ (by omega)]
    · rw [List.getElem?_append_right (by rw [marks_length]; omega), List.getElem?_append_right (by rw [marks_length]; omega), marks_length, marks_length, List.getElem?_drop, List.getElem?_drop]
      congr 1
      omega
theorem marks_next (k : Int) (j : Nat) (cs : List Value) : (marks k j ++ cs.drop j)[j]? = cs[j]? := by
  rw [List.getElem?_append_right (by rw [marks_length]; omega), marks_length, List.getElem?_drop]
  congr 1
  omega

/-! ### Elements: 'cs a' are the cells of element a -/
section
variable {α : Type}
def flat (cs : α → List Value) (l : List α) : List Value := l.flatMap cs
theorem flat_nil (cs : α → List Value) : flat cs [] = [] := rfl
theorem flat_append (cs : α → List Value) (l k : List α) : flat cs (l ++ k) = flat cs l ++ flat cs k := by simp [flat]
theorem flat_one (cs : α → List Value) (a : α) : flat cs [a] = cs a := by simp [flat]
theorem flat_length (cs : α → List Value) {sz : Nat} (hcs : ∀ a, (cs a).length = sz) (l : List α) : (flat cs l).length = l.length * sz := by
  induction l with
  | nil => simp [flat]
  | cons a l ih => rw [show a :: l = [a] ++ l from rfl, flat_append, List.length_append, flat_one, hcs, ih, List.length_append, Nat.add_mul]; simp
theorem flat_get (cs : α → List Value) {sz : Nat} (hcs : ∀ a, (cs a).length = sz) (l : List α) (i j : Nat) (hi : i < l.length) (hj : j < sz) :
    (flat cs l)[i * sz + j]? = (cs l[i])[j]? := by
  induction l generalizing i with
  | nil => simp at hi
  | cons a l ih =>
    have e : flat cs (a :: l) = cs a ++ flat cs l := by simp [flat]
    rw [e]
    cases i with
    | zero => rw [List.getElem?_append_left (by rw [hcs]; omega)]; simp
    | succ i =>
      rw [List.getElem?_append_right (by rw [hcs, Nat.succ_mul]; omega), hcs, show (i + 1) * sz + j - sz = i * sz + j from by rw [Nat.succ_mul]; omega, ih i (by simpa using hi)]
      simp
end

/-- One more cell of a row is filled: 'pre' stands, 'z' is what comes behind. -/
theorem Row.put {w : World} {lo hi sz : Nat} {E : TypeId} {g off n c q : Nat} {pre z : List Value} (h : Row w lo hi E sz (.slice (some ⟨g, off, none⟩) n c) (pre ++ z)) (hq : pre.length = q) (hz : 0 < z.length) (y : Value) :
    (∃ x : Value, w.cell? ⟨g, off + q, none⟩ = some x ∧ w.frozen? ⟨g, off + q, none⟩ = false) ∧ lo ≤ g ∧ g < hi ∧ Row (w.setCell ⟨g, off + q, none⟩ y) lo hi E sz (.slice (some ⟨g, off, none⟩) n c) ((pre ++ [y]) ++ z.drop 1) := by
  subst hq
  have hn : 0 < n := by
    rcases Nat.eq_zero_or_pos n with h0 | h0
    · have := h.len.1; rw [h0, Nat.zero_mul, List.length_append] at this; omega
    · exact h0
  obtain ⟨g', off', e', hl, hh, _, hat⟩ := h.at_ hn
  injection e' with e'
  injection e' with e1 e2
  subst e1 e2
  obtain ⟨z0, z1, rfl⟩ : ∃ z0 z1, z = z0 :: z1 := by cases z with
    | nil => simp at hz
    | cons a b => exact ⟨a, b, rfl⟩
  refine ⟨⟨z0, hat pre.length _ (by simp)⟩, hl, hh, ?_⟩
  have := h.set_ pre.length y
  rw [show (pre ++ z0 :: z1).set pre.length y = (pre ++ [y]) ++ (z0 :: z1).drop 1 from by simp] at this
  exact this
/-! ### A slice that the call is building by appends -/
/-- What the program's tables say of a slice type t with elements of type e. -/
structure Elem (P : Program) (t e : TypeId) (z : Value) (sz bytes : Nat) : Prop where
  und : P.underlying t = some (.slice e)
  inf : ∃ i, P.info? e = some i ∧ i.zero = some z ∧ i.size = sz ∧ i.bytes = bytes
  zs : z.cells.size = sz
  pos : 0 < sz

/-- Since the world w0 the blocks below B are as they were; v (n elements, cells xs) owns its row, which lies from B on. -/
structure Bld (w0 : World) (B : Nat) (e : TypeId) (sz : Nat) (w : World) (v : Value) (n : Nat) (xs : List Value) : Prop where
  own : w.ownsRow B e sz v n xs
  bel : Below B w0 w
  le : B ≤ w.heap.size

section
variable {w0 w : World} {B : Nat} {e : TypeId} {sz : Nat} {v : Value} {n : Nat} {xs : List Value}
theorem Bld.lit0 (w : World) (e : TypeId) (sz : Nat) (hB : B ≤ w.heap.size) : Bld w B e sz (w.alloc (.cells #[] e)) (.slice (some ⟨w.heap.size, 0, none⟩) 0 0) 0 [] :=
  ⟨World.ownsRow_made w #[] 0 hB (Nat.zero_le _) (by simp), (Below.refl _ _).alloc hB _, by simp; omega⟩
theorem Bld.lit (w : World) (e : TypeId) (sz : Nat) (hB : B ≤ w.heap.size) {g : Nat} (hg : w.heap.size = g) : Bld w B e sz (w.alloc (.cells #[] e)) (.slice (some ⟨g, 0, none⟩) 0 0) 0 [] := by
  subst hg
  exact Bld.lit0 w e sz hB
theorem Bld.nil0 (w : World) (e : TypeId) (sz : Nat) (hB : B ≤ w.heap.size) : Bld w B e sz w (.slice none 0 0) 0 [] :=
  ⟨World.ownsRow_nil w B e sz, Below.refl _ _, hB⟩
theorem Bld.alloc (h : Bld w0 B e sz w v n xs) (o : Obj) : Bld w0 B e sz (w.alloc o) v n xs :=
  ⟨h.own.alloc o, h.bel.alloc h.le o, by have := h.le; simp; omega⟩
theorem Bld.keep (h : Bld w0 B e sz w v n xs) {w' : World} (hk : Keep 0 0 w w') : Bld w0 B e sz w' v n xs :=
  ⟨h.own.kept (row := none) ⟨hk.os, hk.tape, hk.output, hk.size, fun k h1 _ => hk.block k h1 (by omega)⟩ (by cases v.ownBlock <;> simp),
    h.bel.trans (hk.below.mono h.le), Nat.le_trans h.le hk.size⟩
theorem Bld.drew (h : Bld w0 B e sz w v n xs) : Bld w0 B e sz w.drew v n xs := h.keep (Keep.refl 0 0 w).drew
theorem Bld.drewN (h : Bld w0 B e sz w v n xs) (k : Nat) : Bld w0 B e sz (w.drewN k) v n xs := h.keep ((Keep.refl 0 0 w).drewN k)
theorem Bld.cell (h : Bld w0 B e sz w v n xs) {p : Addr} (hp : p.block < B) : w.cell? p = w0.cell? p := h.bel.cell hp
theorem Bld.frozen (h : Bld w0 B e sz w v n xs) {p : Addr} (hp : p.block < B) : w.frozen? p = w0.frozen? p := h.bel.frozen hp
theorem Bld.row (h : Bld w0 B e sz w v n xs) : Row w B w.heap.size e sz v xs := Row.of_own h.own
theorem Bld.slice (h : Bld w0 B e sz w v n xs) : ∃ A c, v = .slice A n c := by
  rcases h.own.2 with ⟨rfl, rfl⟩ | ⟨g, cap, cur, rfl, _⟩
  · exact ⟨_, _, rfl⟩
  · exact ⟨_, _, rfl⟩
theorem Bld.len (h : Bld w0 B e sz w v n xs) : xs.length = n * sz := h.own.1
end

theorem wpList_append_bld {P : Program} {w0 w : World} {ops : Array Oper} {rest : List Oper} {o : Oper} {a : Act} {Q : Exit → Act → World → Prop} (hgd : o.guard = none) (s x : Operand) (t : TypeId)
    (ho : o.op = .call { callee := .builtin .append, args := #[s, x], argTypes := #[t, t] })
    {e : TypeId} {z : Value} {sz bytes : Nat} (el : Elem P t e z sz bytes) {B : Nat} {v : Value} {n : Nat} {xs : List Value} (hs : a.eval s = v) (hb : Bld w0 B e sz w v n xs)
    (ad : Addr) (m c : Nat) (news : List Value) (hx : a.eval x = .slice (some ad) m c) (hl : news.length = m * sz) (hnews : ∀ j u, news[j]? = some u → w.cell? (ad.add j) = some u) (h1 : ∀ u ∈ news, u.oneCell' = true)
    (h63 : n + m ≤ maxLen) (hbytes : (n + m) * bytes ≤ 140737488355328)
    (h : ∀ v' w', Bld w0 B e sz w' v' (n + m) (xs ++ news) → w.grownBy w' v.ownBlock → wpList P ops Q rest (a.put o.dst v') w') : wpList P ops Q (o :: rest) a w := by
  obtain ⟨i, hi, hz, hsz, hby⟩ := el.inf
  refine wpList_append_own w hgd s x t ho B e i z sz bytes el.und hi hz hsz hby el.zs el.pos v n xs hs hb.own ad m c news hx hl hnews h1 h63 hbytes hb.le fun v' w' h2 h3 _ => ?_
  refine h v' w' ⟨h2, hb.bel.grown h3 hb.le (fun k hk => (hb.own.lt k hk).1), Nat.le_trans hb.le h3.size⟩ h3

/-- One element, which lies in a block that was made just before. -/
theorem wpList_append_one {P : Program} {w0 w : World} {ops : Array Oper} {rest : List Oper} {o : Oper} {a : Act} {Q : Exit → Act → World → Prop} (hgd : o.guard = none) (s x : Operand) (t : TypeId)
    (ho : o.op = .call { callee := .builtin .append, args := #[s, x], argTypes := #[t, t] })
    {e : TypeId} {z : Value} {sz bytes : Nat} (el : Elem P t e z sz bytes) {B : Nat} {v : Value} {n : Nat} {xs : List Value} (hs : a.eval s = v) (hb : Bld w0 B e sz w v n xs)
    (c : Nat) (cs : List Value) (ty : TypeId) {g : Nat} (hx : a.eval x = .slice (some ⟨g, 0, none⟩) 1 c) (hg : w.heap.size = g) (hl : cs.length = sz) (h1 : ∀ u ∈ cs, u.oneCell' = true)
    (hbytes : (n + 1) * bytes ≤ 140737488355328) (h63 : n + 1 ≤ maxLen)
    (h : ∀ v' w', Bld w0 B e sz w' v' (n + 1) (xs ++ cs) → w.heap.size ≤ w'.heap.size → wpList P ops Q rest (a.put o.dst v') w') : wpList P ops Q (o :: rest) a (w.alloc (.cells cs.toArray ty)) := by
  subst hg
  refine wpList_append_bld hgd s x t ho el hs (hb.alloc _) ⟨w.heap.size, 0, none⟩ 1 c cs hx (by simpa using hl) (fun j u hu => ?_) h1 h63 hbytes fun v' w' h2 h3 => h v' w' h2 (by have := h3.size; simp at this; omega)
  rw [show (⟨w.heap.size, 0, none⟩ : Addr).add j = ⟨w.heap.size, j, none⟩ from by unfold Addr.add; split <;> simp_all]
  rw [cell_of_row _ w.heap.size j cs.toArray ty (0, 0) (Go.heap_alloc_new w _)]
  simpa using hu
theorem bld_post {w w1 : World} {o : Obj} {e : TypeId} {sz : Nat} {v : Value} {n : Nat} {xs ys : List Value} (h : Bld (w.alloc o) (w.heap.size + 1) e sz w1 v n xs) (hx : xs = ys) :
    Row w1 w.heap.size w1.heap.size e sz v ys ∧ Keep 0 0 w w1 := by
  subst hx
  refine ⟨h.row.mono (Nat.le_succ _) (Nat.le_refl _), (((Keep.refl 0 0 w).alloc o).trans (Keep.of_below (h.bel.mono (by simp))) fun i _ _ => by omega)⟩
theorem bld_post0 {w w1 : World} {e : TypeId} {sz : Nat} {v : Value} {n : Nat} {xs ys : List Value} (h : Bld w w.heap.size e sz w1 v n xs) (hx : xs = ys) :
    Row w1 w.heap.size w1.heap.size e sz v ys ∧ Keep 0 0 w w1 := by
  subst hx
  exact ⟨h.row, Keep.of_below h.bel⟩
theorem Row.lit (w : World) (E : TypeId) {sz : Nat} {cs : List Value} (n : Nat) (hl : cs.length = n * sz) (hm : n ≤ maxLen) :
    Row (w.alloc (.cells cs.toArray E)) w.heap.size (w.alloc (.cells cs.toArray E)).heap.size E sz (.slice (some ⟨w.heap.size, 0, none⟩) n n) cs :=
  ⟨_, n, n, rfl, Nat.le_refl _, hm, hl, fun _ => ⟨w.heap.size, 0, cs.toArray, rfl, Nat.le_refl _, by simp, Go.heap_alloc_new w _, fun j u hu => by simpa using hu⟩⟩
theorem Row.made (w : World) (E : TypeId) {sz : Nat} (cs : Array Value) (n : Nat) (hl : cs.size = n * sz) (hm : n ≤ maxLen) :
    Row (w.alloc (.cells cs E)) w.heap.size (w.heap.size + 1) E sz (.slice (some ⟨w.heap.size, 0, none⟩) n n) cs.toList :=
  ⟨_, n, n, rfl, Nat.le_refl _, hm, by simpa using hl, fun _ => ⟨w.heap.size, 0, cs, rfl, Nat.le_refl _, by omega, Go.heap_alloc_new w _, fun j u hu => by simpa using hu⟩⟩
/-- Four cells of a row that was made are filled. -/
theorem row_fill4 {w : World} {lo hi : Nat} {E : TypeId} {g n c k : Nat} {xs : List Int} {Z : List Value} (h : Row w lo hi E 4 (.slice (some ⟨g, 0, none⟩) n c) (ints (xs.take (k * 4)) ++ Z.drop (k * 4))) (hk : k < n) (hx : xs.length = n * 4) (hZ : Z.length = n * 4)
    {x0 x1 x2 x3 : Int} (hx4 : xs.take ((k + 1) * 4) = xs.take (k * 4) ++ [x0, x1, x2, x3]) :
    ∃ y0 y1 y2 y3 : Value, (w.cell? ⟨g, k * 4, none⟩ = some y0 ∧ w.cell? ⟨g, k * 4 + 1, none⟩ = some y1 ∧ w.cell? ⟨g, k * 4 + 2, none⟩ = some y2 ∧ w.cell? ⟨g, k * 4 + 3, none⟩ = some y3 ∧
      w.frozen? ⟨g, k * 4, none⟩ = false ∧ w.frozen? ⟨g, k * 4 + 1, none⟩ = false ∧ w.frozen? ⟨g, k * 4 + 2, none⟩ = false ∧ w.frozen? ⟨g, k * 4 + 3, none⟩ = false) ∧
    Row ((((w.setCell ⟨g, k * 4, none⟩ (.int .i64 x0)).setCell ⟨g, k * 4 + 1, none⟩ (.int .i64 x1)).setCell ⟨g, k * 4 + 2, none⟩ (.int .i64 x2)).setCell ⟨g, k * 4 + 3, none⟩ (.int .i64 x3)) lo hi E 4 (.slice (some ⟨g, 0, none⟩) n c) (ints (xs.take ((k + 1) * 4)) ++ Z.drop ((k + 1) * 4)) := by
  have hl : (ints (xs.take (k * 4))).length = k * 4 := by rw [ints_length, List.length_take]; omega
  obtain ⟨g', off', e', _, _, _, hat⟩ := h.at_ (by omega)
  injection e' with e'
  injection e' with e1 e2
  subst e1 e2
  have at_ (j : Nat) (hj : j < 4) : ∃ y : Value, w.cell? ⟨g, k * 4 + j, none⟩ = some y ∧ w.frozen? ⟨g, k * 4 + j, none⟩ = false := by
    have hlt : k * 4 + j < (ints (xs.take (k * 4)) ++ Z.drop (k * 4)).length := by rw [List.length_append, hl, List.length_drop]; omega
    have := hat (k * 4 + j) _ (List.getElem?_eq_getElem hlt)
    rw [Nat.zero_add] at this
    exact ⟨_, this⟩
  obtain ⟨y0, c0, f0⟩ := at_ 0 (by omega)
  obtain ⟨y1, c1, f1⟩ := at_ 1 (by omega)
  obtain ⟨y2, c2, f2⟩ := at_ 2 (by omega)
  obtain ⟨y3, c3, f3⟩ := at_ 3 (by omega)
  refine ⟨y0, y1, y2, y3, ⟨c0, c1, c2, c3, f0, f1, f2, f3⟩, ?_⟩
  have r1 := (h.put (q := k * 4) hl (by rw [List.length_drop]; omega) (.int .i64 x0)).2.2.2
  have r2 := (r1.put (q := k * 4 + 1) (by simp [hl]) (by simp only [List.length_drop]; omega) (.int .i64 x1)).2.2.2
  have r3 := (r2.put (q := k * 4 + 2) (by simp [hl]) (by simp only [List.length_drop]; omega) (.int .i64 x2)).2.2.2
  have r4 := (r3.put (q := k * 4 + 3) (by simp [hl]) (by simp only [List.length_drop]; omega) (.int .i64 x3)).2.2.2
  simp only [Nat.zero_add] at r4
  rw [hx4, ints_append]
  simp only [List.drop_drop, List.append_assoc, List.cons_append, List.nil_append] at r4
  rw [show (k + 1) * 4 = k * 4 + (1 + (1 + (1 + 1))) from by omega]
  simpa [ints, List.append_assoc] using r4
theorem ints_one (l : List Int) : ∀ u ∈ ints l, u.oneCell' = true := by
  intro u hu
  simp only [ints, List.mem_map] at hu
  obtain ⟨x, _, rfl⟩ := hu
  rfl
end Go.Proofs.Ytcoipfnphmealaa
