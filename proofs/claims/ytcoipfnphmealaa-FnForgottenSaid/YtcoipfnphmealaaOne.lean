/-
  An argument that is a slice of one-cell elements (bytes, bools): the value, and its cells as a list. Plain lemmas; no program in sight.
-/
import Derived.Test.YtcoipfnphmealaaOpen
namespace Go.Proofs.Ytcoipfnphmealaa
open Go.ChangeShapes Go.WideShapes Go.Deep Go.RowKit

/-- A slice of one-cell elements of which each cell is 'mk' of something that has 'ok'. -/
theorem open_ones {α : Type} {mk : α → Value} {ok : α → Prop} {H : Type} {enc : TypeId × Value → H} {P : Program} {w : World} {base : Nat} {spare : Nat → Bool} {held : Bool} {t e : TypeId} {fuel : Nat} {A : Option Addr} {len cap : Nat} {x : DataW H × List MemPlace}
    (ht : P.underlying t = some (.slice e)) (hC : P.cellsOf e = 1) (hel : ∀ (n : Nat) (v : Value) (y : DataW H × List MemPlace), DataW.trod enc P w base spare held n e [v] = some y → ∃ a, v = mk a ∧ ok a)
    (h : DataW.trod enc P w base spare held fuel t [.slice A len cap] = some x) : ∃ xs : List α, Rd w w.heap.size 1 (.slice A len cap) (xs.map mk) ∧ xs.length = len ∧ ∀ a ∈ xs, ok a := by
  rcases open_slice1 ht hC h with ⟨hcs, _⟩ | ⟨a, len', cap', m, n, V, D, Pl, hcs, _, hl, hm, hmm, _, hi⟩
  · simp at hcs
    obtain ⟨rfl, rfl, rfl⟩ := hcs
    exact ⟨[], ⟨none, 0, 0, rfl, Nat.le_refl _, Nat.zero_le _, by simp, fun h => absurd h (by omega)⟩, rfl, by simp⟩
  · simp at hcs
    obtain ⟨rfl, rfl, rfl⟩ := hcs
    have hmle : len ≤ m := by rw [hmm]; split <;> omega
    have hx : ∀ q, q < len → ∃ x : {x : α // ok x}, w.cell? (a.add q) = some (mk x.1) := by
      intro q hq
      obtain ⟨h1, h2⟩ := hi q (by omega)
      obtain ⟨z, h3, h4⟩ := hel _ _ _ h2
      exact ⟨⟨z, h4⟩, by rw [h1, h3]⟩
    rcases Nat.eq_zero_or_pos len with rfl | hpos
    · exact ⟨[], ⟨_, 0, cap, rfl, hl, hm, by simp, fun h => absurd h (by omega)⟩, rfl, by simp⟩
    obtain ⟨z0, hz0⟩ := hx 0 hpos
    haveI : Inhabited {x : α // ok x} := ⟨z0⟩
    obtain ⟨X, hX⟩ := choose_lt hx
    refine ⟨(List.range len).map fun q => (X q).1, ⟨_, len, cap, rfl, hl, hm, by simp, fun hn => ?_⟩, by simp, fun z hz => ?_⟩
    · have h0 := hX 0 hn
      obtain ⟨b, off, s⟩ := a
      obtain rfl : s = none := by simpa [Addr.add] using spot_none h0
      refine ⟨b, off, rfl, by simpa [Addr.add] using World.block_lt_of_cell? _ _ h0, fun j u hu => ?_⟩
      simp only [List.getElem?_map, Option.map_eq_some_iff] at hu
      obtain ⟨y, ⟨q, hq, rfl⟩, rfl⟩ := hu
      have hjl : j < len := by simpa using (List.getElem?_eq_some_iff.1 hq).1
      rw [List.getElem?_range hjl] at hq
      injection hq with hq
      subst hq
      rw [← add_none]
      exact hX j hjl
    · simp only [List.mem_map] at hz
      obtain ⟨q, _, rfl⟩ := hz
      exact (X q).2
/-- Bytes in cells. -/
def byts (l : List Int) : List Value := l.map (Value.int .u8)
def bols (l : List Bool) : List Value := l.map Value.bool
theorem open_byts {H : Type} {enc : TypeId × Value → H} {P : Program} {w : World} {base : Nat} {spare : Nat → Bool} {held : Bool} {t e : TypeId} {A : Option Addr} {len cap : Nat} {d : DataW H} {p : List MemPlace}
    (ht : P.underlying t = some (.slice e)) (he : P.underlying e = some (.int .u8)) (hC : P.cellsOf e = 1) (h : DataW.Trod enc P w base spare held t (.slice A len cap) d p) : ∃ xs : List Int, Rd w w.heap.size 1 (.slice A len cap) (byts xs) ∧ xs.length = len := by
  obtain ⟨fuel, hf⟩ := h
  obtain ⟨xs, h1, h2, _⟩ := open_ones (mk := Value.int .u8) (ok := fun _ => True) ht hC (fun n v y hy => by
    obtain ⟨a, e1, _⟩ := DataW.trod_int he hy
    simp at e1
    exact ⟨a, e1, trivial⟩) hf
  exact ⟨xs, h1, h2⟩
theorem open_bols {H : Type} {enc : TypeId × Value → H} {P : Program} {w : World} {base : Nat} {spare : Nat → Bool} {held : Bool} {t e : TypeId} {n : Nat} {A : Option Addr} {len cap : Nat} {x : DataW H × List MemPlace}
    (ht : P.underlying t = some (.slice e)) (he : P.underlying e = some .bool) (hC : P.cellsOf e = 1) (h : DataW.trod enc P w base spare held n t [.slice A len cap] = some x) : ∃ xs : List Bool, Rd w w.heap.size 1 (.slice A len cap) (bols xs) ∧ xs.length = len := by
  obtain ⟨xs, h1, h2, _⟩ := open_ones (mk := Value.bool) (ok := fun _ => True) ht hC (fun n v y hy => by
    obtain ⟨a, e1, _⟩ := DataW.trod_bool he hy
    simp at e1
    exact ⟨a, e1, trivial⟩) h
  exact ⟨xs, h1, h2⟩
/-- A field that is a slice: its value is one. -/
theorem slice_field {H : Type} {enc : TypeId × Value → H} {P : Program} {w : World} {base : Nat} {spare : Nat → Bool} {held : Bool} {t e : TypeId} {n : Nat} {v : Value} {x : DataW H × List MemPlace}
    (ht : P.underlying t = some (.slice e)) (h : DataW.trod enc P w base spare held n t [v] = some x) : ∃ A len cap, v = .slice A len cap := by
  rcases open_slice ht h with ⟨hcs, _⟩ | ⟨a, len, cap, m, n, D, Pl, hcs, _⟩
  · simp at hcs
    exact ⟨_, _, _, hcs⟩
  · simp at hcs
    exact ⟨_, _, _, hcs⟩
theorem open_flat_field {H : Type} {enc : TypeId × Value → H} {P : Program} {w : World} {base : Nat} {spare : Nat → Bool} {held : Bool} {t e : TypeId} {fs : Array Field} {A : Option Addr} {len cap n : Nat} {x : DataW H × List MemPlace}
    (ht : P.underlying t = some (.slice e)) (he : P.underlying e = some (.struct fs)) (hone : oneCellFields P fs = true) (hC : P.cellsOf e = fs.size) (hint : ∀ (j : Nat) (f : Field), fs[j]? = some f → P.underlying f.type = some (.int .i64)) (hpos : 0 < fs.size)
    (h : DataW.trod enc P w base spare held n t [.slice A len cap] = some x) : ∃ xs : List Int, Rd w w.heap.size fs.size (.slice A len cap) (ints xs) ∧ xs.length = len * fs.size :=
  open_flat (d := x.1) (p := x.2) ht he hone hC hint hpos ⟨n, by simpa [Value.cells] using h⟩
end Go.Proofs.Ytcoipfnphmealaa
