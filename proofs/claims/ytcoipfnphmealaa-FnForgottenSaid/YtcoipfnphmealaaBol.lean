/-
  Contracts of the statements' helpers on slices of bools: size, copy, comparison, marks.
-/
import Derived.Test.YtcoipfnphmealaaOne
import Derived.Test.YtcoipfnphmealaaSize
import Derived.Test.YtcoipfnphmealaaProg
import Derived.WalkKit
import Derived.WalkSpells
import Derived.Deep.QuietTactic
import Derived.BigQuiet
import Derived.Handy
namespace Go.Proofs.Ytcoipfnphmealaa
open Go.RowKit

theorem bols_get (l : List Bool) (k : Nat) (h : k < l.length) : (bols l)[k]? = some (.bool l[k]) := by simp [bols, h]
theorem bols_length (l : List Bool) : (bols l).length = l.length := by simp [bols]
theorem bols_one (l : List Bool) : ∀ u ∈ bols l, u.oneCell' = true := by
  intro u hu
  simp only [bols, List.mem_map] at hu
  obtain ⟨x, _, rfl⟩ := hu
  rfl
/-- The bools that a mark writes. -/
def bmark (k : Int) : Bool := k % 3 == 0
def bmarks (k : Int) (n : Nat) : List Bool := (List.range n).map fun (i : Nat) => bmark (k + (i : Int))
theorem bmarks_length (k : Int) (n : Nat) : (bmarks k n).length = n := by simp [bmarks]
theorem bmarks_get (k : Int) (n j : Nat) (h : j < n) : (bols (bmarks k n))[j]? = some (.bool (bmark (k + (j : Int)))) := by simp [bols, bmarks, h]
theorem bmarks_step (k : Int) (j : Nat) (cs : List Value) (h : j < cs.length) : (bols (bmarks k j) ++ cs.drop j).set j (.bool (bmark (k + (j : Int)))) = bols (bmarks k (j + 1)) ++ cs.drop (j + 1) := by
  have hl (n : Nat) : (bols (bmarks k n)).length = n := by rw [bols_length, bmarks_length]
  apply List.ext_getElem?
  intro i
  rw [List.getElem?_set]
  by_cases h1 : j = i
  · subst h1
    rw [if_pos rfl, if_pos (by simp [hl]; omega), List.getElem?_append_left (by rw [hl]; omega), bmarks_get _ _ _ (by omega)]
  · rw [if_neg h1]
    by_cases h2 : i < j
    · rw [List.getElem?_append_left (by rw [hl]; omega), List.getElem?_append_left (by rw [hl]; omega), bmarks_get _ _ _ h2, bmarks_get _ _ _ (by omega)]
    · rw [List.getElem?_append_right (by rw [hl]; omega), List.getElem?_append_right (by rw [hl]; omega), hl, hl, List.getElem?_drop, List.getElem?_drop]
      congr 1
      omega
theorem bmarks_next (k : Int) (j : Nat) (cs : List Value) : (bols (bmarks k j) ++ cs.drop j)[j]? = cs[j]? := by
  have hl : (bols (bmarks k j)).length = j := by rw [bols_length, bmarks_length]
  rw [List.getElem?_append_right (by rw [hl]; omega), hl, List.getElem?_drop]
  congr 1
  omega
theorem elBol : Elem Try.prog 53 4 (.bool false) 1 1 :=
  ⟨Try.underlying53, info_parts (by kernel_rfl), rfl, by decide⟩
end Go.Proofs.Ytcoipfnphmealaa
