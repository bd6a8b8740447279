/-
  More on the frame between two worlds.
-/
import Derived.Test.YtcoipfnphmealaaMem
namespace Go.Proofs.Ytcoipfnphmealaa
open Go.RowKit

theorem Keep.cells {w w' : World} (h : Keep 0 0 w w') {q j : Nat} {v : Value} (hq : q < w.heap.size) (hc : w.cell? ⟨q, j, none⟩ = some v) : w'.cell? ⟨q, j, none⟩ = some v := (h.cell0 (p := ⟨q, j, none⟩) hq).trans hc
theorem Keep.free {w w' : World} (h : Keep 0 0 w w') {q j : Nat} (hq : q < w.heap.size) (hc : w.frozen? ⟨q, j, none⟩ = false) : w'.frozen? ⟨q, j, none⟩ = false := (h.frozen (p := ⟨q, j, none⟩) hq (.inr (Nat.zero_le _))).trans hc
theorem Keep.win {a b c : World} {lo hi : Nat} (h : Keep lo hi a b) (k : Keep lo hi b c) : Keep lo hi a c := h.trans k fun _ _ h => ⟨h, h⟩
end Go.Proofs.Ytcoipfnphmealaa
