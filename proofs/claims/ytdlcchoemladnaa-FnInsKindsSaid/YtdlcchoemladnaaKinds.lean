/-
  Plain laws of instructions: every kind in its own range.
-/
import Derived.Test.YtdlcchoemladnaaBits
namespace Go.Proofs.Ytdlcchoemladnaa
open Go.RowKit
theorem page_low (x : Int) (h : 0 ≤ x ∧ x < 16) : 0 ≤ pageT x := by
  unfold pageT
  rw [if_neg (by omega), Int.tdiv_eq_ediv_of_nonneg h.1]
  unfold wrap64
  omega
end Go.Proofs.Ytdlcchoemladnaa
