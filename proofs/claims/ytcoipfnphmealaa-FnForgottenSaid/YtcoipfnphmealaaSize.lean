/-
  Contracts of the statements' size helpers at any allowance left.
-/
import Derived.Test.YtcoipfnphmealaaTwo
namespace Go.Proofs.Ytcoipfnphmealaa
open Go.RowKit
/-- What is left of an allowance; -1 where it does not suffice. -/
def leftT (L : Int) (n : Nat) : Int := if (n : Int) ≤ L then L - n else -1
theorem leftT_in {L : Int} {n : Nat} (h : (n : Int) ≤ L) : leftT L n = L - n := if_pos h
theorem leftT_out {L : Int} {n : Nat} (h : ¬ (n : Int) ≤ L) : leftT L n = -1 := if_neg h
end Go.Proofs.Ytcoipfnphmealaa
