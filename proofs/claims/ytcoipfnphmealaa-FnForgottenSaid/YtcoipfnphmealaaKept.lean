/-
  Contracts of the statements' helpers on what is kept of tables: a struct of a slice of bools and a slice of slots.
-/
import Derived.Test.YtcoipfnphmealaaBol
import Derived.Test.YtcoipfnphmealaaKeep
import Derived.Test.YtcoipfnphmealaaPair
namespace Go.Proofs.Ytcoipfnphmealaa
open Go.RowKit

/-- Two rows that may be written, in blocks of their own, in the window lo .. hi-1. -/
def Duo (w : World) (lo hi : Nat) (va vb : Value) (cs ds : List Value) : Prop :=
  ∃ m, lo ≤ m ∧ m ≤ hi ∧ ((Row w lo m 4 1 va cs ∧ Row w m hi 67 2 vb ds) ∨ (Row w m hi 4 1 va cs ∧ Row w lo m 67 2 vb ds))
section
variable {w w' : World} {lo hi : Nat} {va vb : Value} {cs ds : List Value}
theorem Duo.a (h : Duo w lo hi va vb cs ds) : Row w lo hi 4 1 va cs := by
  obtain ⟨m, h1, h2, ⟨h3, _⟩ | ⟨h3, _⟩⟩ := h
  · exact h3.mono (Nat.le_refl _) h2
  · exact h3.mono h1 (Nat.le_refl _)
theorem Duo.b (h : Duo w lo hi va vb cs ds) : Row w lo hi 67 2 vb ds := by
  obtain ⟨m, h1, h2, ⟨_, h3⟩ | ⟨_, h3⟩⟩ := h
  · exact h3.mono h1 (Nat.le_refl _)
  · exact h3.mono (Nat.le_refl _) h2
theorem Duo.keep {lo' hi' : Nat} (h : Duo w lo hi va vb cs ds) (hk : Keep lo' hi' w w') (hd : hi ≤ lo' ∨ hi' ≤ lo ∨ hi' ≤ lo') : Duo w' lo hi va vb cs ds := by
  obtain ⟨m, h1, h2, ⟨h3, h4⟩ | ⟨h3, h4⟩⟩ := h
  · exact ⟨m, h1, h2, .inl ⟨h3.keep hk (by omega), h4.keep hk (by omega)⟩⟩
  · exact ⟨m, h1, h2, .inr ⟨h3.keep hk (by omega), h4.keep hk (by omega)⟩⟩
theorem Duo.mono {lo' hi' : Nat} (h : Duo w lo hi va vb cs ds) (h1 : lo' ≤ lo) (h2 : hi ≤ hi') : Duo w lo' hi' va vb cs ds := by
  obtain ⟨m, h3, h4, ⟨h5, h6⟩ | ⟨h5, h6⟩⟩ := h
  · exact ⟨m, by omega, by omega, .inl ⟨h5.mono h1 (Nat.le_refl _), h6.mono (Nat.le_refl _) h2⟩⟩
  · exact ⟨m, by omega, by omega, .inr ⟨h5.mono (Nat.le_refl _) h2, h6.mono h1 (Nat.le_refl _)⟩⟩
end
end Go.Proofs.Ytcoipfnphmealaa
