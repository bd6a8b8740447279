/-
  DERIVED. GIVEN WITH THE SEED: THE CARDS: each row of YtignedkhklfonaaDoorRows.lean that lists a variable, with what it lists TIED to the program's text (the seventh form; the later family's looks); each row that meets fmt, with fmt's text TOLD by the authors' own Lean function (tested against real Go, not proved from fmt's source: count such statements apart). THE CARD IS WHAT COUNTS. Prove the row's statement (the work); the ties are given (YtignedkhklfonaaDoorTie.lean); close each card by the builder's one call (the guide's Derived/Test/ToyasCard.lean, 'card_holds'). Laid BY PROGRAM, IN A SANDBOX (cutbox-door.mjs). By AI agents, Wed Nov 11 2026. No macro, syntax, notation, axiom, sorry.
-/
import Derived.Test.YtignedkhklfonaaDoorRows
import GoSem.ClaimSeven
namespace Go.Proofs.YtignedkhklfonaaDoor
namespace Rows

/-- THE TIED CARD OF 'laws.FnExactCtlText'. -/
def fnExactCtlTextCard : Claim7 := { stood := { row := fnExactCtlTextRow, standIns := [], harness := (true, "16535167daaa9cfefdba90d116685ea0d95cd9acaf85045056dbcefed811f71b"), looks := false }, kinds := [], alts := [], laidByText := true, laidKinds := [.data, .data, .data], laidTests := true, laidLooks := .later }
def FnExactCtlTextCardSaid : Prop := Claim7.holds Tryd.pinned (.plain (OpenSpec.ofChange fnExactCtlTextSpec)) fnExactCtlTextCard

/-- THE TIED CARD OF 'laws.FnExactExitText'. -/
def fnExactExitTextCard : Claim7 := { stood := { row := fnExactExitTextRow, standIns := [], harness := (true, "16535167daaa9cfefdba90d116685ea0d95cd9acaf85045056dbcefed811f71b"), looks := false }, kinds := [], alts := [], laidByText := true, laidKinds := [.data, .data, .data], laidTests := true, laidLooks := .later }
def FnExactExitTextCardSaid : Prop := Claim7.holds Tryd.pinned (.plain (OpenSpec.ofChange fnExactExitTextSpec)) fnExactExitTextCard

/-- THE SECOND FORM's CARD OF 'laws.FnExactCtlText'. -/
def fnExactCtlTextUptoCard : Claim7 := { stood := { row := fnExactCtlTextUptoRow, standIns := [], harness := (true, "16535167daaa9cfefdba90d116685ea0d95cd9acaf85045056dbcefed811f71b"), looks := false }, kinds := [], alts := [], laidByText := true, laidKinds := [.data, .data, .data], laidTests := true, laidLooks := .later }
def FnExactCtlTextUptoCardSaid : Prop := Claim7.holds Tryd.pinned (.plain (OpenSpec.upto fnExactCtlTextSpec)) fnExactCtlTextUptoCard

/-- THE SECOND FORM's CARD OF 'laws.FnExactExitText'. -/
def fnExactExitTextUptoCard : Claim7 := { stood := { row := fnExactExitTextUptoRow, standIns := [], harness := (true, "16535167daaa9cfefdba90d116685ea0d95cd9acaf85045056dbcefed811f71b"), looks := false }, kinds := [], alts := [], laidByText := true, laidKinds := [.data, .data, .data], laidTests := true, laidLooks := .later }
def FnExactExitTextUptoCardSaid : Prop := Claim7.holds Tryd.pinned (.plain (OpenSpec.upto fnExactExitTextSpec)) fnExactExitTextUptoCard
end Rows
end Go.Proofs.YtignedkhklfonaaDoor
