/-
  DERIVED. GIVEN WITH THE SEED: THE CARDS: each row of YtdlcchoemladnaaDoorRows.lean that lists a variable, with what it lists TIED to the program's text (the seventh form; the later family's looks); each row that meets fmt, with fmt's text TOLD by the authors' own Lean function (tested against real Go, not proved from fmt's source: count such statements apart). THE CARD IS WHAT COUNTS. Prove the row's statement (the work); the ties are given (YtdlcchoemladnaaDoorTie.lean); close each card by the builder's one call (the guide's Derived/Test/ToyasCard.lean, 'card_holds'). Laid BY PROGRAM, IN A SANDBOX (cutbox-door.mjs). By AI agents, Wed Nov 11 2026. No macro, syntax, notation, axiom, sorry.
-/
import Derived.Test.YtdlcchoemladnaaDoorRows
import GoSem.ClaimSeven
namespace Go.Proofs.YtdlcchoemladnaaDoor
namespace Rows

/-- THE TIED CARD OF 'laws.FnExits'. -/
def fnExitsCard : Claim7 := { stood := { row := fnExitsRow, standIns := [], harness := (true, "fd547e5e7ff390115615cfc31cecee3ec0160f34206a7d10196db6eb3a751855"), looks := false }, kinds := [], alts := [], laidByText := true, laidKinds := [.data, .data, .data], laidTests := true, laidLooks := .later }
def FnExitsCardSaid : Prop := Claim7.holds Tryd.pinned (.plain (OpenSpec.ofChange fnExitsSpec)) fnExitsCard

/-- THE TIED CARD OF 'laws.FnExitWords'. -/
def fnExitWordsCard : Claim7 := { stood := { row := fnExitWordsRow, standIns := [], harness := (true, "fd547e5e7ff390115615cfc31cecee3ec0160f34206a7d10196db6eb3a751855"), looks := false }, kinds := [], alts := [], laidByText := true, laidKinds := [.data, .data, .data], laidTests := true, laidLooks := .later }
def FnExitWordsCardSaid : Prop := Claim7.holds Tryd.pinned (.plain (OpenSpec.ofChange fnExitWordsSpec)) fnExitWordsCard

/-- THE TIED CARD OF 'laws.FnControl'. -/
def fnControlCard : Claim7 := { stood := { row := fnControlRow, standIns := [], harness := (true, "fd547e5e7ff390115615cfc31cecee3ec0160f34206a7d10196db6eb3a751855"), looks := false }, kinds := [], alts := [], laidByText := true, laidKinds := [.data, .data, .data], laidTests := true, laidLooks := .later }
def FnControlCardSaid : Prop := Claim7.holds Tryd.pinned (.plain (OpenSpec.ofChange fnControlSpec)) fnControlCard

/-- THE SECOND FORM's CARD OF 'laws.FnExits'. -/
def fnExitsUptoCard : Claim7 := { stood := { row := fnExitsUptoRow, standIns := [], harness := (true, "fd547e5e7ff390115615cfc31cecee3ec0160f34206a7d10196db6eb3a751855"), looks := false }, kinds := [], alts := [], laidByText := true, laidKinds := [.data, .data, .data], laidTests := true, laidLooks := .later }
def FnExitsUptoCardSaid : Prop := Claim7.holds Tryd.pinned (.plain (OpenSpec.upto fnExitsSpec)) fnExitsUptoCard

/-- THE SECOND FORM's CARD OF 'laws.FnExitWords'. -/
def fnExitWordsUptoCard : Claim7 := { stood := { row := fnExitWordsUptoRow, standIns := [], harness := (true, "fd547e5e7ff390115615cfc31cecee3ec0160f34206a7d10196db6eb3a751855"), looks := false }, kinds := [], alts := [], laidByText := true, laidKinds := [.data, .data, .data], laidTests := true, laidLooks := .later }
def FnExitWordsUptoCardSaid : Prop := Claim7.holds Tryd.pinned (.plain (OpenSpec.upto fnExitWordsSpec)) fnExitWordsUptoCard

/-- THE SECOND FORM's CARD OF 'laws.FnControl'. -/
def fnControlUptoCard : Claim7 := { stood := { row := fnControlUptoRow, standIns := [], harness := (true, "fd547e5e7ff390115615cfc31cecee3ec0160f34206a7d10196db6eb3a751855"), looks := false }, kinds := [], alts := [], laidByText := true, laidKinds := [.data, .data, .data], laidTests := true, laidLooks := .later }
def FnControlUptoCardSaid : Prop := Claim7.holds Tryd.pinned (.plain (OpenSpec.upto fnControlSpec)) fnControlUptoCard
end Rows
end Go.Proofs.YtdlcchoemladnaaDoor
