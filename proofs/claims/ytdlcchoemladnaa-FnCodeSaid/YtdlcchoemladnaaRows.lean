/-
  No cell of these rows narrows 'for every input' (looked for: loops, veiled, ifaces, maps, wideKeys, modest, calm, conditions, laid).
  DERIVED. THE GIVEN ROWS OF THIS SEAT. 5 by the template 'for every input the law returns true; each argument reads behind the call as it read before'; 0 by the template 'total and deterministic' (their statements: YtdlcchoemladnaaTotals.lean).
  GIVEN WITH THE SEED: the statements are not yours to turn. If you find one false, say at which input.
  Laid BY PROGRAM, IN A SANDBOX (cutbox-rows.mjs): the forced cells as the released guide's own fill.sh prints them over the translation 2fea36e4b4ba4dc0… (all of the seat's roots in one cut). By AI agents, Wed Nov 11 2026. No macro, syntax, notation, axiom, sorry.
-/
import Derived.Test.YtdlcchoemladnaaChecked
import GoSem.Claim
import GoSem.ClaimJoined
import GoSem.ClaimMapViews
import Derived.JoinedTies
import Derived.KernelRfl
namespace Go.Proofs.Ytdlcchoemladnaa
/- THE CELL 'sum', in the pinned program and in every row, IS THE sha256 OF THE DUMP (.gsa) THAT YtdlcchoemladnaaProg.lean LOADS. Nothing in Lean hashes anything: it is a label: what it is worth is what the hold of that sum in a sandbox is worth. -/
noncomputable def Try.pinned : Pinned := { name := "ytdlcchoemladnaa", sum := "2fea36e4b4ba4dc0b9c7ca82e558806b5103e6f2347c13bba9a7e8aec86735a9", checked := Try.checked }
namespace Rows
def none {H : Type} : Left H := { results := [], args := [] }

/-- 'laws.FnMerged': WHATEVER THE INPUT: true; the input reads as it did. -/
def fnMergedSpec : ChangeSpec := { name := "fnMerged", fn := fun _ => fun
  | [d] => { results := [.lit (.bool true)], args := [d] }
  | _ => none }
def fnMergedRow : OpenClaim := { program := "ytdlcchoemladnaa", sum := "2fea36e4b4ba4dc0b9c7ca82e558806b5103e6f2347c13bba9a7e8aec86735a9", func := "loop.example/g00975/laws.FnMerged", spec := "fnMerged", apart := false }
def FnMergedSaid : Prop := fnMergedRow.holds Try.pinned (OpenSpec.ofChange fnMergedSpec)

/-- ITS FALSE NEIGHBOUR: 'it returns false'. Refute it at one input. -/
def fnMergedWrong : ChangeSpec := { name := "fnMerged", fn := fun _ => fun
  | [d] => { results := [.lit (.bool false)], args := [d] }
  | _ => none }
def FnMergedWrongFalsely : Prop := fnMergedRow.holds Try.pinned (OpenSpec.ofChange fnMergedWrong)

/-- 'laws.FnCode': WHATEVER THE INPUT: true; the input reads as it did. -/
def fnCodeSpec : ChangeSpec := { name := "fnCode", fn := fun _ => fun
  | [d] => { results := [.lit (.bool true)], args := [d] }
  | _ => none }
def fnCodeRow : OpenClaim := { program := "ytdlcchoemladnaa", sum := "2fea36e4b4ba4dc0b9c7ca82e558806b5103e6f2347c13bba9a7e8aec86735a9", func := "loop.example/g00975/laws.FnCode", spec := "fnCode", apart := false }
def FnCodeSaid : Prop := fnCodeRow.holds Try.pinned (OpenSpec.ofChange fnCodeSpec)

/-- ITS FALSE NEIGHBOUR: 'it returns false'. Refute it at one input. -/
def fnCodeWrong : ChangeSpec := { name := "fnCode", fn := fun _ => fun
  | [d] => { results := [.lit (.bool false)], args := [d] }
  | _ => none }
def FnCodeWrongFalsely : Prop := fnCodeRow.holds Try.pinned (OpenSpec.ofChange fnCodeWrong)

/-- 'laws.FnInsKinds': WHATEVER THE INPUT: true; the input reads as it did. -/
def fnInsKindsSpec : ChangeSpec := { name := "fnInsKinds", fn := fun _ => fun
  | [d] => { results := [.lit (.bool true)], args := [d] }
  | _ => none }
def fnInsKindsRow : OpenClaim := { program := "ytdlcchoemladnaa", sum := "2fea36e4b4ba4dc0b9c7ca82e558806b5103e6f2347c13bba9a7e8aec86735a9", func := "loop.example/g00975/laws.FnInsKinds", spec := "fnInsKinds", apart := false }
def FnInsKindsSaid : Prop := fnInsKindsRow.holds Try.pinned (OpenSpec.ofChange fnInsKindsSpec)

/-- ITS FALSE NEIGHBOUR: 'it returns false'. Refute it at one input. -/
def fnInsKindsWrong : ChangeSpec := { name := "fnInsKinds", fn := fun _ => fun
  | [d] => { results := [.lit (.bool false)], args := [d] }
  | _ => none }
def FnInsKindsWrongFalsely : Prop := fnInsKindsRow.holds Try.pinned (OpenSpec.ofChange fnInsKindsWrong)

/-- 'laws.FnMergeLaws': WHATEVER THE INPUT: true; the input reads as it did. -/
def fnMergeLawsSpec : ChangeSpec := { name := "fnMergeLaws", fn := fun _ => fun
  | [d] => { results := [.lit (.bool true)], args := [d] }
  | _ => none }
def fnMergeLawsRow : OpenClaim := { program := "ytdlcchoemladnaa", sum := "2fea36e4b4ba4dc0b9c7ca82e558806b5103e6f2347c13bba9a7e8aec86735a9", func := "loop.example/g00975/laws.FnMergeLaws", spec := "fnMergeLaws", apart := false }
def FnMergeLawsSaid : Prop := fnMergeLawsRow.holds Try.pinned (OpenSpec.ofChange fnMergeLawsSpec)

/-- ITS FALSE NEIGHBOUR: 'it returns false'. Refute it at one input. -/
def fnMergeLawsWrong : ChangeSpec := { name := "fnMergeLaws", fn := fun _ => fun
  | [d] => { results := [.lit (.bool false)], args := [d] }
  | _ => none }
def FnMergeLawsWrongFalsely : Prop := fnMergeLawsRow.holds Try.pinned (OpenSpec.ofChange fnMergeLawsWrong)

/-- 'laws.FnCtlBits': WHATEVER THE INPUT: true; the input reads as it did. -/
def fnCtlBitsSpec : ChangeSpec := { name := "fnCtlBits", fn := fun _ => fun
  | [d] => { results := [.lit (.bool true)], args := [d] }
  | _ => none }
def fnCtlBitsRow : OpenClaim := { program := "ytdlcchoemladnaa", sum := "2fea36e4b4ba4dc0b9c7ca82e558806b5103e6f2347c13bba9a7e8aec86735a9", func := "loop.example/g00975/laws.FnCtlBits", spec := "fnCtlBits", apart := false }
def FnCtlBitsSaid : Prop := fnCtlBitsRow.holds Try.pinned (OpenSpec.ofChange fnCtlBitsSpec)

/-- ITS FALSE NEIGHBOUR: 'it returns false'. Refute it at one input. -/
def fnCtlBitsWrong : ChangeSpec := { name := "fnCtlBits", fn := fun _ => fun
  | [d] => { results := [.lit (.bool false)], args := [d] }
  | _ => none }
def FnCtlBitsWrongFalsely : Prop := fnCtlBitsRow.holds Try.pinned (OpenSpec.ofChange fnCtlBitsWrong)

/- THE SECOND FORM. 'bulk': how many values and letters a reading holds, each counted each time it is reached (what is shared counts as often as it is met; a slice's spare places count too). A statement '..UptoSaid' is the law's where the arguments, and the package variables that the reading takes, are together of bulk at most 1048576: NARROWER than '..Said'. Prove '..Said' where nothing that the law and all that it calls make is longer than what came in: it says more and counts as full. Else prove '..UptoSaid'. A law counts once. -/
mutual
def uptoBulk {H : Type} : DataW H → Nat
  | .lit (.string bytes) => bytes.length + 1
  | .lit _ => 1
  | .nil => 1
  | .ptr d => uptoBulk d + 1
  | .slice elems spare => uptoBulkAll elems + uptoBulkAll spare + 1
  | .agg parts => uptoBulkAll parts + 1
  | .iface _ d => uptoBulk d + 1
  | .map entries => uptoBulkEntries entries + 1
  | .held _ => 1
def uptoBulkAll {H : Type} : List (DataW H) → Nat
  | [] => 0
  | d :: r => uptoBulk d + uptoBulkAll r
def uptoBulkEntries {H : Type} : List (Lit × DataW H) → Nat
  | [] => 0
  | x :: r => uptoBulkEntry x + uptoBulkEntries r
def uptoBulkEntry {H : Type} : Lit × DataW H → Nat
  | (.string bytes, d) => bytes.length + uptoBulk d + 1
  | (_, d) => uptoBulk d + 1
 end
def uptoSmall : (H : Type) → List (DataW H) → Bool := fun _ ds => decide (uptoBulkAll ds ≤ 1048576)
def OpenSpec.upto (s : _root_.Go.ChangeSpec) : _root_.Go.OpenSpec := { _root_.Go.OpenSpec.ofChange s with cond := some uptoSmall }

/-- 'laws.FnMerged', WHERE WHAT IT READS IS OF BULK AT MOST 1048576: true; the input reads as it did. -/
def fnMergedUptoRow : OpenClaim := { program := "ytdlcchoemladnaa", sum := "2fea36e4b4ba4dc0b9c7ca82e558806b5103e6f2347c13bba9a7e8aec86735a9", func := "loop.example/g00975/laws.FnMerged", spec := "fnMerged", apart := false, narrowed := true }
def FnMergedUptoSaid : Prop := fnMergedUptoRow.holds Try.pinned (OpenSpec.upto fnMergedSpec)

/-- 'laws.FnCode', WHERE WHAT IT READS IS OF BULK AT MOST 1048576: true; the input reads as it did. -/
def fnCodeUptoRow : OpenClaim := { program := "ytdlcchoemladnaa", sum := "2fea36e4b4ba4dc0b9c7ca82e558806b5103e6f2347c13bba9a7e8aec86735a9", func := "loop.example/g00975/laws.FnCode", spec := "fnCode", apart := false, narrowed := true }
def FnCodeUptoSaid : Prop := fnCodeUptoRow.holds Try.pinned (OpenSpec.upto fnCodeSpec)

/-- 'laws.FnInsKinds', WHERE WHAT IT READS IS OF BULK AT MOST 1048576: true; the input reads as it did. -/
def fnInsKindsUptoRow : OpenClaim := { program := "ytdlcchoemladnaa", sum := "2fea36e4b4ba4dc0b9c7ca82e558806b5103e6f2347c13bba9a7e8aec86735a9", func := "loop.example/g00975/laws.FnInsKinds", spec := "fnInsKinds", apart := false, narrowed := true }
def FnInsKindsUptoSaid : Prop := fnInsKindsUptoRow.holds Try.pinned (OpenSpec.upto fnInsKindsSpec)

/-- 'laws.FnMergeLaws', WHERE WHAT IT READS IS OF BULK AT MOST 1048576: true; the input reads as it did. -/
def fnMergeLawsUptoRow : OpenClaim := { program := "ytdlcchoemladnaa", sum := "2fea36e4b4ba4dc0b9c7ca82e558806b5103e6f2347c13bba9a7e8aec86735a9", func := "loop.example/g00975/laws.FnMergeLaws", spec := "fnMergeLaws", apart := false, narrowed := true }
def FnMergeLawsUptoSaid : Prop := fnMergeLawsUptoRow.holds Try.pinned (OpenSpec.upto fnMergeLawsSpec)

/-- 'laws.FnCtlBits', WHERE WHAT IT READS IS OF BULK AT MOST 1048576: true; the input reads as it did. -/
def fnCtlBitsUptoRow : OpenClaim := { program := "ytdlcchoemladnaa", sum := "2fea36e4b4ba4dc0b9c7ca82e558806b5103e6f2347c13bba9a7e8aec86735a9", func := "loop.example/g00975/laws.FnCtlBits", spec := "fnCtlBits", apart := false, narrowed := true }
def FnCtlBitsUptoSaid : Prop := fnCtlBitsUptoRow.holds Try.pinned (OpenSpec.upto fnCtlBitsSpec)

end Rows
end Go.Proofs.Ytdlcchoemladnaa
