/-
  No cell of these rows narrows 'for every input' (looked for: loops, veiled, ifaces, maps, wideKeys, modest, calm, conditions, laid).
  DERIVED. THE GIVEN ROWS OF THIS SEAT. 12 by the template 'for every input the law returns true; each argument reads behind the call as it read before'; 0 by the template 'total and deterministic' (their statements: YtfokcochkamhdaaTotals.lean).
  GIVEN WITH THE SEED: the statements are not yours to turn. If you find one false, say at which input.
  Laid BY PROGRAM, IN A SANDBOX (cutbox-rows.mjs): the forced cells as the released guide's own fill.sh prints them over the translation 6d64fdd07741d0ff… (all of the seat's roots in one cut). By AI agents, Wed Nov 11 2026. No macro, syntax, notation, axiom, sorry.
-/
import Derived.Test.YtfokcochkamhdaaChecked
import GoSem.Claim
import GoSem.ClaimJoined
import GoSem.ClaimMapViews
import Derived.JoinedTies
import Derived.KernelRfl
namespace Go.Proofs.Ytfokcochkamhdaa
/- THE CELL 'sum', in the pinned program and in every row, IS THE sha256 OF THE DUMP (.gsa) THAT YtfokcochkamhdaaProg.lean LOADS. Nothing in Lean hashes anything: it is a label: what it is worth is what the hold of that sum in a sandbox is worth. -/
noncomputable def Try.pinned : Pinned := { name := "ytfokcochkamhdaa", sum := "6d64fdd07741d0ff55ceb49743092c3fdc006987edadec26e90224856ae80ad7", checked := Try.checked }
namespace Rows
def none {H : Type} : Left H := { results := [], args := [] }

/-- 'laws.FnExactPendOk': WHATEVER THE INPUT: true; the input reads as it did. -/
def fnExactPendOkSpec : ChangeSpec := { name := "fnExactPendOk", fn := fun _ => fun
  | [d] => { results := [.lit (.bool true)], args := [d] }
  | _ => none }
def fnExactPendOkRow : OpenClaim := { program := "ytfokcochkamhdaa", sum := "6d64fdd07741d0ff55ceb49743092c3fdc006987edadec26e90224856ae80ad7", func := "loop.example/g00975/laws.FnExactPendOk", spec := "fnExactPendOk", apart := false }
def FnExactPendOkSaid : Prop := fnExactPendOkRow.holds Try.pinned (OpenSpec.ofChange fnExactPendOkSpec)

/-- ITS FALSE NEIGHBOUR: 'it returns false'. Refute it at one input. -/
def fnExactPendOkWrong : ChangeSpec := { name := "fnExactPendOk", fn := fun _ => fun
  | [d] => { results := [.lit (.bool false)], args := [d] }
  | _ => none }
def FnExactPendOkWrongFalsely : Prop := fnExactPendOkRow.holds Try.pinned (OpenSpec.ofChange fnExactPendOkWrong)

/-- 'laws.FnExactHasTrap': WHATEVER THE INPUT: true; the input reads as it did. -/
def fnExactHasTrapSpec : ChangeSpec := { name := "fnExactHasTrap", fn := fun _ => fun
  | [d1, d2] => { results := [.lit (.bool true)], args := [d1, d2] }
  | _ => none }
def fnExactHasTrapRow : OpenClaim := { program := "ytfokcochkamhdaa", sum := "6d64fdd07741d0ff55ceb49743092c3fdc006987edadec26e90224856ae80ad7", func := "loop.example/g00975/laws.FnExactHasTrap", spec := "fnExactHasTrap", apart := false }
def FnExactHasTrapSaid : Prop := fnExactHasTrapRow.holds Try.pinned (OpenSpec.ofChange fnExactHasTrapSpec)

/-- ITS FALSE NEIGHBOUR: 'it returns false'. Refute it at one input. -/
def fnExactHasTrapWrong : ChangeSpec := { name := "fnExactHasTrap", fn := fun _ => fun
  | [d1, d2] => { results := [.lit (.bool false)], args := [d1, d2] }
  | _ => none }
def FnExactHasTrapWrongFalsely : Prop := fnExactHasTrapRow.holds Try.pinned (OpenSpec.ofChange fnExactHasTrapWrong)

/-- 'laws.FnExactExitName': WHATEVER THE INPUT: true; the input reads as it did. -/
def fnExactExitNameSpec : ChangeSpec := { name := "fnExactExitName", fn := fun _ => fun
  | [d] => { results := [.lit (.bool true)], args := [d] }
  | _ => none }
def fnExactExitNameRow : OpenClaim := { program := "ytfokcochkamhdaa", sum := "6d64fdd07741d0ff55ceb49743092c3fdc006987edadec26e90224856ae80ad7", func := "loop.example/g00975/laws.FnExactExitName", spec := "fnExactExitName", apart := false }
def FnExactExitNameSaid : Prop := fnExactExitNameRow.holds Try.pinned (OpenSpec.ofChange fnExactExitNameSpec)

/-- ITS FALSE NEIGHBOUR: 'it returns false'. Refute it at one input. -/
def fnExactExitNameWrong : ChangeSpec := { name := "fnExactExitName", fn := fun _ => fun
  | [d] => { results := [.lit (.bool false)], args := [d] }
  | _ => none }
def FnExactExitNameWrongFalsely : Prop := fnExactExitNameRow.holds Try.pinned (OpenSpec.ofChange fnExactExitNameWrong)

/-- 'laws.FnExactMergeTraps': WHATEVER THE INPUT: true; the input reads as it did. -/
def fnExactMergeTrapsSpec : ChangeSpec := { name := "fnExactMergeTraps", fn := fun _ => fun
  | [d1, d2] => { results := [.lit (.bool true)], args := [d1, d2] }
  | _ => none }
def fnExactMergeTrapsRow : OpenClaim := { program := "ytfokcochkamhdaa", sum := "6d64fdd07741d0ff55ceb49743092c3fdc006987edadec26e90224856ae80ad7", func := "loop.example/g00975/laws.FnExactMergeTraps", spec := "fnExactMergeTraps", apart := false }
def FnExactMergeTrapsSaid : Prop := fnExactMergeTrapsRow.holds Try.pinned (OpenSpec.ofChange fnExactMergeTrapsSpec)

/-- ITS FALSE NEIGHBOUR: 'it returns false'. Refute it at one input. -/
def fnExactMergeTrapsWrong : ChangeSpec := { name := "fnExactMergeTraps", fn := fun _ => fun
  | [d1, d2] => { results := [.lit (.bool false)], args := [d1, d2] }
  | _ => none }
def FnExactMergeTrapsWrongFalsely : Prop := fnExactMergeTrapsRow.holds Try.pinned (OpenSpec.ofChange fnExactMergeTrapsWrong)

/-- 'laws.FnExactOpName': WHATEVER THE INPUT: true; the input reads as it did. -/
def fnExactOpNameSpec : ChangeSpec := { name := "fnExactOpName", fn := fun _ => fun
  | [d] => { results := [.lit (.bool true)], args := [d] }
  | _ => none }
def fnExactOpNameRow : OpenClaim := { program := "ytfokcochkamhdaa", sum := "6d64fdd07741d0ff55ceb49743092c3fdc006987edadec26e90224856ae80ad7", func := "loop.example/g00975/laws.FnExactOpName", spec := "fnExactOpName", apart := false }
def FnExactOpNameSaid : Prop := fnExactOpNameRow.holds Try.pinned (OpenSpec.ofChange fnExactOpNameSpec)

/-- ITS FALSE NEIGHBOUR: 'it returns false'. Refute it at one input. -/
def fnExactOpNameWrong : ChangeSpec := { name := "fnExactOpName", fn := fun _ => fun
  | [d] => { results := [.lit (.bool false)], args := [d] }
  | _ => none }
def FnExactOpNameWrongFalsely : Prop := fnExactOpNameRow.holds Try.pinned (OpenSpec.ofChange fnExactOpNameWrong)

/-- 'laws.FnExactTagGuest': WHATEVER THE INPUT: true; the input reads as it did. -/
def fnExactTagGuestSpec : ChangeSpec := { name := "fnExactTagGuest", fn := fun _ => fun
  | [d] => { results := [.lit (.bool true)], args := [d] }
  | _ => none }
def fnExactTagGuestRow : OpenClaim := { program := "ytfokcochkamhdaa", sum := "6d64fdd07741d0ff55ceb49743092c3fdc006987edadec26e90224856ae80ad7", func := "loop.example/g00975/laws.FnExactTagGuest", spec := "fnExactTagGuest", apart := false }
def FnExactTagGuestSaid : Prop := fnExactTagGuestRow.holds Try.pinned (OpenSpec.ofChange fnExactTagGuestSpec)

/-- ITS FALSE NEIGHBOUR: 'it returns false'. Refute it at one input. -/
def fnExactTagGuestWrong : ChangeSpec := { name := "fnExactTagGuest", fn := fun _ => fun
  | [d] => { results := [.lit (.bool false)], args := [d] }
  | _ => none }
def FnExactTagGuestWrongFalsely : Prop := fnExactTagGuestRow.holds Try.pinned (OpenSpec.ofChange fnExactTagGuestWrong)

/-- 'laws.FnExactTagMon': WHATEVER THE INPUT: true; the input reads as it did. -/
def fnExactTagMonSpec : ChangeSpec := { name := "fnExactTagMon", fn := fun _ => fun
  | [d] => { results := [.lit (.bool true)], args := [d] }
  | _ => none }
def fnExactTagMonRow : OpenClaim := { program := "ytfokcochkamhdaa", sum := "6d64fdd07741d0ff55ceb49743092c3fdc006987edadec26e90224856ae80ad7", func := "loop.example/g00975/laws.FnExactTagMon", spec := "fnExactTagMon", apart := false }
def FnExactTagMonSaid : Prop := fnExactTagMonRow.holds Try.pinned (OpenSpec.ofChange fnExactTagMonSpec)

/-- ITS FALSE NEIGHBOUR: 'it returns false'. Refute it at one input. -/
def fnExactTagMonWrong : ChangeSpec := { name := "fnExactTagMon", fn := fun _ => fun
  | [d] => { results := [.lit (.bool false)], args := [d] }
  | _ => none }
def FnExactTagMonWrongFalsely : Prop := fnExactTagMonRow.holds Try.pinned (OpenSpec.ofChange fnExactTagMonWrong)

/-- 'laws.FnExactTagOf': WHATEVER THE INPUT: true; the input reads as it did. -/
def fnExactTagOfSpec : ChangeSpec := { name := "fnExactTagOf", fn := fun _ => fun
  | [d1, d2] => { results := [.lit (.bool true)], args := [d1, d2] }
  | _ => none }
def fnExactTagOfRow : OpenClaim := { program := "ytfokcochkamhdaa", sum := "6d64fdd07741d0ff55ceb49743092c3fdc006987edadec26e90224856ae80ad7", func := "loop.example/g00975/laws.FnExactTagOf", spec := "fnExactTagOf", apart := false }
def FnExactTagOfSaid : Prop := fnExactTagOfRow.holds Try.pinned (OpenSpec.ofChange fnExactTagOfSpec)

/-- ITS FALSE NEIGHBOUR: 'it returns false'. Refute it at one input. -/
def fnExactTagOfWrong : ChangeSpec := { name := "fnExactTagOf", fn := fun _ => fun
  | [d1, d2] => { results := [.lit (.bool false)], args := [d1, d2] }
  | _ => none }
def FnExactTagOfWrongFalsely : Prop := fnExactTagOfRow.holds Try.pinned (OpenSpec.ofChange fnExactTagOfWrong)

/-- 'laws.FnExactCallExit': WHATEVER THE INPUT: true; the input reads as it did. -/
def fnExactCallExitSpec : ChangeSpec := { name := "fnExactCallExit", fn := fun _ => fun
  | [d] => { results := [.lit (.bool true)], args := [d] }
  | _ => none }
def fnExactCallExitRow : OpenClaim := { program := "ytfokcochkamhdaa", sum := "6d64fdd07741d0ff55ceb49743092c3fdc006987edadec26e90224856ae80ad7", func := "loop.example/g00975/laws.FnExactCallExit", spec := "fnExactCallExit", apart := false }
def FnExactCallExitSaid : Prop := fnExactCallExitRow.holds Try.pinned (OpenSpec.ofChange fnExactCallExitSpec)

/-- ITS FALSE NEIGHBOUR: 'it returns false'. Refute it at one input. -/
def fnExactCallExitWrong : ChangeSpec := { name := "fnExactCallExit", fn := fun _ => fun
  | [d] => { results := [.lit (.bool false)], args := [d] }
  | _ => none }
def FnExactCallExitWrongFalsely : Prop := fnExactCallExitRow.holds Try.pinned (OpenSpec.ofChange fnExactCallExitWrong)

/-- 'laws.FnExactOutExit': WHATEVER THE INPUT: true; the input reads as it did. -/
def fnExactOutExitSpec : ChangeSpec := { name := "fnExactOutExit", fn := fun _ => fun
  | [d] => { results := [.lit (.bool true)], args := [d] }
  | _ => none }
def fnExactOutExitRow : OpenClaim := { program := "ytfokcochkamhdaa", sum := "6d64fdd07741d0ff55ceb49743092c3fdc006987edadec26e90224856ae80ad7", func := "loop.example/g00975/laws.FnExactOutExit", spec := "fnExactOutExit", apart := false }
def FnExactOutExitSaid : Prop := fnExactOutExitRow.holds Try.pinned (OpenSpec.ofChange fnExactOutExitSpec)

/-- ITS FALSE NEIGHBOUR: 'it returns false'. Refute it at one input. -/
def fnExactOutExitWrong : ChangeSpec := { name := "fnExactOutExit", fn := fun _ => fun
  | [d] => { results := [.lit (.bool false)], args := [d] }
  | _ => none }
def FnExactOutExitWrongFalsely : Prop := fnExactOutExitRow.holds Try.pinned (OpenSpec.ofChange fnExactOutExitWrong)

/-- 'laws.FnExactPostIrq': WHATEVER THE INPUT: true; the input reads as it did. -/
def fnExactPostIrqSpec : ChangeSpec := { name := "fnExactPostIrq", fn := fun _ => fun
  | [d1, d2] => { results := [.lit (.bool true)], args := [d1, d2] }
  | _ => none }
def fnExactPostIrqRow : OpenClaim := { program := "ytfokcochkamhdaa", sum := "6d64fdd07741d0ff55ceb49743092c3fdc006987edadec26e90224856ae80ad7", func := "loop.example/g00975/laws.FnExactPostIrq", spec := "fnExactPostIrq", apart := false }
def FnExactPostIrqSaid : Prop := fnExactPostIrqRow.holds Try.pinned (OpenSpec.ofChange fnExactPostIrqSpec)

/-- ITS FALSE NEIGHBOUR: 'it returns false'. Refute it at one input. -/
def fnExactPostIrqWrong : ChangeSpec := { name := "fnExactPostIrq", fn := fun _ => fun
  | [d1, d2] => { results := [.lit (.bool false)], args := [d1, d2] }
  | _ => none }
def FnExactPostIrqWrongFalsely : Prop := fnExactPostIrqRow.holds Try.pinned (OpenSpec.ofChange fnExactPostIrqWrong)

/-- 'laws.FnExactSplitIrqs': WHATEVER THE INPUT: true; the input reads as it did. -/
def fnExactSplitIrqsSpec : ChangeSpec := { name := "fnExactSplitIrqs", fn := fun _ => fun
  | [d1, d2] => { results := [.lit (.bool true)], args := [d1, d2] }
  | _ => none }
def fnExactSplitIrqsRow : OpenClaim := { program := "ytfokcochkamhdaa", sum := "6d64fdd07741d0ff55ceb49743092c3fdc006987edadec26e90224856ae80ad7", func := "loop.example/g00975/laws.FnExactSplitIrqs", spec := "fnExactSplitIrqs", apart := false }
def FnExactSplitIrqsSaid : Prop := fnExactSplitIrqsRow.holds Try.pinned (OpenSpec.ofChange fnExactSplitIrqsSpec)

/-- ITS FALSE NEIGHBOUR: 'it returns false'. Refute it at one input. -/
def fnExactSplitIrqsWrong : ChangeSpec := { name := "fnExactSplitIrqs", fn := fun _ => fun
  | [d1, d2] => { results := [.lit (.bool false)], args := [d1, d2] }
  | _ => none }
def FnExactSplitIrqsWrongFalsely : Prop := fnExactSplitIrqsRow.holds Try.pinned (OpenSpec.ofChange fnExactSplitIrqsWrong)

/- THE SECOND FORM. 'bulk': how many values and letters a reading holds, each counted each time it is reached (what is shared counts as often as it is met; a slice's spare places count too). A statement '..UptoSaid' is the law's where the arguments, and the package variables that the reading takes, are together of bulk at most 1048576: NARROWER than '..Said'. Prove '..Said' where nothing that the law and all that it calls make is longer than what came in: it says more and counts as full. Else prove '..UptoSaid'. A law counts once. -/
mutual
def uptoBulk {H : Type} : DataW H → Nat
  | .lit (.string bytes) => bytes.length + 1
  | .lit _ => 1
  | .nil => 1
  | .ptr d => uptoBulk d + 1
  | .slice elems spare => uptoBulkAll elems + uptoBulkAll spare + 1
  | .agg parts => uptoBulkAll parts + 1
  | .iface _ d => uptoBulk d + 1
  | .map entries => uptoBulkEntries entries + 1
  | .held _ => 1
def uptoBulkAll {H : Type} : List (DataW H) → Nat
  | [] => 0
  | d :: r => uptoBulk d + uptoBulkAll r
def uptoBulkEntries {H : Type} : List (Lit × DataW H) → Nat
  | [] => 0
  | x :: r => uptoBulkEntry x + uptoBulkEntries r
def uptoBulkEntry {H : Type} : Lit × DataW H → Nat
  | (.string bytes, d) => bytes.length + uptoBulk d + 1
  | (_, d) => uptoBulk d + 1
 end
def uptoSmall : (H : Type) → List (DataW H) → Bool := fun _ ds => decide (uptoBulkAll ds ≤ 1048576)
def OpenSpec.upto (s : _root_.Go.ChangeSpec) : _root_.Go.OpenSpec := { _root_.Go.OpenSpec.ofChange s with cond := some uptoSmall }

/-- 'laws.FnExactPendOk', WHERE WHAT IT READS IS OF BULK AT MOST 1048576: true; the input reads as it did. -/
def fnExactPendOkUptoRow : OpenClaim := { program := "ytfokcochkamhdaa", sum := "6d64fdd07741d0ff55ceb49743092c3fdc006987edadec26e90224856ae80ad7", func := "loop.example/g00975/laws.FnExactPendOk", spec := "fnExactPendOk", apart := false, narrowed := true }
def FnExactPendOkUptoSaid : Prop := fnExactPendOkUptoRow.holds Try.pinned (OpenSpec.upto fnExactPendOkSpec)

/-- 'laws.FnExactHasTrap', WHERE WHAT IT READS IS OF BULK AT MOST 1048576: true; the input reads as it did. -/
def fnExactHasTrapUptoRow : OpenClaim := { program := "ytfokcochkamhdaa", sum := "6d64fdd07741d0ff55ceb49743092c3fdc006987edadec26e90224856ae80ad7", func := "loop.example/g00975/laws.FnExactHasTrap", spec := "fnExactHasTrap", apart := false, narrowed := true }
def FnExactHasTrapUptoSaid : Prop := fnExactHasTrapUptoRow.holds Try.pinned (OpenSpec.upto fnExactHasTrapSpec)

/-- 'laws.FnExactExitName', WHERE WHAT IT READS IS OF BULK AT MOST 1048576: true; the input reads as it did. -/
def fnExactExitNameUptoRow : OpenClaim := { program := "ytfokcochkamhdaa", sum := "6d64fdd07741d0ff55ceb49743092c3fdc006987edadec26e90224856ae80ad7", func := "loop.example/g00975/laws.FnExactExitName", spec := "fnExactExitName", apart := false, narrowed := true }
def FnExactExitNameUptoSaid : Prop := fnExactExitNameUptoRow.holds Try.pinned (OpenSpec.upto fnExactExitNameSpec)

/-- 'laws.FnExactMergeTraps', WHERE WHAT IT READS IS OF BULK AT MOST 1048576: true; the input reads as it did. -/
def fnExactMergeTrapsUptoRow : OpenClaim := { program := "ytfokcochkamhdaa", sum := "6d64fdd07741d0ff55ceb49743092c3fdc006987edadec26e90224856ae80ad7", func := "loop.example/g00975/laws.FnExactMergeTraps", spec := "fnExactMergeTraps", apart := false, narrowed := true }
def FnExactMergeTrapsUptoSaid : Prop := fnExactMergeTrapsUptoRow.holds Try.pinned (OpenSpec.upto fnExactMergeTrapsSpec)

/-- 'laws.FnExactOpName', WHERE WHAT IT READS IS OF BULK AT MOST 1048576: true; the input reads as it did. -/
def fnExactOpNameUptoRow : OpenClaim := { program := "ytfokcochkamhdaa", sum := "6d64fdd07741d0ff55ceb49743092c3fdc006987edadec26e90224856ae80ad7", func := "loop.example/g00975/laws.FnExactOpName", spec := "fnExactOpName", apart := false, narrowed := true }
def FnExactOpNameUptoSaid : Prop := fnExactOpNameUptoRow.holds Try.pinned (OpenSpec.upto fnExactOpNameSpec)

/-- 'laws.FnExactTagGuest', WHERE WHAT IT READS IS OF BULK AT MOST 1048576: true; the input reads as it did. -/
def fnExactTagGuestUptoRow : OpenClaim := { program := "ytfokcochkamhdaa", sum := "6d64fdd07741d0ff55ceb49743092c3fdc006987edadec26e90224856ae80ad7", func := "loop.example/g00975/laws.FnExactTagGuest", spec := "fnExactTagGuest", apart := false, narrowed := true }
def FnExactTagGuestUptoSaid : Prop := fnExactTagGuestUptoRow.holds Try.pinned (OpenSpec.upto fnExactTagGuestSpec)

/-- 'laws.FnExactTagMon', WHERE WHAT IT READS IS OF BULK AT MOST 1048576: true; the input reads as it did. -/
def fnExactTagMonUptoRow : OpenClaim := { program := "ytfokcochkamhdaa", sum := "6d64fdd07741d0ff55ceb49743092c3fdc006987edadec26e90224856ae80ad7", func := "loop.example/g00975/laws.FnExactTagMon", spec := "fnExactTagMon", apart := false, narrowed := true }
def FnExactTagMonUptoSaid : Prop := fnExactTagMonUptoRow.holds Try.pinned (OpenSpec.upto fnExactTagMonSpec)

/-- 'laws.FnExactTagOf', WHERE WHAT IT READS IS OF BULK AT MOST 1048576: true; the input reads as it did. -/
def fnExactTagOfUptoRow : OpenClaim := { program := "ytfokcochkamhdaa", sum := "6d64fdd07741d0ff55ceb49743092c3fdc006987edadec26e90224856ae80ad7", func := "loop.example/g00975/laws.FnExactTagOf", spec := "fnExactTagOf", apart := false, narrowed := true }
def FnExactTagOfUptoSaid : Prop := fnExactTagOfUptoRow.holds Try.pinned (OpenSpec.upto fnExactTagOfSpec)

/-- 'laws.FnExactCallExit', WHERE WHAT IT READS IS OF BULK AT MOST 1048576: true; the input reads as it did. -/
def fnExactCallExitUptoRow : OpenClaim := { program := "ytfokcochkamhdaa", sum := "6d64fdd07741d0ff55ceb49743092c3fdc006987edadec26e90224856ae80ad7", func := "loop.example/g00975/laws.FnExactCallExit", spec := "fnExactCallExit", apart := false, narrowed := true }
def FnExactCallExitUptoSaid : Prop := fnExactCallExitUptoRow.holds Try.pinned (OpenSpec.upto fnExactCallExitSpec)

/-- 'laws.FnExactOutExit', WHERE WHAT IT READS IS OF BULK AT MOST 1048576: true; the input reads as it did. -/
def fnExactOutExitUptoRow : OpenClaim := { program := "ytfokcochkamhdaa", sum := "6d64fdd07741d0ff55ceb49743092c3fdc006987edadec26e90224856ae80ad7", func := "loop.example/g00975/laws.FnExactOutExit", spec := "fnExactOutExit", apart := false, narrowed := true }
def FnExactOutExitUptoSaid : Prop := fnExactOutExitUptoRow.holds Try.pinned (OpenSpec.upto fnExactOutExitSpec)

/-- 'laws.FnExactPostIrq', WHERE WHAT IT READS IS OF BULK AT MOST 1048576: true; the input reads as it did. -/
def fnExactPostIrqUptoRow : OpenClaim := { program := "ytfokcochkamhdaa", sum := "6d64fdd07741d0ff55ceb49743092c3fdc006987edadec26e90224856ae80ad7", func := "loop.example/g00975/laws.FnExactPostIrq", spec := "fnExactPostIrq", apart := false, narrowed := true }
def FnExactPostIrqUptoSaid : Prop := fnExactPostIrqUptoRow.holds Try.pinned (OpenSpec.upto fnExactPostIrqSpec)

/-- 'laws.FnExactSplitIrqs', WHERE WHAT IT READS IS OF BULK AT MOST 1048576: true; the input reads as it did. -/
def fnExactSplitIrqsUptoRow : OpenClaim := { program := "ytfokcochkamhdaa", sum := "6d64fdd07741d0ff55ceb49743092c3fdc006987edadec26e90224856ae80ad7", func := "loop.example/g00975/laws.FnExactSplitIrqs", spec := "fnExactSplitIrqs", apart := false, narrowed := true }
def FnExactSplitIrqsUptoSaid : Prop := fnExactSplitIrqsUptoRow.holds Try.pinned (OpenSpec.upto fnExactSplitIrqsSpec)

end Rows
end Go.Proofs.Ytfokcochkamhdaa
