/-
  No cell of these rows narrows 'for every input' (looked for: loops, veiled, ifaces, maps, wideKeys, modest, calm, conditions, laid).
  DERIVED. THE GIVEN ROWS OF THIS SEAT. 12 by the template 'for every input the law returns true; each argument reads behind the call as it read before'; 0 by the template 'total and deterministic' (their statements: YtifjnehfjcdojaaTotals.lean).
  GIVEN WITH THE SEED: the statements are not yours to turn. If you find one false, say at which input.
  Laid BY PROGRAM, IN A SANDBOX (cutbox-rows.mjs): the forced cells as the released guide's own fill.sh prints them over the translation 43dfd7563d416407… (all of the seat's roots in one cut). By AI agents, Wed Nov 11 2026. No macro, syntax, notation, axiom, sorry.
-/
import Derived.Test.YtifjnehfjcdojaaChecked
import GoSem.Claim
import GoSem.ClaimJoined
import GoSem.ClaimMapViews
import Derived.JoinedTies
import Derived.KernelRfl
namespace Go.Proofs.Ytifjnehfjcdojaa
/- THE CELL 'sum', in the pinned program and in every row, IS THE sha256 OF THE DUMP (.gsa) THAT YtifjnehfjcdojaaProg.lean LOADS. Nothing in Lean hashes anything: it is a label: what it is worth is what the hold of that sum in a sandbox is worth. -/
noncomputable def Try.pinned : Pinned := { name := "ytifjnehfjcdojaa", sum := "43dfd7563d41640733ce38fd8644c81cd2966332f834770d427ebe7681f07766", checked := Try.checked }
namespace Rows
def none {H : Type} : Left H := { results := [], args := [] }

/-- 'laws.FnExactFaultExit': WHATEVER THE INPUT: true; the input reads as it did. -/
def fnExactFaultExitSpec : ChangeSpec := { name := "fnExactFaultExit", fn := fun _ => fun
  | [d1, d2] => { results := [.lit (.bool true)], args := [d1, d2] }
  | _ => none }
def fnExactFaultExitRow : OpenClaim := { program := "ytifjnehfjcdojaa", sum := "43dfd7563d41640733ce38fd8644c81cd2966332f834770d427ebe7681f07766", func := "loop.example/g00975/laws.FnExactFaultExit", spec := "fnExactFaultExit", apart := false }
def FnExactFaultExitSaid : Prop := fnExactFaultExitRow.holds Try.pinned (OpenSpec.ofChange fnExactFaultExitSpec)

/-- ITS FALSE NEIGHBOUR: 'it returns false'. Refute it at one input. -/
def fnExactFaultExitWrong : ChangeSpec := { name := "fnExactFaultExit", fn := fun _ => fun
  | [d1, d2] => { results := [.lit (.bool false)], args := [d1, d2] }
  | _ => none }
def FnExactFaultExitWrongFalsely : Prop := fnExactFaultExitRow.holds Try.pinned (OpenSpec.ofChange fnExactFaultExitWrong)

/-- 'laws.FnExactOwnerOf': WHATEVER THE INPUT: true; the input reads as it did. -/
def fnExactOwnerOfSpec : ChangeSpec := { name := "fnExactOwnerOf", fn := fun _ => fun
  | [d1, d2, d3] => { results := [.lit (.bool true)], args := [d1, d2, d3] }
  | _ => none }
def fnExactOwnerOfRow : OpenClaim := { program := "ytifjnehfjcdojaa", sum := "43dfd7563d41640733ce38fd8644c81cd2966332f834770d427ebe7681f07766", func := "loop.example/g00975/laws.FnExactOwnerOf", spec := "fnExactOwnerOf", apart := false }
def FnExactOwnerOfSaid : Prop := fnExactOwnerOfRow.holds Try.pinned (OpenSpec.ofChange fnExactOwnerOfSpec)

/-- ITS FALSE NEIGHBOUR: 'it returns false'. Refute it at one input. -/
def fnExactOwnerOfWrong : ChangeSpec := { name := "fnExactOwnerOf", fn := fun _ => fun
  | [d1, d2, d3] => { results := [.lit (.bool false)], args := [d1, d2, d3] }
  | _ => none }
def FnExactOwnerOfWrongFalsely : Prop := fnExactOwnerOfRow.holds Try.pinned (OpenSpec.ofChange fnExactOwnerOfWrong)

/-- 'laws.FnExactGrantsMore': WHATEVER THE INPUT: true; the input reads as it did. -/
def fnExactGrantsMoreSpec : ChangeSpec := { name := "fnExactGrantsMore", fn := fun _ => fun
  | [d1, d2] => { results := [.lit (.bool true)], args := [d1, d2] }
  | _ => none }
def fnExactGrantsMoreRow : OpenClaim := { program := "ytifjnehfjcdojaa", sum := "43dfd7563d41640733ce38fd8644c81cd2966332f834770d427ebe7681f07766", func := "loop.example/g00975/laws.FnExactGrantsMore", spec := "fnExactGrantsMore", apart := false }
def FnExactGrantsMoreSaid : Prop := fnExactGrantsMoreRow.holds Try.pinned (OpenSpec.ofChange fnExactGrantsMoreSpec)

/-- ITS FALSE NEIGHBOUR: 'it returns false'. Refute it at one input. -/
def fnExactGrantsMoreWrong : ChangeSpec := { name := "fnExactGrantsMore", fn := fun _ => fun
  | [d1, d2] => { results := [.lit (.bool false)], args := [d1, d2] }
  | _ => none }
def FnExactGrantsMoreWrongFalsely : Prop := fnExactGrantsMoreRow.holds Try.pinned (OpenSpec.ofChange fnExactGrantsMoreWrong)

/-- 'laws.FnExactExitOk': WHATEVER THE INPUT: true; the input reads as it did. -/
def fnExactExitOkSpec : ChangeSpec := { name := "fnExactExitOk", fn := fun _ => fun
  | [d] => { results := [.lit (.bool true)], args := [d] }
  | _ => none }
def fnExactExitOkRow : OpenClaim := { program := "ytifjnehfjcdojaa", sum := "43dfd7563d41640733ce38fd8644c81cd2966332f834770d427ebe7681f07766", func := "loop.example/g00975/laws.FnExactExitOk", spec := "fnExactExitOk", apart := false }
def FnExactExitOkSaid : Prop := fnExactExitOkRow.holds Try.pinned (OpenSpec.ofChange fnExactExitOkSpec)

/-- ITS FALSE NEIGHBOUR: 'it returns false'. Refute it at one input. -/
def fnExactExitOkWrong : ChangeSpec := { name := "fnExactExitOk", fn := fun _ => fun
  | [d] => { results := [.lit (.bool false)], args := [d] }
  | _ => none }
def FnExactExitOkWrongFalsely : Prop := fnExactExitOkRow.holds Try.pinned (OpenSpec.ofChange fnExactExitOkWrong)

/-- 'laws.FnExactInsOk': WHATEVER THE INPUT: true; the input reads as it did. -/
def fnExactInsOkSpec : ChangeSpec := { name := "fnExactInsOk", fn := fun _ => fun
  | [d] => { results := [.lit (.bool true)], args := [d] }
  | _ => none }
def fnExactInsOkRow : OpenClaim := { program := "ytifjnehfjcdojaa", sum := "43dfd7563d41640733ce38fd8644c81cd2966332f834770d427ebe7681f07766", func := "loop.example/g00975/laws.FnExactInsOk", spec := "fnExactInsOk", apart := false }
def FnExactInsOkSaid : Prop := fnExactInsOkRow.holds Try.pinned (OpenSpec.ofChange fnExactInsOkSpec)

/-- ITS FALSE NEIGHBOUR: 'it returns false'. Refute it at one input. -/
def fnExactInsOkWrong : ChangeSpec := { name := "fnExactInsOk", fn := fun _ => fun
  | [d] => { results := [.lit (.bool false)], args := [d] }
  | _ => none }
def FnExactInsOkWrongFalsely : Prop := fnExactInsOkRow.holds Try.pinned (OpenSpec.ofChange fnExactInsOkWrong)

/-- 'laws.FnExactMergedCtl': WHATEVER THE INPUT: true; the input reads as it did. -/
def fnExactMergedCtlSpec : ChangeSpec := { name := "fnExactMergedCtl", fn := fun _ => fun
  | [d1, d2] => { results := [.lit (.bool true)], args := [d1, d2] }
  | _ => none }
def fnExactMergedCtlRow : OpenClaim := { program := "ytifjnehfjcdojaa", sum := "43dfd7563d41640733ce38fd8644c81cd2966332f834770d427ebe7681f07766", func := "loop.example/g00975/laws.FnExactMergedCtl", spec := "fnExactMergedCtl", apart := false }
def FnExactMergedCtlSaid : Prop := fnExactMergedCtlRow.holds Try.pinned (OpenSpec.ofChange fnExactMergedCtlSpec)

/-- ITS FALSE NEIGHBOUR: 'it returns false'. Refute it at one input. -/
def fnExactMergedCtlWrong : ChangeSpec := { name := "fnExactMergedCtl", fn := fun _ => fun
  | [d1, d2] => { results := [.lit (.bool false)], args := [d1, d2] }
  | _ => none }
def FnExactMergedCtlWrongFalsely : Prop := fnExactMergedCtlRow.holds Try.pinned (OpenSpec.ofChange fnExactMergedCtlWrong)

/-- 'laws.FnExactCtlOk': WHATEVER THE INPUT: true; the input reads as it did. -/
def fnExactCtlOkSpec : ChangeSpec := { name := "fnExactCtlOk", fn := fun _ => fun
  | [d] => { results := [.lit (.bool true)], args := [d] }
  | _ => none }
def fnExactCtlOkRow : OpenClaim := { program := "ytifjnehfjcdojaa", sum := "43dfd7563d41640733ce38fd8644c81cd2966332f834770d427ebe7681f07766", func := "loop.example/g00975/laws.FnExactCtlOk", spec := "fnExactCtlOk", apart := false }
def FnExactCtlOkSaid : Prop := fnExactCtlOkRow.holds Try.pinned (OpenSpec.ofChange fnExactCtlOkSpec)

/-- ITS FALSE NEIGHBOUR: 'it returns false'. Refute it at one input. -/
def fnExactCtlOkWrong : ChangeSpec := { name := "fnExactCtlOk", fn := fun _ => fun
  | [d] => { results := [.lit (.bool false)], args := [d] }
  | _ => none }
def FnExactCtlOkWrongFalsely : Prop := fnExactCtlOkRow.holds Try.pinned (OpenSpec.ofChange fnExactCtlOkWrong)

/-- 'laws.FnExactTouches': WHATEVER THE INPUT: true; the input reads as it did. -/
def fnExactTouchesSpec : ChangeSpec := { name := "fnExactTouches", fn := fun _ => fun
  | [d] => { results := [.lit (.bool true)], args := [d] }
  | _ => none }
def fnExactTouchesRow : OpenClaim := { program := "ytifjnehfjcdojaa", sum := "43dfd7563d41640733ce38fd8644c81cd2966332f834770d427ebe7681f07766", func := "loop.example/g00975/laws.FnExactTouches", spec := "fnExactTouches", apart := false }
def FnExactTouchesSaid : Prop := fnExactTouchesRow.holds Try.pinned (OpenSpec.ofChange fnExactTouchesSpec)

/-- ITS FALSE NEIGHBOUR: 'it returns false'. Refute it at one input. -/
def fnExactTouchesWrong : ChangeSpec := { name := "fnExactTouches", fn := fun _ => fun
  | [d] => { results := [.lit (.bool false)], args := [d] }
  | _ => none }
def FnExactTouchesWrongFalsely : Prop := fnExactTouchesRow.holds Try.pinned (OpenSpec.ofChange fnExactTouchesWrong)

/-- 'laws.FnExactPosts': WHATEVER THE INPUT: true; the input reads as it did. -/
def fnExactPostsSpec : ChangeSpec := { name := "fnExactPosts", fn := fun _ => fun
  | [d1, d2] => { results := [.lit (.bool true)], args := [d1, d2] }
  | _ => none }
def fnExactPostsRow : OpenClaim := { program := "ytifjnehfjcdojaa", sum := "43dfd7563d41640733ce38fd8644c81cd2966332f834770d427ebe7681f07766", func := "loop.example/g00975/laws.FnExactPosts", spec := "fnExactPosts", apart := false }
def FnExactPostsSaid : Prop := fnExactPostsRow.holds Try.pinned (OpenSpec.ofChange fnExactPostsSpec)

/-- ITS FALSE NEIGHBOUR: 'it returns false'. Refute it at one input. -/
def fnExactPostsWrong : ChangeSpec := { name := "fnExactPosts", fn := fun _ => fun
  | [d1, d2] => { results := [.lit (.bool false)], args := [d1, d2] }
  | _ => none }
def FnExactPostsWrongFalsely : Prop := fnExactPostsRow.holds Try.pinned (OpenSpec.ofChange fnExactPostsWrong)

/-- 'laws.FnExactTagsOf': WHATEVER THE INPUT: true; the input reads as it did. -/
def fnExactTagsOfSpec : ChangeSpec := { name := "fnExactTagsOf", fn := fun _ => fun
  | [d] => { results := [.lit (.bool true)], args := [d] }
  | _ => none }
def fnExactTagsOfRow : OpenClaim := { program := "ytifjnehfjcdojaa", sum := "43dfd7563d41640733ce38fd8644c81cd2966332f834770d427ebe7681f07766", func := "loop.example/g00975/laws.FnExactTagsOf", spec := "fnExactTagsOf", apart := false }
def FnExactTagsOfSaid : Prop := fnExactTagsOfRow.holds Try.pinned (OpenSpec.ofChange fnExactTagsOfSpec)

/-- ITS FALSE NEIGHBOUR: 'it returns false'. Refute it at one input. -/
def fnExactTagsOfWrong : ChangeSpec := { name := "fnExactTagsOf", fn := fun _ => fun
  | [d] => { results := [.lit (.bool false)], args := [d] }
  | _ => none }
def FnExactTagsOfWrongFalsely : Prop := fnExactTagsOfRow.holds Try.pinned (OpenSpec.ofChange fnExactTagsOfWrong)

/-- 'laws.FnExactOwnersOf': WHATEVER THE INPUT: true; the input reads as it did. -/
def fnExactOwnersOfSpec : ChangeSpec := { name := "fnExactOwnersOf", fn := fun _ => fun
  | [d1, d2] => { results := [.lit (.bool true)], args := [d1, d2] }
  | _ => none }
def fnExactOwnersOfRow : OpenClaim := { program := "ytifjnehfjcdojaa", sum := "43dfd7563d41640733ce38fd8644c81cd2966332f834770d427ebe7681f07766", func := "loop.example/g00975/laws.FnExactOwnersOf", spec := "fnExactOwnersOf", apart := false }
def FnExactOwnersOfSaid : Prop := fnExactOwnersOfRow.holds Try.pinned (OpenSpec.ofChange fnExactOwnersOfSpec)

/-- ITS FALSE NEIGHBOUR: 'it returns false'. Refute it at one input. -/
def fnExactOwnersOfWrong : ChangeSpec := { name := "fnExactOwnersOf", fn := fun _ => fun
  | [d1, d2] => { results := [.lit (.bool false)], args := [d1, d2] }
  | _ => none }
def FnExactOwnersOfWrongFalsely : Prop := fnExactOwnersOfRow.holds Try.pinned (OpenSpec.ofChange fnExactOwnersOfWrong)

/-- 'laws.FnExactCtlFaults': WHATEVER THE INPUT: true; the input reads as it did. -/
def fnExactCtlFaultsSpec : ChangeSpec := { name := "fnExactCtlFaults", fn := fun _ => fun
  | [d] => { results := [.lit (.bool true)], args := [d] }
  | _ => none }
def fnExactCtlFaultsRow : OpenClaim := { program := "ytifjnehfjcdojaa", sum := "43dfd7563d41640733ce38fd8644c81cd2966332f834770d427ebe7681f07766", func := "loop.example/g00975/laws.FnExactCtlFaults", spec := "fnExactCtlFaults", apart := false }
def FnExactCtlFaultsSaid : Prop := fnExactCtlFaultsRow.holds Try.pinned (OpenSpec.ofChange fnExactCtlFaultsSpec)

/-- ITS FALSE NEIGHBOUR: 'it returns false'. Refute it at one input. -/
def fnExactCtlFaultsWrong : ChangeSpec := { name := "fnExactCtlFaults", fn := fun _ => fun
  | [d] => { results := [.lit (.bool false)], args := [d] }
  | _ => none }
def FnExactCtlFaultsWrongFalsely : Prop := fnExactCtlFaultsRow.holds Try.pinned (OpenSpec.ofChange fnExactCtlFaultsWrong)

/- THE SECOND FORM. 'bulk': how many values and letters a reading holds, each counted each time it is reached (what is shared counts as often as it is met; a slice's spare places count too). A statement '..UptoSaid' is the law's where the arguments, and the package variables that the reading takes, are together of bulk at most 1048576: NARROWER than '..Said'. Prove '..Said' where nothing that the law and all that it calls make is longer than what came in: it says more and counts as full. Else prove '..UptoSaid'. A law counts once. -/
mutual
def uptoBulk {H : Type} : DataW H → Nat
  | .lit (.string bytes) => bytes.length + 1
  | .lit _ => 1
  | .nil => 1
  | .ptr d => uptoBulk d + 1
  | .slice elems spare => uptoBulkAll elems + uptoBulkAll spare + 1
  | .agg parts => uptoBulkAll parts + 1
  | .iface _ d => uptoBulk d + 1
  | .map entries => uptoBulkEntries entries + 1
  | .held _ => 1
def uptoBulkAll {H : Type} : List (DataW H) → Nat
  | [] => 0
  | d :: r => uptoBulk d + uptoBulkAll r
def uptoBulkEntries {H : Type} : List (Lit × DataW H) → Nat
  | [] => 0
  | x :: r => uptoBulkEntry x + uptoBulkEntries r
def uptoBulkEntry {H : Type} : Lit × DataW H → Nat
  | (.string bytes, d) => bytes.length + uptoBulk d + 1
  | (_, d) => uptoBulk d + 1
 end
def uptoSmall : (H : Type) → List (DataW H) → Bool := fun _ ds => decide (uptoBulkAll ds ≤ 1048576)
def OpenSpec.upto (s : _root_.Go.ChangeSpec) : _root_.Go.OpenSpec := { _root_.Go.OpenSpec.ofChange s with cond := some uptoSmall }

/-- 'laws.FnExactFaultExit', WHERE WHAT IT READS IS OF BULK AT MOST 1048576: true; the input reads as it did. -/
def fnExactFaultExitUptoRow : OpenClaim := { program := "ytifjnehfjcdojaa", sum := "43dfd7563d41640733ce38fd8644c81cd2966332f834770d427ebe7681f07766", func := "loop.example/g00975/laws.FnExactFaultExit", spec := "fnExactFaultExit", apart := false, narrowed := true }
def FnExactFaultExitUptoSaid : Prop := fnExactFaultExitUptoRow.holds Try.pinned (OpenSpec.upto fnExactFaultExitSpec)

/-- 'laws.FnExactOwnerOf', WHERE WHAT IT READS IS OF BULK AT MOST 1048576: true; the input reads as it did. -/
def fnExactOwnerOfUptoRow : OpenClaim := { program := "ytifjnehfjcdojaa", sum := "43dfd7563d41640733ce38fd8644c81cd2966332f834770d427ebe7681f07766", func := "loop.example/g00975/laws.FnExactOwnerOf", spec := "fnExactOwnerOf", apart := false, narrowed := true }
def FnExactOwnerOfUptoSaid : Prop := fnExactOwnerOfUptoRow.holds Try.pinned (OpenSpec.upto fnExactOwnerOfSpec)

/-- 'laws.FnExactGrantsMore', WHERE WHAT IT READS IS OF BULK AT MOST 1048576: true; the input reads as it did. -/
def fnExactGrantsMoreUptoRow : OpenClaim := { program := "ytifjnehfjcdojaa", sum := "43dfd7563d41640733ce38fd8644c81cd2966332f834770d427ebe7681f07766", func := "loop.example/g00975/laws.FnExactGrantsMore", spec := "fnExactGrantsMore", apart := false, narrowed := true }
def FnExactGrantsMoreUptoSaid : Prop := fnExactGrantsMoreUptoRow.holds Try.pinned (OpenSpec.upto fnExactGrantsMoreSpec)

/-- 'laws.FnExactExitOk', WHERE WHAT IT READS IS OF BULK AT MOST 1048576: true; the input reads as it did. -/
def fnExactExitOkUptoRow : OpenClaim := { program := "ytifjnehfjcdojaa", sum := "43dfd7563d41640733ce38fd8644c81cd2966332f834770d427ebe7681f07766", func := "loop.example/g00975/laws.FnExactExitOk", spec := "fnExactExitOk", apart := false, narrowed := true }
def FnExactExitOkUptoSaid : Prop := fnExactExitOkUptoRow.holds Try.pinned (OpenSpec.upto fnExactExitOkSpec)

/-- 'laws.FnExactInsOk', WHERE WHAT IT READS IS OF BULK AT MOST 1048576: true; the input reads as it did. -/
def fnExactInsOkUptoRow : OpenClaim := { program := "ytifjnehfjcdojaa", sum := "43dfd7563d41640733ce38fd8644c81cd2966332f834770d427ebe7681f07766", func := "loop.example/g00975/laws.FnExactInsOk", spec := "fnExactInsOk", apart := false, narrowed := true }
def FnExactInsOkUptoSaid : Prop := fnExactInsOkUptoRow.holds Try.pinned (OpenSpec.upto fnExactInsOkSpec)

/-- 'laws.FnExactMergedCtl', WHERE WHAT IT READS IS OF BULK AT MOST 1048576: true; the input reads as it did. -/
def fnExactMergedCtlUptoRow : OpenClaim := { program := "ytifjnehfjcdojaa", sum := "43dfd7563d41640733ce38fd8644c81cd2966332f834770d427ebe7681f07766", func := "loop.example/g00975/laws.FnExactMergedCtl", spec := "fnExactMergedCtl", apart := false, narrowed := true }
def FnExactMergedCtlUptoSaid : Prop := fnExactMergedCtlUptoRow.holds Try.pinned (OpenSpec.upto fnExactMergedCtlSpec)

/-- 'laws.FnExactCtlOk', WHERE WHAT IT READS IS OF BULK AT MOST 1048576: true; the input reads as it did. -/
def fnExactCtlOkUptoRow : OpenClaim := { program := "ytifjnehfjcdojaa", sum := "43dfd7563d41640733ce38fd8644c81cd2966332f834770d427ebe7681f07766", func := "loop.example/g00975/laws.FnExactCtlOk", spec := "fnExactCtlOk", apart := false, narrowed := true }
def FnExactCtlOkUptoSaid : Prop := fnExactCtlOkUptoRow.holds Try.pinned (OpenSpec.upto fnExactCtlOkSpec)

/-- 'laws.FnExactTouches', WHERE WHAT IT READS IS OF BULK AT MOST 1048576: true; the input reads as it did. -/
def fnExactTouchesUptoRow : OpenClaim := { program := "ytifjnehfjcdojaa", sum := "43dfd7563d41640733ce38fd8644c81cd2966332f834770d427ebe7681f07766", func := "loop.example/g00975/laws.FnExactTouches", spec := "fnExactTouches", apart := false, narrowed := true }
def FnExactTouchesUptoSaid : Prop := fnExactTouchesUptoRow.holds Try.pinned (OpenSpec.upto fnExactTouchesSpec)

/-- 'laws.FnExactPosts', WHERE WHAT IT READS IS OF BULK AT MOST 1048576: true; the input reads as it did. -/
def fnExactPostsUptoRow : OpenClaim := { program := "ytifjnehfjcdojaa", sum := "43dfd7563d41640733ce38fd8644c81cd2966332f834770d427ebe7681f07766", func := "loop.example/g00975/laws.FnExactPosts", spec := "fnExactPosts", apart := false, narrowed := true }
def FnExactPostsUptoSaid : Prop := fnExactPostsUptoRow.holds Try.pinned (OpenSpec.upto fnExactPostsSpec)

/-- 'laws.FnExactTagsOf', WHERE WHAT IT READS IS OF BULK AT MOST 1048576: true; the input reads as it did. -/
def fnExactTagsOfUptoRow : OpenClaim := { program := "ytifjnehfjcdojaa", sum := "43dfd7563d41640733ce38fd8644c81cd2966332f834770d427ebe7681f07766", func := "loop.example/g00975/laws.FnExactTagsOf", spec := "fnExactTagsOf", apart := false, narrowed := true }
def FnExactTagsOfUptoSaid : Prop := fnExactTagsOfUptoRow.holds Try.pinned (OpenSpec.upto fnExactTagsOfSpec)

/-- 'laws.FnExactOwnersOf', WHERE WHAT IT READS IS OF BULK AT MOST 1048576: true; the input reads as it did. -/
def fnExactOwnersOfUptoRow : OpenClaim := { program := "ytifjnehfjcdojaa", sum := "43dfd7563d41640733ce38fd8644c81cd2966332f834770d427ebe7681f07766", func := "loop.example/g00975/laws.FnExactOwnersOf", spec := "fnExactOwnersOf", apart := false, narrowed := true }
def FnExactOwnersOfUptoSaid : Prop := fnExactOwnersOfUptoRow.holds Try.pinned (OpenSpec.upto fnExactOwnersOfSpec)

/-- 'laws.FnExactCtlFaults', WHERE WHAT IT READS IS OF BULK AT MOST 1048576: true; the input reads as it did. -/
def fnExactCtlFaultsUptoRow : OpenClaim := { program := "ytifjnehfjcdojaa", sum := "43dfd7563d41640733ce38fd8644c81cd2966332f834770d427ebe7681f07766", func := "loop.example/g00975/laws.FnExactCtlFaults", spec := "fnExactCtlFaults", apart := false, narrowed := true }
def FnExactCtlFaultsUptoSaid : Prop := fnExactCtlFaultsUptoRow.holds Try.pinned (OpenSpec.upto fnExactCtlFaultsSpec)

end Rows
end Go.Proofs.Ytifjnehfjcdojaa
