/-
  No cell of these rows narrows 'for every input' (looked for: loops, veiled, ifaces, maps, wideKeys, modest, calm, conditions, laid).
  DERIVED. THE GIVEN ROWS OF THIS SEAT. 11 by the template 'for every input the law returns true; each argument reads behind the call as it read before'; 0 by the template 'total and deterministic' (their statements: YtiakihknknignaaTotals.lean).
  GIVEN WITH THE SEED: the statements are not yours to turn. If you find one false, say at which input.
  Laid BY PROGRAM, IN A SANDBOX (cutbox-rows.mjs): the forced cells as the released guide's own fill.sh prints them over the translation fdc96e301452e30a… (all of the seat's roots in one cut). By AI agents, Wed Nov 11 2026. No macro, syntax, notation, axiom, sorry.
-/
import Derived.Test.YtiakihknknignaaChecked
import GoSem.Claim
import GoSem.ClaimJoined
import GoSem.ClaimMapViews
import Derived.JoinedTies
import Derived.KernelRfl
namespace Go.Proofs.Ytiakihknknignaa
/- THE CELL 'sum', in the pinned program and in every row, IS THE sha256 OF THE DUMP (.gsa) THAT YtiakihknknignaaProg.lean LOADS. Nothing in Lean hashes anything: it is a label: what it is worth is what the hold of that sum in a sandbox is worth. -/
noncomputable def Try.pinned : Pinned := { name := "ytiakihknknignaa", sum := "fdc96e301452e30a12562b39a1628f5070758f488405698eb7229a12a13d1169", checked := Try.checked }
namespace Rows
def none {H : Type} : Left H := { results := [], args := [] }

/-- 'laws.FnExactFindEntry': WHATEVER THE INPUT: true; the input reads as it did. -/
def fnExactFindEntrySpec : ChangeSpec := { name := "fnExactFindEntry", fn := fun _ => fun
  | [d1, d2, d3] => { results := [.lit (.bool true)], args := [d1, d2, d3] }
  | _ => none }
def fnExactFindEntryRow : OpenClaim := { program := "ytiakihknknignaa", sum := "fdc96e301452e30a12562b39a1628f5070758f488405698eb7229a12a13d1169", func := "loop.example/g00975/laws.FnExactFindEntry", spec := "fnExactFindEntry", apart := false }
def FnExactFindEntrySaid : Prop := fnExactFindEntryRow.holds Try.pinned (OpenSpec.ofChange fnExactFindEntrySpec)

/-- ITS FALSE NEIGHBOUR: 'it returns false'. Refute it at one input. -/
def fnExactFindEntryWrong : ChangeSpec := { name := "fnExactFindEntry", fn := fun _ => fun
  | [d1, d2, d3] => { results := [.lit (.bool false)], args := [d1, d2, d3] }
  | _ => none }
def FnExactFindEntryWrongFalsely : Prop := fnExactFindEntryRow.holds Try.pinned (OpenSpec.ofChange fnExactFindEntryWrong)

/-- 'laws.FnExactBufferOk': WHATEVER THE INPUT: true; the input reads as it did. -/
def fnExactBufferOkSpec : ChangeSpec := { name := "fnExactBufferOk", fn := fun _ => fun
  | [d] => { results := [.lit (.bool true)], args := [d] }
  | _ => none }
def fnExactBufferOkRow : OpenClaim := { program := "ytiakihknknignaa", sum := "fdc96e301452e30a12562b39a1628f5070758f488405698eb7229a12a13d1169", func := "loop.example/g00975/laws.FnExactBufferOk", spec := "fnExactBufferOk", apart := false }
def FnExactBufferOkSaid : Prop := fnExactBufferOkRow.holds Try.pinned (OpenSpec.ofChange fnExactBufferOkSpec)

/-- ITS FALSE NEIGHBOUR: 'it returns false'. Refute it at one input. -/
def fnExactBufferOkWrong : ChangeSpec := { name := "fnExactBufferOk", fn := fun _ => fun
  | [d] => { results := [.lit (.bool false)], args := [d] }
  | _ => none }
def FnExactBufferOkWrongFalsely : Prop := fnExactBufferOkRow.holds Try.pinned (OpenSpec.ofChange fnExactBufferOkWrong)

/-- 'laws.FnExactFlushHost': WHATEVER THE INPUT: true; the input reads as it did. -/
def fnExactFlushHostSpec : ChangeSpec := { name := "fnExactFlushHost", fn := fun _ => fun
  | [d1, d2] => { results := [.lit (.bool true)], args := [d1, d2] }
  | _ => none }
def fnExactFlushHostRow : OpenClaim := { program := "ytiakihknknignaa", sum := "fdc96e301452e30a12562b39a1628f5070758f488405698eb7229a12a13d1169", func := "loop.example/g00975/laws.FnExactFlushHost", spec := "fnExactFlushHost", unfollowed := true, recurses := true, apart := false }
def FnExactFlushHostSaid : Prop := fnExactFlushHostRow.holds Try.pinned (OpenSpec.ofChange fnExactFlushHostSpec)

/-- ITS FALSE NEIGHBOUR: 'it returns false'. Refute it at one input. -/
def fnExactFlushHostWrong : ChangeSpec := { name := "fnExactFlushHost", fn := fun _ => fun
  | [d1, d2] => { results := [.lit (.bool false)], args := [d1, d2] }
  | _ => none }
def FnExactFlushHostWrongFalsely : Prop := fnExactFlushHostRow.holds Try.pinned (OpenSpec.ofChange fnExactFlushHostWrong)

/-- 'laws.FnExactFlushPage': WHATEVER THE INPUT: true; the input reads as it did. -/
def fnExactFlushPageSpec : ChangeSpec := { name := "fnExactFlushPage", fn := fun _ => fun
  | [d1, d2, d3] => { results := [.lit (.bool true)], args := [d1, d2, d3] }
  | _ => none }
def fnExactFlushPageRow : OpenClaim := { program := "ytiakihknknignaa", sum := "fdc96e301452e30a12562b39a1628f5070758f488405698eb7229a12a13d1169", func := "loop.example/g00975/laws.FnExactFlushPage", spec := "fnExactFlushPage", unfollowed := true, recurses := true, apart := false }
def FnExactFlushPageSaid : Prop := fnExactFlushPageRow.holds Try.pinned (OpenSpec.ofChange fnExactFlushPageSpec)

/-- ITS FALSE NEIGHBOUR: 'it returns false'. Refute it at one input. -/
def fnExactFlushPageWrong : ChangeSpec := { name := "fnExactFlushPage", fn := fun _ => fun
  | [d1, d2, d3] => { results := [.lit (.bool false)], args := [d1, d2, d3] }
  | _ => none }
def FnExactFlushPageWrongFalsely : Prop := fnExactFlushPageRow.holds Try.pinned (OpenSpec.ofChange fnExactFlushPageWrong)

/-- 'laws.FnExactFlushTag': WHATEVER THE INPUT: true; the input reads as it did. -/
def fnExactFlushTagSpec : ChangeSpec := { name := "fnExactFlushTag", fn := fun _ => fun
  | [d1, d2] => { results := [.lit (.bool true)], args := [d1, d2] }
  | _ => none }
def fnExactFlushTagRow : OpenClaim := { program := "ytiakihknknignaa", sum := "fdc96e301452e30a12562b39a1628f5070758f488405698eb7229a12a13d1169", func := "loop.example/g00975/laws.FnExactFlushTag", spec := "fnExactFlushTag", unfollowed := true, recurses := true, apart := false }
def FnExactFlushTagSaid : Prop := fnExactFlushTagRow.holds Try.pinned (OpenSpec.ofChange fnExactFlushTagSpec)

/-- ITS FALSE NEIGHBOUR: 'it returns false'. Refute it at one input. -/
def fnExactFlushTagWrong : ChangeSpec := { name := "fnExactFlushTag", fn := fun _ => fun
  | [d1, d2] => { results := [.lit (.bool false)], args := [d1, d2] }
  | _ => none }
def FnExactFlushTagWrongFalsely : Prop := fnExactFlushTagRow.holds Try.pinned (OpenSpec.ofChange fnExactFlushTagWrong)

/-- 'laws.FnExactPutEntry': WHATEVER THE INPUT: true; the input reads as it did. -/
def fnExactPutEntrySpec : ChangeSpec := { name := "fnExactPutEntry", fn := fun _ => fun
  | [d1, d2] => { results := [.lit (.bool true)], args := [d1, d2] }
  | _ => none }
def fnExactPutEntryRow : OpenClaim := { program := "ytiakihknknignaa", sum := "fdc96e301452e30a12562b39a1628f5070758f488405698eb7229a12a13d1169", func := "loop.example/g00975/laws.FnExactPutEntry", spec := "fnExactPutEntry", unfollowed := true, recurses := true, apart := false }
def FnExactPutEntrySaid : Prop := fnExactPutEntryRow.holds Try.pinned (OpenSpec.ofChange fnExactPutEntrySpec)

/-- ITS FALSE NEIGHBOUR: 'it returns false'. Refute it at one input. -/
def fnExactPutEntryWrong : ChangeSpec := { name := "fnExactPutEntry", fn := fun _ => fun
  | [d1, d2] => { results := [.lit (.bool false)], args := [d1, d2] }
  | _ => none }
def FnExactPutEntryWrongFalsely : Prop := fnExactPutEntryRow.holds Try.pinned (OpenSpec.ofChange fnExactPutEntryWrong)

/-- 'laws.FnExactFlushMon': WHATEVER THE INPUT: true; the input reads as it did. -/
def fnExactFlushMonSpec : ChangeSpec := { name := "fnExactFlushMon", fn := fun _ => fun
  | [d1, d2] => { results := [.lit (.bool true)], args := [d1, d2] }
  | _ => none }
def fnExactFlushMonRow : OpenClaim := { program := "ytiakihknknignaa", sum := "fdc96e301452e30a12562b39a1628f5070758f488405698eb7229a12a13d1169", func := "loop.example/g00975/laws.FnExactFlushMon", spec := "fnExactFlushMon", unfollowed := true, recurses := true, apart := false }
def FnExactFlushMonSaid : Prop := fnExactFlushMonRow.holds Try.pinned (OpenSpec.ofChange fnExactFlushMonSpec)

/-- ITS FALSE NEIGHBOUR: 'it returns false'. Refute it at one input. -/
def fnExactFlushMonWrong : ChangeSpec := { name := "fnExactFlushMon", fn := fun _ => fun
  | [d1, d2] => { results := [.lit (.bool false)], args := [d1, d2] }
  | _ => none }
def FnExactFlushMonWrongFalsely : Prop := fnExactFlushMonRow.holds Try.pinned (OpenSpec.ofChange fnExactFlushMonWrong)

/-- 'laws.FnExactTagsIn': WHATEVER THE INPUT: true; the input reads as it did. -/
def fnExactTagsInSpec : ChangeSpec := { name := "fnExactTagsIn", fn := fun _ => fun
  | [d] => { results := [.lit (.bool true)], args := [d] }
  | _ => none }
def fnExactTagsInRow : OpenClaim := { program := "ytiakihknknignaa", sum := "fdc96e301452e30a12562b39a1628f5070758f488405698eb7229a12a13d1169", func := "loop.example/g00975/laws.FnExactTagsIn", spec := "fnExactTagsIn", recurses := true, apart := false }
def FnExactTagsInSaid : Prop := fnExactTagsInRow.holds Try.pinned (OpenSpec.ofChange fnExactTagsInSpec)

/-- ITS FALSE NEIGHBOUR: 'it returns false'. Refute it at one input. -/
def fnExactTagsInWrong : ChangeSpec := { name := "fnExactTagsIn", fn := fun _ => fun
  | [d] => { results := [.lit (.bool false)], args := [d] }
  | _ => none }
def FnExactTagsInWrongFalsely : Prop := fnExactTagsInRow.holds Try.pinned (OpenSpec.ofChange fnExactTagsInWrong)

/-- 'laws.FnExactInsAt': WHATEVER THE INPUT: true; the input reads as it did. -/
def fnExactInsAtSpec : ChangeSpec := { name := "fnExactInsAt", fn := fun _ => fun
  | [d1, d2] => { results := [.lit (.bool true)], args := [d1, d2] }
  | _ => none }
def fnExactInsAtRow : OpenClaim := { program := "ytiakihknknignaa", sum := "fdc96e301452e30a12562b39a1628f5070758f488405698eb7229a12a13d1169", func := "loop.example/g00975/laws.FnExactInsAt", spec := "fnExactInsAt", apart := false }
def FnExactInsAtSaid : Prop := fnExactInsAtRow.holds Try.pinned (OpenSpec.ofChange fnExactInsAtSpec)

/-- ITS FALSE NEIGHBOUR: 'it returns false'. Refute it at one input. -/
def fnExactInsAtWrong : ChangeSpec := { name := "fnExactInsAt", fn := fun _ => fun
  | [d1, d2] => { results := [.lit (.bool false)], args := [d1, d2] }
  | _ => none }
def FnExactInsAtWrongFalsely : Prop := fnExactInsAtRow.holds Try.pinned (OpenSpec.ofChange fnExactInsAtWrong)

/-- 'laws.FnExactSameProg': WHATEVER THE INPUT: true; the input reads as it did. -/
def fnExactSameProgSpec : ChangeSpec := { name := "fnExactSameProg", fn := fun _ => fun
  | [d1, d2] => { results := [.lit (.bool true)], args := [d1, d2] }
  | _ => none }
def fnExactSameProgRow : OpenClaim := { program := "ytiakihknknignaa", sum := "fdc96e301452e30a12562b39a1628f5070758f488405698eb7229a12a13d1169", func := "loop.example/g00975/laws.FnExactSameProg", spec := "fnExactSameProg", apart := false }
def FnExactSameProgSaid : Prop := fnExactSameProgRow.holds Try.pinned (OpenSpec.ofChange fnExactSameProgSpec)

/-- ITS FALSE NEIGHBOUR: 'it returns false'. Refute it at one input. -/
def fnExactSameProgWrong : ChangeSpec := { name := "fnExactSameProg", fn := fun _ => fun
  | [d1, d2] => { results := [.lit (.bool false)], args := [d1, d2] }
  | _ => none }
def FnExactSameProgWrongFalsely : Prop := fnExactSameProgRow.holds Try.pinned (OpenSpec.ofChange fnExactSameProgWrong)

/-- 'laws.FnExactProgOk': WHATEVER THE INPUT: true; the input reads as it did. -/
def fnExactProgOkSpec : ChangeSpec := { name := "fnExactProgOk", fn := fun _ => fun
  | [d] => { results := [.lit (.bool true)], args := [d] }
  | _ => none }
def fnExactProgOkRow : OpenClaim := { program := "ytiakihknknignaa", sum := "fdc96e301452e30a12562b39a1628f5070758f488405698eb7229a12a13d1169", func := "loop.example/g00975/laws.FnExactProgOk", spec := "fnExactProgOk", apart := false }
def FnExactProgOkSaid : Prop := fnExactProgOkRow.holds Try.pinned (OpenSpec.ofChange fnExactProgOkSpec)

/-- ITS FALSE NEIGHBOUR: 'it returns false'. Refute it at one input. -/
def fnExactProgOkWrong : ChangeSpec := { name := "fnExactProgOk", fn := fun _ => fun
  | [d] => { results := [.lit (.bool false)], args := [d] }
  | _ => none }
def FnExactProgOkWrongFalsely : Prop := fnExactProgOkRow.holds Try.pinned (OpenSpec.ofChange fnExactProgOkWrong)

/- THE SECOND FORM. 'bulk': how many values and letters a reading holds, each counted each time it is reached (what is shared counts as often as it is met; a slice's spare places count too). A statement '..UptoSaid' is the law's where the arguments, and the package variables that the reading takes, are together of bulk at most 1048576: NARROWER than '..Said'. Prove '..Said' where nothing that the law and all that it calls make is longer than what came in: it says more and counts as full. Else prove '..UptoSaid'. A law counts once. -/
mutual
def uptoBulk {H : Type} : DataW H → Nat
  | .lit (.string bytes) => bytes.length + 1
  | .lit _ => 1
  | .nil => 1
  | .ptr d => uptoBulk d + 1
  | .slice elems spare => uptoBulkAll elems + uptoBulkAll spare + 1
  | .agg parts => uptoBulkAll parts + 1
  | .iface _ d => uptoBulk d + 1
  | .map entries => uptoBulkEntries entries + 1
  | .held _ => 1
def uptoBulkAll {H : Type} : List (DataW H) → Nat
  | [] => 0
  | d :: r => uptoBulk d + uptoBulkAll r
def uptoBulkEntries {H : Type} : List (Lit × DataW H) → Nat
  | [] => 0
  | x :: r => uptoBulkEntry x + uptoBulkEntries r
def uptoBulkEntry {H : Type} : Lit × DataW H → Nat
  | (.string bytes, d) => bytes.length + uptoBulk d + 1
  | (_, d) => uptoBulk d + 1
 end
def uptoSmall : (H : Type) → List (DataW H) → Bool := fun _ ds => decide (uptoBulkAll ds ≤ 1048576)
def OpenSpec.upto (s : _root_.Go.ChangeSpec) : _root_.Go.OpenSpec := { _root_.Go.OpenSpec.ofChange s with cond := some uptoSmall }

/-- 'laws.FnExactFindEntry', WHERE WHAT IT READS IS OF BULK AT MOST 1048576: true; the input reads as it did. -/
def fnExactFindEntryUptoRow : OpenClaim := { program := "ytiakihknknignaa", sum := "fdc96e301452e30a12562b39a1628f5070758f488405698eb7229a12a13d1169", func := "loop.example/g00975/laws.FnExactFindEntry", spec := "fnExactFindEntry", apart := false, narrowed := true }
def FnExactFindEntryUptoSaid : Prop := fnExactFindEntryUptoRow.holds Try.pinned (OpenSpec.upto fnExactFindEntrySpec)

/-- 'laws.FnExactBufferOk', WHERE WHAT IT READS IS OF BULK AT MOST 1048576: true; the input reads as it did. -/
def fnExactBufferOkUptoRow : OpenClaim := { program := "ytiakihknknignaa", sum := "fdc96e301452e30a12562b39a1628f5070758f488405698eb7229a12a13d1169", func := "loop.example/g00975/laws.FnExactBufferOk", spec := "fnExactBufferOk", apart := false, narrowed := true }
def FnExactBufferOkUptoSaid : Prop := fnExactBufferOkUptoRow.holds Try.pinned (OpenSpec.upto fnExactBufferOkSpec)

/-- 'laws.FnExactFlushHost', WHERE WHAT IT READS IS OF BULK AT MOST 1048576: true; the input reads as it did. -/
def fnExactFlushHostUptoRow : OpenClaim := { program := "ytiakihknknignaa", sum := "fdc96e301452e30a12562b39a1628f5070758f488405698eb7229a12a13d1169", func := "loop.example/g00975/laws.FnExactFlushHost", spec := "fnExactFlushHost", unfollowed := true, recurses := true, apart := false, narrowed := true }
def FnExactFlushHostUptoSaid : Prop := fnExactFlushHostUptoRow.holds Try.pinned (OpenSpec.upto fnExactFlushHostSpec)

/-- 'laws.FnExactFlushPage', WHERE WHAT IT READS IS OF BULK AT MOST 1048576: true; the input reads as it did. -/
def fnExactFlushPageUptoRow : OpenClaim := { program := "ytiakihknknignaa", sum := "fdc96e301452e30a12562b39a1628f5070758f488405698eb7229a12a13d1169", func := "loop.example/g00975/laws.FnExactFlushPage", spec := "fnExactFlushPage", unfollowed := true, recurses := true, apart := false, narrowed := true }
def FnExactFlushPageUptoSaid : Prop := fnExactFlushPageUptoRow.holds Try.pinned (OpenSpec.upto fnExactFlushPageSpec)

/-- 'laws.FnExactFlushTag', WHERE WHAT IT READS IS OF BULK AT MOST 1048576: true; the input reads as it did. -/
def fnExactFlushTagUptoRow : OpenClaim := { program := "ytiakihknknignaa", sum := "fdc96e301452e30a12562b39a1628f5070758f488405698eb7229a12a13d1169", func := "loop.example/g00975/laws.FnExactFlushTag", spec := "fnExactFlushTag", unfollowed := true, recurses := true, apart := false, narrowed := true }
def FnExactFlushTagUptoSaid : Prop := fnExactFlushTagUptoRow.holds Try.pinned (OpenSpec.upto fnExactFlushTagSpec)

/-- 'laws.FnExactPutEntry', WHERE WHAT IT READS IS OF BULK AT MOST 1048576: true; the input reads as it did. -/
def fnExactPutEntryUptoRow : OpenClaim := { program := "ytiakihknknignaa", sum := "fdc96e301452e30a12562b39a1628f5070758f488405698eb7229a12a13d1169", func := "loop.example/g00975/laws.FnExactPutEntry", spec := "fnExactPutEntry", unfollowed := true, recurses := true, apart := false, narrowed := true }
def FnExactPutEntryUptoSaid : Prop := fnExactPutEntryUptoRow.holds Try.pinned (OpenSpec.upto fnExactPutEntrySpec)

/-- 'laws.FnExactFlushMon', WHERE WHAT IT READS IS OF BULK AT MOST 1048576: true; the input reads as it did. -/
def fnExactFlushMonUptoRow : OpenClaim := { program := "ytiakihknknignaa", sum := "fdc96e301452e30a12562b39a1628f5070758f488405698eb7229a12a13d1169", func := "loop.example/g00975/laws.FnExactFlushMon", spec := "fnExactFlushMon", unfollowed := true, recurses := true, apart := false, narrowed := true }
def FnExactFlushMonUptoSaid : Prop := fnExactFlushMonUptoRow.holds Try.pinned (OpenSpec.upto fnExactFlushMonSpec)

/-- 'laws.FnExactTagsIn', WHERE WHAT IT READS IS OF BULK AT MOST 1048576: true; the input reads as it did. -/
def fnExactTagsInUptoRow : OpenClaim := { program := "ytiakihknknignaa", sum := "fdc96e301452e30a12562b39a1628f5070758f488405698eb7229a12a13d1169", func := "loop.example/g00975/laws.FnExactTagsIn", spec := "fnExactTagsIn", recurses := true, apart := false, narrowed := true }
def FnExactTagsInUptoSaid : Prop := fnExactTagsInUptoRow.holds Try.pinned (OpenSpec.upto fnExactTagsInSpec)

/-- 'laws.FnExactInsAt', WHERE WHAT IT READS IS OF BULK AT MOST 1048576: true; the input reads as it did. -/
def fnExactInsAtUptoRow : OpenClaim := { program := "ytiakihknknignaa", sum := "fdc96e301452e30a12562b39a1628f5070758f488405698eb7229a12a13d1169", func := "loop.example/g00975/laws.FnExactInsAt", spec := "fnExactInsAt", apart := false, narrowed := true }
def FnExactInsAtUptoSaid : Prop := fnExactInsAtUptoRow.holds Try.pinned (OpenSpec.upto fnExactInsAtSpec)

/-- 'laws.FnExactSameProg', WHERE WHAT IT READS IS OF BULK AT MOST 1048576: true; the input reads as it did. -/
def fnExactSameProgUptoRow : OpenClaim := { program := "ytiakihknknignaa", sum := "fdc96e301452e30a12562b39a1628f5070758f488405698eb7229a12a13d1169", func := "loop.example/g00975/laws.FnExactSameProg", spec := "fnExactSameProg", apart := false, narrowed := true }
def FnExactSameProgUptoSaid : Prop := fnExactSameProgUptoRow.holds Try.pinned (OpenSpec.upto fnExactSameProgSpec)

/-- 'laws.FnExactProgOk', WHERE WHAT IT READS IS OF BULK AT MOST 1048576: true; the input reads as it did. -/
def fnExactProgOkUptoRow : OpenClaim := { program := "ytiakihknknignaa", sum := "fdc96e301452e30a12562b39a1628f5070758f488405698eb7229a12a13d1169", func := "loop.example/g00975/laws.FnExactProgOk", spec := "fnExactProgOk", apart := false, narrowed := true }
def FnExactProgOkUptoSaid : Prop := fnExactProgOkUptoRow.holds Try.pinned (OpenSpec.upto fnExactProgOkSpec)

end Rows
end Go.Proofs.Ytiakihknknignaa
