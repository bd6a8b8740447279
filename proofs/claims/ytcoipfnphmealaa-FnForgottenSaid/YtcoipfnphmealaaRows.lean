/-
  No cell of these rows narrows 'for every input' (looked for: loops, veiled, ifaces, maps, wideKeys, modest, calm, conditions, laid).
  DERIVED. THE GIVEN ROWS OF THIS SEAT. 7 by the template 'for every input the law returns true; each argument reads behind the call as it read before'; 0 by the template 'total and deterministic' (their statements: YtcoipfnphmealaaTotals.lean).
  GIVEN WITH THE SEED: the statements are not yours to turn. If you find one false, say at which input.
  Laid BY PROGRAM, IN A SANDBOX (cutbox-rows.mjs): the forced cells as the released guide's own fill.sh prints them over the translation 13b29718f92bf610… (all of the seat's roots in one cut). By AI agents, Wed Nov 11 2026. No macro, syntax, notation, axiom, sorry.
-/
import Derived.Test.YtcoipfnphmealaaChecked
import GoSem.Claim
import GoSem.ClaimJoined
import GoSem.ClaimMapViews
import Derived.JoinedTies
import Derived.KernelRfl
namespace Go.Proofs.Ytcoipfnphmealaa
/- THE CELL 'sum', in the pinned program and in every row, IS THE sha256 OF THE DUMP (.gsa) THAT YtcoipfnphmealaaProg.lean LOADS. Nothing in Lean hashes anything: it is a label: what it is worth is what the hold of that sum in a sandbox is worth. -/
noncomputable def Try.pinned : Pinned := { name := "ytcoipfnphmealaa", sum := "13b29718f92bf610cf2d256441467ed38e372d52f4324fc99a09f04915622c43", checked := Try.checked }
namespace Rows
def none {H : Type} : Left H := { results := [], args := [] }

/-- 'laws.FnBuffer': WHATEVER THE INPUT: true; the input reads as it did. -/
def fnBufferSpec : ChangeSpec := { name := "fnBuffer", fn := fun _ => fun
  | [d] => { results := [.lit (.bool true)], args := [d] }
  | _ => none }
def fnBufferRow : OpenClaim := { program := "ytcoipfnphmealaa", sum := "13b29718f92bf610cf2d256441467ed38e372d52f4324fc99a09f04915622c43", func := "loop.example/g00975/laws.FnBuffer", spec := "fnBuffer", unfollowed := true, recurses := true, apart := false }
def FnBufferSaid : Prop := fnBufferRow.holds Try.pinned (OpenSpec.ofChange fnBufferSpec)

/-- ITS FALSE NEIGHBOUR: 'it returns false'. Refute it at one input. -/
def fnBufferWrong : ChangeSpec := { name := "fnBuffer", fn := fun _ => fun
  | [d] => { results := [.lit (.bool false)], args := [d] }
  | _ => none }
def FnBufferWrongFalsely : Prop := fnBufferRow.holds Try.pinned (OpenSpec.ofChange fnBufferWrong)

/-- 'laws.FnLastSix': WHATEVER THE INPUT: true; the input reads as it did. -/
def fnLastSixSpec : ChangeSpec := { name := "fnLastSix", fn := fun _ => fun
  | [d] => { results := [.lit (.bool true)], args := [d] }
  | _ => none }
def fnLastSixRow : OpenClaim := { program := "ytcoipfnphmealaa", sum := "13b29718f92bf610cf2d256441467ed38e372d52f4324fc99a09f04915622c43", func := "loop.example/g00975/laws.FnLastSix", spec := "fnLastSix", unfollowed := true, recurses := true, apart := false }
def FnLastSixSaid : Prop := fnLastSixRow.holds Try.pinned (OpenSpec.ofChange fnLastSixSpec)

/-- ITS FALSE NEIGHBOUR: 'it returns false'. Refute it at one input. -/
def fnLastSixWrong : ChangeSpec := { name := "fnLastSix", fn := fun _ => fun
  | [d] => { results := [.lit (.bool false)], args := [d] }
  | _ => none }
def FnLastSixWrongFalsely : Prop := fnLastSixRow.holds Try.pinned (OpenSpec.ofChange fnLastSixWrong)

/-- 'laws.FnFlushed': WHATEVER THE INPUT: true; the input reads as it did. -/
def fnFlushedSpec : ChangeSpec := { name := "fnFlushed", fn := fun _ => fun
  | [d] => { results := [.lit (.bool true)], args := [d] }
  | _ => none }
def fnFlushedRow : OpenClaim := { program := "ytcoipfnphmealaa", sum := "13b29718f92bf610cf2d256441467ed38e372d52f4324fc99a09f04915622c43", func := "loop.example/g00975/laws.FnFlushed", spec := "fnFlushed", unfollowed := true, recurses := true, apart := false }
def FnFlushedSaid : Prop := fnFlushedRow.holds Try.pinned (OpenSpec.ofChange fnFlushedSpec)

/-- ITS FALSE NEIGHBOUR: 'it returns false'. Refute it at one input. -/
def fnFlushedWrong : ChangeSpec := { name := "fnFlushed", fn := fun _ => fun
  | [d] => { results := [.lit (.bool false)], args := [d] }
  | _ => none }
def FnFlushedWrongFalsely : Prop := fnFlushedRow.holds Try.pinned (OpenSpec.ofChange fnFlushedWrong)

/-- 'laws.FnOfMon': WHATEVER THE INPUT: true; the input reads as it did. -/
def fnOfMonSpec : ChangeSpec := { name := "fnOfMon", fn := fun _ => fun
  | [d] => { results := [.lit (.bool true)], args := [d] }
  | _ => none }
def fnOfMonRow : OpenClaim := { program := "ytcoipfnphmealaa", sum := "13b29718f92bf610cf2d256441467ed38e372d52f4324fc99a09f04915622c43", func := "loop.example/g00975/laws.FnOfMon", spec := "fnOfMon", unfollowed := true, recurses := true, apart := false }
def FnOfMonSaid : Prop := fnOfMonRow.holds Try.pinned (OpenSpec.ofChange fnOfMonSpec)

/-- ITS FALSE NEIGHBOUR: 'it returns false'. Refute it at one input. -/
def fnOfMonWrong : ChangeSpec := { name := "fnOfMon", fn := fun _ => fun
  | [d] => { results := [.lit (.bool false)], args := [d] }
  | _ => none }
def FnOfMonWrongFalsely : Prop := fnOfMonRow.holds Try.pinned (OpenSpec.ofChange fnOfMonWrong)

/-- 'laws.FnTags': WHATEVER THE INPUT: true; the input reads as it did. -/
def fnTagsSpec : ChangeSpec := { name := "fnTags", fn := fun _ => fun
  | [d] => { results := [.lit (.bool true)], args := [d] }
  | _ => none }
def fnTagsRow : OpenClaim := { program := "ytcoipfnphmealaa", sum := "13b29718f92bf610cf2d256441467ed38e372d52f4324fc99a09f04915622c43", func := "loop.example/g00975/laws.FnTags", spec := "fnTags", unfollowed := true, recurses := true, apart := false }
def FnTagsSaid : Prop := fnTagsRow.holds Try.pinned (OpenSpec.ofChange fnTagsSpec)

/-- ITS FALSE NEIGHBOUR: 'it returns false'. Refute it at one input. -/
def fnTagsWrong : ChangeSpec := { name := "fnTags", fn := fun _ => fun
  | [d] => { results := [.lit (.bool false)], args := [d] }
  | _ => none }
def FnTagsWrongFalsely : Prop := fnTagsRow.holds Try.pinned (OpenSpec.ofChange fnTagsWrong)

/-- 'laws.FnFillAll': WHATEVER THE INPUT: true; the input reads as it did. -/
def fnFillAllSpec : ChangeSpec := { name := "fnFillAll", fn := fun _ => fun
  | [d] => { results := [.lit (.bool true)], args := [d] }
  | _ => none }
def fnFillAllRow : OpenClaim := { program := "ytcoipfnphmealaa", sum := "13b29718f92bf610cf2d256441467ed38e372d52f4324fc99a09f04915622c43", func := "loop.example/g00975/laws.FnFillAll", spec := "fnFillAll", apart := false }
def FnFillAllSaid : Prop := fnFillAllRow.holds Try.pinned (OpenSpec.ofChange fnFillAllSpec)

/-- ITS FALSE NEIGHBOUR: 'it returns false'. Refute it at one input. -/
def fnFillAllWrong : ChangeSpec := { name := "fnFillAll", fn := fun _ => fun
  | [d] => { results := [.lit (.bool false)], args := [d] }
  | _ => none }
def FnFillAllWrongFalsely : Prop := fnFillAllRow.holds Try.pinned (OpenSpec.ofChange fnFillAllWrong)

/-- 'laws.FnForgotten': WHATEVER THE INPUT: true; the input reads as it did. -/
def fnForgottenSpec : ChangeSpec := { name := "fnForgotten", fn := fun _ => fun
  | [d] => { results := [.lit (.bool true)], args := [d] }
  | _ => none }
def fnForgottenRow : OpenClaim := { program := "ytcoipfnphmealaa", sum := "13b29718f92bf610cf2d256441467ed38e372d52f4324fc99a09f04915622c43", func := "loop.example/g00975/laws.FnForgotten", spec := "fnForgotten", apart := false }
def FnForgottenSaid : Prop := fnForgottenRow.holds Try.pinned (OpenSpec.ofChange fnForgottenSpec)

/-- ITS FALSE NEIGHBOUR: 'it returns false'. Refute it at one input. -/
def fnForgottenWrong : ChangeSpec := { name := "fnForgotten", fn := fun _ => fun
  | [d] => { results := [.lit (.bool false)], args := [d] }
  | _ => none }
def FnForgottenWrongFalsely : Prop := fnForgottenRow.holds Try.pinned (OpenSpec.ofChange fnForgottenWrong)

/- THE SECOND FORM. 'bulk': how many values and letters a reading holds, each counted each time it is reached (what is shared counts as often as it is met; a slice's spare places count too). A statement '..UptoSaid' is the law's where the arguments, and the package variables that the reading takes, are together of bulk at most 1048576: NARROWER than '..Said'. Prove '..Said' where nothing that the law and all that it calls make is longer than what came in: it says more and counts as full. Else prove '..UptoSaid'. A law counts once. -/
mutual
def uptoBulk {H : Type} : DataW H → Nat
  | .lit (.string bytes) => bytes.length + 1
  | .lit _ => 1
  | .nil => 1
  | .ptr d => uptoBulk d + 1
  | .slice elems spare => uptoBulkAll elems + uptoBulkAll spare + 1
  | .agg parts => uptoBulkAll parts + 1
  | .iface _ d => uptoBulk d + 1
  | .map entries => uptoBulkEntries entries + 1
  | .held _ => 1
def uptoBulkAll {H : Type} : List (DataW H) → Nat
  | [] => 0
  | d :: r => uptoBulk d + uptoBulkAll r
def uptoBulkEntries {H : Type} : List (Lit × DataW H) → Nat
  | [] => 0
  | x :: r => uptoBulkEntry x + uptoBulkEntries r
def uptoBulkEntry {H : Type} : Lit × DataW H → Nat
  | (.string bytes, d) => bytes.length + uptoBulk d + 1
  | (_, d) => uptoBulk d + 1
 end
def uptoSmall : (H : Type) → List (DataW H) → Bool := fun _ ds => decide (uptoBulkAll ds ≤ 1048576)
def OpenSpec.upto (s : _root_.Go.ChangeSpec) : _root_.Go.OpenSpec := { _root_.Go.OpenSpec.ofChange s with cond := some uptoSmall }

/-- 'laws.FnBuffer', WHERE WHAT IT READS IS OF BULK AT MOST 1048576: true; the input reads as it did. -/
def fnBufferUptoRow : OpenClaim := { program := "ytcoipfnphmealaa", sum := "13b29718f92bf610cf2d256441467ed38e372d52f4324fc99a09f04915622c43", func := "loop.example/g00975/laws.FnBuffer", spec := "fnBuffer", unfollowed := true, recurses := true, apart := false, narrowed := true }
def FnBufferUptoSaid : Prop := fnBufferUptoRow.holds Try.pinned (OpenSpec.upto fnBufferSpec)

/-- 'laws.FnLastSix', WHERE WHAT IT READS IS OF BULK AT MOST 1048576: true; the input reads as it did. -/
def fnLastSixUptoRow : OpenClaim := { program := "ytcoipfnphmealaa", sum := "13b29718f92bf610cf2d256441467ed38e372d52f4324fc99a09f04915622c43", func := "loop.example/g00975/laws.FnLastSix", spec := "fnLastSix", unfollowed := true, recurses := true, apart := false, narrowed := true }
def FnLastSixUptoSaid : Prop := fnLastSixUptoRow.holds Try.pinned (OpenSpec.upto fnLastSixSpec)

/-- 'laws.FnFlushed', WHERE WHAT IT READS IS OF BULK AT MOST 1048576: true; the input reads as it did. -/
def fnFlushedUptoRow : OpenClaim := { program := "ytcoipfnphmealaa", sum := "13b29718f92bf610cf2d256441467ed38e372d52f4324fc99a09f04915622c43", func := "loop.example/g00975/laws.FnFlushed", spec := "fnFlushed", unfollowed := true, recurses := true, apart := false, narrowed := true }
def FnFlushedUptoSaid : Prop := fnFlushedUptoRow.holds Try.pinned (OpenSpec.upto fnFlushedSpec)

/-- 'laws.FnOfMon', WHERE WHAT IT READS IS OF BULK AT MOST 1048576: true; the input reads as it did. -/
def fnOfMonUptoRow : OpenClaim := { program := "ytcoipfnphmealaa", sum := "13b29718f92bf610cf2d256441467ed38e372d52f4324fc99a09f04915622c43", func := "loop.example/g00975/laws.FnOfMon", spec := "fnOfMon", unfollowed := true, recurses := true, apart := false, narrowed := true }
def FnOfMonUptoSaid : Prop := fnOfMonUptoRow.holds Try.pinned (OpenSpec.upto fnOfMonSpec)

/-- 'laws.FnTags', WHERE WHAT IT READS IS OF BULK AT MOST 1048576: true; the input reads as it did. -/
def fnTagsUptoRow : OpenClaim := { program := "ytcoipfnphmealaa", sum := "13b29718f92bf610cf2d256441467ed38e372d52f4324fc99a09f04915622c43", func := "loop.example/g00975/laws.FnTags", spec := "fnTags", unfollowed := true, recurses := true, apart := false, narrowed := true }
def FnTagsUptoSaid : Prop := fnTagsUptoRow.holds Try.pinned (OpenSpec.upto fnTagsSpec)

/-- 'laws.FnFillAll', WHERE WHAT IT READS IS OF BULK AT MOST 1048576: true; the input reads as it did. -/
def fnFillAllUptoRow : OpenClaim := { program := "ytcoipfnphmealaa", sum := "13b29718f92bf610cf2d256441467ed38e372d52f4324fc99a09f04915622c43", func := "loop.example/g00975/laws.FnFillAll", spec := "fnFillAll", apart := false, narrowed := true }
def FnFillAllUptoSaid : Prop := fnFillAllUptoRow.holds Try.pinned (OpenSpec.upto fnFillAllSpec)

/-- 'laws.FnForgotten', WHERE WHAT IT READS IS OF BULK AT MOST 1048576: true; the input reads as it did. -/
def fnForgottenUptoRow : OpenClaim := { program := "ytcoipfnphmealaa", sum := "13b29718f92bf610cf2d256441467ed38e372d52f4324fc99a09f04915622c43", func := "loop.example/g00975/laws.FnForgotten", spec := "fnForgotten", apart := false, narrowed := true }
def FnForgottenUptoSaid : Prop := fnForgottenUptoRow.holds Try.pinned (OpenSpec.upto fnForgottenSpec)

end Rows
end Go.Proofs.Ytcoipfnphmealaa
