/-
  For every exit the program's ExitText gives the reference's text. The card's condition alone: the library's table of powers of ten stands as its text lays it.
-/
import Derived.Test.YtignedkhklfonaaDoorRows
import Derived.WalkKit
import Derived.ProofKit
import Derived.OpenShut
import Derived.ShutString
import Derived.ChangeOld
import Derived.Below
import Derived.Lib.SmallJoins
import Derived.WalkSpells
import Derived.Test.YtignedkhklfonaaDoorCards
import Derived.Test.YtignedkhklfonaaDoorTie
import Derived.Test.YtignedkhklfonaaDoorExT
import Derived.Test.YtignedkhklfonaaDoorConv
import Derived.LaidMore
import Derived.Stop.Joined
import Derived.Stop.LaidErr
import Derived.MakeChecks
import Derived.SevenTiedAt
import Derived.Handy
import Derived.Deep.RegionHeld3
import Derived.Deep.QuietTactic
import Derived.BigQuiet
import Derived.Deep.Cut
namespace Go.Proofs.YtignedkhklfonaaDoor.fnExactExitText
open Go.ChangeShapes Go.WideShapes Go.ChangeAt Go.RowKit
set_option linter.unusedVariables false

theorem own : ownKnob Tryd.prog.godebug = none := by kernel_rfl
theorem laidOut : laidOutB Tryd.prog = true := by kernel_rfl

theorem gPowType : (Tryd.prog.globals[0]?).map (·.type) = some 48 := by kernel_rfl
theorem cells20 : Tryd.prog.cellsOf 48 = 20 := by kernel_rfl
theorem cells1 : Tryd.prog.cellsOf 41 = 1 := by kernel_rfl
theorem pow10_data : (Rows.laid_internal_strconv_uint64pow10 : DataW Unit) = Lib.tabData .u64 Lib.pow10Tab := by kernel_rfl
theorem table {W : World} (h : laidMetH Tryd.prog Rows.fnExactExitTextRow.laid W) : Tab W := by
  rw [MakeChecks.laidMetH_plain _ _ _ (by kernel_rfl)] at h
  have h2 : laidMet Tryd.prog [("internal/strconv.uint64pow10", (Rows.laid_internal_strconv_uint64pow10 : DataW Unit))] W := h.tail.tail
  rw [pow10_data] at h2
  exact Lib.tabIs_of_head (rest := []) gPow gPowType Tryd.underlying48 Tryd.underlying41 cells1 cells20 h2

theorem wf_i64 {x : Int} (h : (Lit.int .i64 x).wf = true) : -9223372036854775808 ≤ x ∧ x ≤ 9223372036854775807 := by
  have h1 : IntKind.i64.min = -9223372036854775808 := rfl
  simp [Lit.wf] at h
  rw [h1] at h
  exact h
set_option maxRecDepth 100000 in
set_option maxHeartbeats 8000000 in
theorem walk (k : Int) (wk : (Lit.int .i64 k).wf = true) (p : Int) (wp : (Lit.int .i64 p).wf = true) (b : Bool) (n : Int) (wn : (Lit.int .i64 n).wf = true) (w : World) (ht : Tab w) :
    Calls Tryd.prog 4 #[.agg #[.int .i64 k, .int .i64 p, .bool b, .int .i64 n]] w fun e w' => e = .returned (.bool true) ∧ Below w.heap.size w w' := by
  have lk : -9223372036854775808 ≤ k ∧ k ≤ 9223372036854775807 := wf_i64 wk
  have lp : -9223372036854775808 ≤ p ∧ p ≤ 9223372036854775807 := wf_i64 wp
  have ln : -9223372036854775808 ≤ n ∧ n ≤ 9223372036854775807 := wf_i64 wn
  have HT := Lib.hid ht
  clear ht wk wp wn
  have K0 := keep_1 w (.cells #[.int .i64 k, .int .i64 p, .bool b, .int .i64 n] 29)
  have x0 : (w.alloc (.cells #[.int .i64 k, .int .i64 p, .bool b, .int .i64 n] 29)).cell? ⟨w.heap.size, 0, none⟩ = some (.int .i64 k) := by go_cell
  have x1 : (w.alloc (.cells #[.int .i64 k, .int .i64 p, .bool b, .int .i64 n] 29)).cell? ⟨w.heap.size, 1, none⟩ = some (.int .i64 p) := by go_cell
  have x2 : (w.alloc (.cells #[.int .i64 k, .int .i64 p, .bool b, .int .i64 n] 29)).cell? ⟨w.heap.size, 2, none⟩ = some (.bool b) := by go_cell
  have x3 : (w.alloc (.cells #[.int .i64 k, .int .i64 p, .bool b, .int .i64 n] 29)).cell? ⟨w.heap.size, 3, none⟩ = some (.int .i64 n) := by go_cell
  have X0 := Lib.hid x0
  have X1 := Lib.hid x1
  have X2 := Lib.hid x2
  have X3 := Lib.hid x3
  have hz : w.heap.size < (w.alloc (.cells #[.int .i64 k, .int .i64 p, .bool b, .int .i64 n] 29)).heap.size := by simp
  clear x0 x1 x2 x3
  go_enter Tryd.func4, Tryd.ntmps4
  go_wp2_with fail
  refine (toExit_any _ _ _ _ _).mono ?_
  rintro e w1 ⟨rfl, k1⟩
  have y0 := (k1.cell0 (p := ⟨w.heap.size, 0, none⟩) (by exact hz)).trans X0.out
  have y1 := (k1.cell0 (p := ⟨w.heap.size, 1, none⟩) (by exact hz)).trans X1.out
  have y2 := (k1.cell0 (p := ⟨w.heap.size, 2, none⟩) (by exact hz)).trans X2.out
  have y3 := (k1.cell0 (p := ⟨w.heap.size, 3, none⟩) (by exact hz)).trans X3.out
  have K1 := K0.tr0 k1
  clear K0 k1
  go_wp2_with fail
  refine (specExitText_any _ _ _ _ lp.1 lp.2 ln.1 ln.2 _).mono ?_
  rintro e w2 ⟨rfl, k2⟩
  replace y0 := (k2.cell0 (p := ⟨w.heap.size, 0, none⟩) (World.block_lt_of_cell? _ _ y0)).trans y0
  replace y1 := (k2.cell0 (p := ⟨w.heap.size, 1, none⟩) (World.block_lt_of_cell? _ _ y1)).trans y1
  replace y2 := (k2.cell0 (p := ⟨w.heap.size, 2, none⟩) (World.block_lt_of_cell? _ _ y2)).trans y2
  replace y3 := (k2.cell0 (p := ⟨w.heap.size, 3, none⟩) (World.block_lt_of_cell? _ _ y3)).trans y3
  have K2 := K1.tr0 k2
  clear K1 k2
  go_wp2_with fail
  refine (toExit_any _ _ _ _ _).mono ?_
  rintro e w3 ⟨rfl, k3⟩
  replace y0 := (k3.cell0 (p := ⟨w.heap.size, 0, none⟩) (World.block_lt_of_cell? _ _ y0)).trans y0
  replace y1 := (k3.cell0 (p := ⟨w.heap.size, 1, none⟩) (World.block_lt_of_cell? _ _ y1)).trans y1
  replace y2 := (k3.cell0 (p := ⟨w.heap.size, 2, none⟩) (World.block_lt_of_cell? _ _ y2)).trans y2
  replace y3 := (k3.cell0 (p := ⟨w.heap.size, 3, none⟩) (World.block_lt_of_cell? _ _ y3)).trans y3
  have K3 := K2.tr0 k3
  clear K2 k3
  go_wp2_with fail
  refine (implExitText_any _ _ _ _ lp.1 lp.2 ln.1 ln.2 _ (HT.out.keep K3)).mono ?_
  rintro e w4 ⟨rfl, k4⟩
  replace y0 := (k4.cell0 (p := ⟨w.heap.size, 0, none⟩) (World.block_lt_of_cell? _ _ y0)).trans y0
  replace y1 := (k4.cell0 (p := ⟨w.heap.size, 1, none⟩) (World.block_lt_of_cell? _ _ y1)).trans y1
  replace y2 := (k4.cell0 (p := ⟨w.heap.size, 2, none⟩) (World.block_lt_of_cell? _ _ y2)).trans y2
  replace y3 := (k4.cell0 (p := ⟨w.heap.size, 3, none⟩) (World.block_lt_of_cell? _ _ y3)).trans y3
  have K4 := K3.tr0 k4
  clear K3 k4
  go_wp2
  go_ret
  exact ⟨rfl, K4.below⟩

theorem door_met (os : Os) (args : Array Value) : laidMetH Tryd.prog Rows.fnExactExitTextRow.laid ((World.doorLaid Tryd.prog 400 os).forCall (fun _ _ => 0) ⟨#[], args, []⟩).memory :=
  laidMetH_of_parts3 (fuel := 8) (laidMet_of_run' 8 (by kernel_rfl) (by kernel_rfl)) (by kernel_rfl) (by kernel_rfl)
set_option maxRecDepth 100000 in
theorem lifted (os : Os) (started : os.Started) (H : Type) (enc : TypeId × Value → H) :
    ReturnsInHanded {} Tryd.checked os 4 .any (fun w args => (Rows.fnExactExitTextSpec.pre enc Tryd.prog Tryd.f4 Rows.fnExactExitTextRow.domain false w args ∧ laidMetH Tryd.prog Rows.fnExactExitTextRow.laid w) ∧ sizedMet enc Tryd.prog Tryd.f4 (OpenSpec.ofChange Rows.fnExactExitTextSpec) false w args)
      (Rows.fnExactExitTextSpec.post enc Tryd.prog Tryd.f4 false true false false) := by
  refine returnsInHanded_of_change_and (C := Tryd.checked) (X := fun w _ => laidMetH Tryd.prog Rows.fnExactExitTextRow.laid w) (fun _ _ _ hh h => h.of_heap hh) own started (by kernel_rfl) Tryd.func4
    (ChangeSpec.witness_shaped (enc := enc) (C := Tryd.checked) (os := os) (X := fun w _ => laidMetH Tryd.prog Rows.fnExactExitTextRow.laid w) false (World.doorLaid Tryd.prog 400 os) #[.agg #[.int .i64 0, .int .i64 0, .bool false, .int .i64 0]] 8 rfl (World.shaped_of_RefB (by kernel_rfl) (by kernel_rfl)) (by kernel_rfl) (by kernel_rfl) (by kernel_rfl) (door_met os _)) ?_
  intro W base args ds gs before hval0 hW _ _ hL _
  have ht := table hL
  have hval : ∀ (j : Nat) t v, Tryd.f4.params[j]? = some t → args[j]? = some v → Value.okWide Tryd.prog W .any base t v := hval0
  have hW' := hW
  obtain ⟨p, q, hA0, hV, rfl, hfz, hnd⟩ := hW
  have hA : DataW.TrodAll enc Tryd.prog W 0 (fun _ => true) true Tryd.f4.params.toList args.toList ds p := hA0
  rw [Tryd.params4] at hA hval
  obtain ⟨v0, vs0, d0, ds0, p0, q0, hargs, rfl, rfl, h0, r0⟩ := trodAll_cons hA
  obtain ⟨rfl, rfl, rfl⟩ := trodAll_nil r0
  obtain rfl : args = #[v0] := by cases args; simp_all
  obtain ⟨rfl, rfl⟩ := trodVars_none hV
  have k0 := h0
  have lt0 : ∀ x ∈ p0, x.block < W.heap.size := by obtain ⟨m, hm⟩ := k0; exact DataW.trod_lt m _ _ _ hm
  obtain ⟨c00, c01, c02, c03, y00, y01, y02, y03, m0, rfl, _, _, g00, g01, g02, g03⟩ := Go.Joins.open_agg4 Tryd.underlying29 (by kernel_rfl) (show Tryd.prog.cellsOf 29 = 4 by kernel_rfl) (hval 0 29 v0 rfl rfl) h0
  obtain ⟨a00, e00, _, w00⟩ := DataW.trod_int Tryd.underlying3 g00
  simp at e00; subst e00
  obtain ⟨a01, e01, _, w01⟩ := DataW.trod_int Tryd.underlying3 g01
  simp at e01; subst e01
  obtain ⟨a02, e02, _⟩ := DataW.trod_bool Tryd.underlying4 g02
  simp at e02; subst e02
  obtain ⟨a03, e03, _, w03⟩ := DataW.trod_int Tryd.underlying3 g03
  simp at e03; subst e03
  clear hA0 hval0
  refine (walk a00 w00 a01 w01 a02 a03 w03 W ht).mono fun e W' ⟨he, bel⟩ => ?_
  subst he
  exact ⟨_, rfl, _, _, _, [], _, [], hW', trodAll_mk1 (shut_bool Tryd.underlying4 _), (trodAll_cons_mk (Below.trod laidOut (by kernel_rfl) (of_decide_eq_true (by kernel_rfl)) k0 bel lt0) trodAll_mk0), rfl, bel.frame _, fun h => by cases h⟩

theorem over : Rows.fnExactExitTextRow.holds Tryd.pinned (OpenSpec.ofChange Rows.fnExactExitTextSpec) :=
  OpenClaim.holds_of_wide 4 Tryd.f4 rfl rfl rfl rfl rfl rfl rfl ⟨rfl, rfl, rfl, rfl, rfl⟩ rfl rfl rfl rfl rfl (by kernel_rfl) Tryd.func4 (by kernel_rfl)
    (of_decide_eq_true (by kernel_rfl)) (by unfold Func.isWrapper; first | (rw [if_pos (by decide +kernel)]; kernel_rfl) | (rw [if_neg (by decide +kernel)]; exact ⟨rfl, rfl⟩))
    (fun os started H enc _ => lifted os started H enc)

theorem plain (f : FuncId) (fn : Func) (hf : Tryd.pinned.checked.prog.funcNamed "loop.example/g00975/laws.FnExactExitText" = some f) (hfn : Tryd.pinned.checked.prog.funcs[f]? = some fn) :
    false = Tryd.pinned.checked.prog.looks [] ∧ ∀ (j : Nat) t, fn.params[j]? = some t → Tryd.pinned.checked.prog.wantsStandIn t = false := by
  obtain rfl : f = 4 := Option.some.inj ((show Tryd.prog.funcNamed "loop.example/g00975/laws.FnExactExitText" = some 4 by kernel_rfl).symm.trans hf) |>.symm
  obtain rfl : fn = Tryd.f4 := (Option.some.inj (Tryd.func4.symm.trans hfn)).symm
  refine ⟨by kernel_rfl, fun j t ht => ?_⟩
  rw [Tryd.params4] at ht
  have hall : ([29].all fun u => !Tryd.prog.wantsStandIn u) = true := by kernel_rfl
  have hm : t ∈ [29] := by simpa using Array.mem_of_getElem? ht
  exact (show Tryd.prog.wantsStandIn t = false by simpa using List.all_eq_true.1 hall t hm)
/-- The given statement: the card. -/
theorem proved : Rows.FnExactExitTextCardSaid :=
  Claim7.holds_tied_plain_at .later [] _ _ _ _ over (fun _ h => by cases h) (by kernel_rfl) (fun _ h => by cases h) fnExactExitText_row_tie rfl ⟨rfl, rfl⟩ (by kernel_rfl) rfl plain (by kernel_rfl)

end Go.Proofs.YtignedkhklfonaaDoor.fnExactExitText
