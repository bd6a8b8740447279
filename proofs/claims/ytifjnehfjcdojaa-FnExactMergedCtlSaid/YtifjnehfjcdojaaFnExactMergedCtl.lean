/-
  For every integer and control block the program's MergedCtl returns what the reference's returns, in memory of its own. No condition.
-/
import Derived.Test.YtifjnehfjcdojaaRows
import Derived.WalkKit
import Derived.ProofKit
import Derived.OpenShut
import Derived.ShutString
import Derived.ChangeOld
import Derived.Below
import Derived.Lib.SmallJoins
import Derived.WalkSpells
import Derived.Test.YtifjnehfjcdojaaExit
import Derived.Test.YtifjnehfjcdojaaConv
import Derived.Handy
import Derived.Deep.RegionHeld3
namespace Go.Proofs.Ytifjnehfjcdojaa.fnExactMergedCtl
open Go.ChangeShapes Go.WideShapes Go.ChangeAt Go.RowKit
set_option linter.unusedVariables false

theorem own : ownKnob Try.prog.godebug = none := by kernel_rfl
theorem laidOut : laidOutB Try.prog = true := by kernel_rfl

set_option maxHeartbeats 4000000 in
theorem walk (u : Int) (wu : (Lit.int .i64 u).wf = true) (a : Int) (wa : (Lit.int .i64 a).wf = true) (b : Int) (wb : (Lit.int .i64 b).wf = true) (o : Bool) (w : World) :
    Calls Try.prog 8 #[.int .i64 u, .agg #[.int .i64 a, .int .i64 b, .bool o]] w fun e w' => e = .returned (.bool true) ∧ Below w.heap.size w w' := by
  clear wu wa wb
  have KK := (Keep.refl 0 0 w).alloc (.cells #[.int .i64 a, .int .i64 b, .bool o] 30)
  go_enter Try.func8, Try.ntmps8
  go_wp2_with fail
  refine (toCtl_any a b o _).mono ?_
  rintro e W1 ⟨rfl, k1⟩
  go_wp2_with fail
  refine (specMergedCtl_any u a b o _).mono ?_
  rintro e W2 ⟨rfl, k2⟩
  have K2 := k1.tr0 k2
  have z2 := K2.size
  simp at z2
  have c0 : ∀ X, (W2.alloc X).cell? ⟨w.heap.size, 0, none⟩ = some (.int .i64 a) := fun X => (World.cell?_alloc_lt W2 X ⟨w.heap.size, 0, none⟩ (by exact z2)).trans ((K2.cell0 (p := ⟨w.heap.size, 0, none⟩) (by simp)).trans (by go_cell))
  have c1 : ∀ X, (W2.alloc X).cell? ⟨w.heap.size, 1, none⟩ = some (.int .i64 b) := fun X => (World.cell?_alloc_lt W2 X ⟨w.heap.size, 1, none⟩ (by exact z2)).trans ((K2.cell0 (p := ⟨w.heap.size, 1, none⟩) (by simp)).trans (by go_cell))
  have c2 : ∀ X, (W2.alloc X).cell? ⟨w.heap.size, 2, none⟩ = some (.bool o) := fun X => (World.cell?_alloc_lt W2 X ⟨w.heap.size, 2, none⟩ (by exact z2)).trans ((K2.cell0 (p := ⟨w.heap.size, 2, none⟩) (by simp)).trans (by go_cell))
  clear k1 k2
  go_wp2_with fail
  refine (toCtl_any a b o _).mono ?_
  rintro e W3 ⟨rfl, k3⟩
  go_wp2_with fail
  refine (implMergedCtl_any u a b o _).mono ?_
  rintro e W4 ⟨rfl, k4⟩
  have L4 := k3.tr0 k4
  have z4 := L4.size
  simp at z4
  have d0 : ∀ X, (W4.alloc X).cell? ⟨W2.heap.size, 0, none⟩ = some (.int .i64 (mergeT u a)) := fun X => (World.cell?_alloc_lt W4 X ⟨W2.heap.size, 0, none⟩ (by exact z4)).trans ((L4.cell0 (p := ⟨W2.heap.size, 0, none⟩) (by simp)).trans (by go_cell))
  have d1 : ∀ X, (W4.alloc X).cell? ⟨W2.heap.size, 1, none⟩ = some (.int .i64 b) := fun X => (World.cell?_alloc_lt W4 X ⟨W2.heap.size, 1, none⟩ (by exact z4)).trans ((L4.cell0 (p := ⟨W2.heap.size, 1, none⟩) (by simp)).trans (by go_cell))
  have d2 : ∀ X, (W4.alloc X).cell? ⟨W2.heap.size, 2, none⟩ = some (.bool o) := fun X => (World.cell?_alloc_lt W4 X ⟨W2.heap.size, 2, none⟩ (by exact z4)).trans ((L4.cell0 (p := ⟨W2.heap.size, 2, none⟩) (by simp)).trans (by go_cell))
  have K4 := ((KK.tr0 K2).alloc _).tr0 L4
  clear k3 k4 L4 K2 KK c0 c1 c2
  go_wp2_with fail
  refine (eqCtl_same _ _ _ _).mono ?_
  rintro e W5 ⟨rfl, k5⟩
  go_wp2
  go_ret
  exact ⟨rfl, ((K4.alloc _).tr0 k5).below⟩

set_option maxRecDepth 100000 in
theorem lifted (os : Os) (started : os.Started) (H : Type) (enc : TypeId × Value → H) :
    ReturnsInHanded {} Try.checked os 8 .any (Rows.fnExactMergedCtlSpec.pre6 enc Try.prog Try.f8 Rows.fnExactMergedCtlRow.domain false) (Rows.fnExactMergedCtlSpec.post enc Try.prog Try.f8 false true false false) := by
  refine returnsInHanded_of_change (C := Try.checked) own started (by kernel_rfl) Try.func8
    (ChangeSpec.witness6 (enc := enc) (C := Try.checked) false ⟨#[], #[.int .i64 0, .agg #[.int .i64 0, .int .i64 0, .bool false]], []⟩ 8 (by kernel_rfl) (by kernel_rfl) (by kernel_rfl) (by kernel_rfl)) ?_
  intro W base args ds gs before hval0 hW hcnd _
  have hval : ∀ (j : Nat) t v, Try.f8.params[j]? = some t → args[j]? = some v → Value.okWide Try.prog W .any base t v := hval0
  have hW' := hW
  obtain ⟨p, q, hA0, hV, rfl, hfz, hnd⟩ := hW
  have hA : DataW.TrodAll enc Try.prog W 0 (fun _ => true) true Try.f8.params.toList args.toList ds p := hA0
  rw [Try.params8] at hA hval
  obtain ⟨v0, vs0, d0, ds0, p0, q0, hargs, rfl, rfl, h0, r0⟩ := trodAll_cons hA
  obtain ⟨v1, vs1, d1, ds1, p1, q1, rfl, rfl, rfl, h1, r1⟩ := trodAll_cons r0
  obtain ⟨rfl, rfl, rfl⟩ := trodAll_nil r1
  obtain rfl : args = #[v0, v1] := by cases args; simp_all
  obtain ⟨rfl, rfl⟩ := trodVars_none hV
  have k0 := h0
  have lt0 : ∀ x ∈ p0, x.block < W.heap.size := by obtain ⟨m, hm⟩ := k0; exact DataW.trod_lt m _ _ _ hm
  obtain ⟨a0, rfl, _, _, w0⟩ := open_int Try.underlying3 (hval 0 3 v0 rfl rfl) h0
  have k1 := h1
  have lt1 : ∀ x ∈ p1, x.block < W.heap.size := by obtain ⟨m, hm⟩ := k1; exact DataW.trod_lt m _ _ _ hm
  obtain ⟨c10, c11, c12, y10, y11, y12, m1, rfl, _, _, g10, g11, g12⟩ := Go.Joins.open_agg3 Try.underlying30 (by kernel_rfl) (show Try.prog.cellsOf 30 = 3 by kernel_rfl) (hval 1 30 v1 rfl rfl) h1
  obtain ⟨a10, e10, _, w10⟩ := DataW.trod_int Try.underlying3 g10
  simp at e10; subst e10
  obtain ⟨a11, e11, _, w11⟩ := DataW.trod_int Try.underlying3 g11
  simp at e11; subst e11
  obtain ⟨a12, e12, _⟩ := DataW.trod_bool Try.underlying4 g12
  simp at e12; subst e12
  clear hA0 hval0
  refine (walk a0 w0 a10 w10 a11 w11 a12 W).mono fun e W' ⟨he, bel⟩ => ?_
  subst he
  exact ⟨_, rfl, _, _, _, [], _, [], hW', trodAll_mk1 (shut_bool Try.underlying4 _), (trodAll_cons_mk (Below.trod laidOut (by kernel_rfl) (of_decide_eq_true (by kernel_rfl)) k0 bel lt0) (trodAll_cons_mk (Below.trod laidOut (by kernel_rfl) (of_decide_eq_true (by kernel_rfl)) k1 bel lt1) trodAll_mk0)), rfl, bel.frame _, fun h => by cases h⟩

theorem over : Rows.fnExactMergedCtlRow.holds Try.pinned (OpenSpec.ofChange Rows.fnExactMergedCtlSpec) :=
  OpenClaim.holds_of_wide 8 Try.f8 rfl rfl rfl rfl rfl rfl rfl ⟨rfl, rfl, rfl, rfl, rfl⟩ rfl rfl rfl rfl rfl (by kernel_rfl) Try.func8 (by kernel_rfl)
    (of_decide_eq_true (by kernel_rfl)) (by unfold Func.isWrapper; first | (rw [if_pos (by decide +kernel)]; kernel_rfl) | (rw [if_neg (by decide +kernel)]; exact ⟨rfl, rfl⟩))
    (fun os started H enc _ => lifted os started H enc)

/-- The given statement. -/
theorem proved : Rows.FnExactMergedCtlSaid := over
end Go.Proofs.Ytifjnehfjcdojaa.fnExactMergedCtl
