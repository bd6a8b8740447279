/-
  For every two integers the program's OwnersOf returns what the reference's returns, in memory of its own. No condition.
-/
import Derived.Test.YtifjnehfjcdojaaRows
import Derived.WalkKit
import Derived.ProofKit
import Derived.OpenShut
import Derived.ShutString
import Derived.ChangeOld
import Derived.Below
import Derived.Lib.SmallJoins
import Derived.WalkSpells
import Derived.Test.YtifjnehfjcdojaaTraps
import Derived.Test.YtifjnehfjcdojaaInts
import Derived.Handy
namespace Go.Proofs.Ytifjnehfjcdojaa.fnExactOwnersOf
open Go.ChangeShapes Go.WideShapes Go.ChangeAt Go.RowKit
set_option linter.unusedVariables false

theorem own : ownKnob Try.prog.godebug = none := by kernel_rfl
theorem laidOut : laidOutB Try.prog = true := by kernel_rfl

set_option maxHeartbeats 4000000 in
theorem walk (a : Int) (wa : (Lit.int .i64 a).wf = true) (b : Int) (wb : (Lit.int .i64 b).wf = true) (w : World) :
    Calls Try.prog 13 #[.int .i64 a, .int .i64 b] w fun e w' => e = .returned (.bool true) ∧ Below w.heap.size w w' := by
  clear wa wb
  have hr1 : ([ownerT a b 1, ownerT a b 2]).length ≤ 4 := by simp
  obtain ⟨R, hR⟩ : ∃ R, R = [ownerT a b 1, ownerT a b 2] := ⟨_, rfl⟩
  rw [← hR] at hr1
  obtain ⟨NG, hNG⟩ : ∃ N, (ints R).length = N := ⟨_, rfl⟩
  have hg9 : NG ≤ 4 := by rw [← hNG, ints_length]; omega
  have HR := Lib.hid hR
  have HG := Lib.hid hNG
  clear hR hNG hr1
  have K0 := Keep.refl 0 0 w
  go_enter Try.func13, Try.ntmps13
  go_wp2_with fail
  refine (specOwnersOf_any a b _).mono ?_
  rintro e W1 ⟨v0, rfl, r0, k1⟩
  have s1 := k1.size
  have K1 := K0.tr0 k1
  clear K0 k1
  rw [← HR.out] at r0
  go_wp2_with fail
  refine (implOwnersOf_any a b _).mono ?_
  rintro e W2 ⟨vg, rfl, rg, k2⟩
  have s2 := k2.size
  have K2 := K1.tr0 k2
  replace r0 := r0.keep k2 (.inr (.inr (Nat.le_refl 0)))
  clear K1 k2
  rw [← HR.out] at rg
  go_wp2_with fail
  refine (eqIntS_any _ _ _ _ _ _ _ rg.rd r0.rd).mono ?_
  rintro e W3 ⟨rfl, d3⟩
  have k3 := d3.keep 0 0
  have s3 := k3.size
  have K3 := K2.tr0 k3
  replace r0 := r0.keep k3 (.inr (.inr (Nat.le_refl 0)))
  replace rg := rg.keep k3 (.inr (.inr (Nat.le_refl 0)))
  clear K2 k3 d3
  simp only [decide_true]
  go_wp2_with fail
  refine (markIntS_any _ _ _ _ _ NG HG.out 1 rg (by omega) (by omega)).mono ?_
  rintro e W4 ⟨rfl, rh, k4⟩
  have s4 := k4.size
  have K4 := K3.trm k4 (by omega)
  replace r0 := r0.keep k4 (by omega)
  clear K3 k4
  clear rg
  go_wp2_with fail
  refine (heldIntS_any _ _ _ NG 1 rh.rd (by omega) (by omega)).mono ?_
  rintro e W5 ⟨rfl, d5⟩
  have k5 := d5.keep 0 0
  have s5 := k5.size
  have K5 := K4.tr0 k5
  replace r0 := r0.keep k5 (.inr (.inr (Nat.le_refl 0)))
  replace rh := rh.keep k5 (.inr (.inr (Nat.le_refl 0)))
  clear K4 k5 d5
  go_wp2_with fail
  refine (implOwnersOf_any a b _).mono ?_
  rintro e W6 ⟨vh, rfl, rk, k6⟩
  have s6 := k6.size
  have K6 := K5.tr0 k6
  replace r0 := r0.keep k6 (.inr (.inr (Nat.le_refl 0)))
  replace rh := rh.keep k6 (.inr (.inr (Nat.le_refl 0)))
  clear K5 k6
  rw [← HR.out] at rk
  go_wp2_with fail
  refine (eqIntS_any _ _ _ _ _ _ _ rk.rd r0.rd).mono ?_
  rintro e W7 ⟨rfl, d7⟩
  have k7 := d7.keep 0 0
  have s7 := k7.size
  have K7 := K6.tr0 k7
  replace r0 := r0.keep k7 (.inr (.inr (Nat.le_refl 0)))
  replace rh := rh.keep k7 (.inr (.inr (Nat.le_refl 0)))
  replace rk := rk.keep k7 (.inr (.inr (Nat.le_refl 0)))
  clear K6 k7 d7
  simp only [decide_true]
  go_wp2_with fail
  refine (heldIntS_any _ _ _ NG 1 rh.rd (by omega) (by omega)).mono ?_
  rintro e W8 ⟨rfl, d8⟩
  have k8 := d8.keep 0 0
  have s8 := k8.size
  have K8 := K7.tr0 k8
  replace r0 := r0.keep k8 (.inr (.inr (Nat.le_refl 0)))
  replace rh := rh.keep k8 (.inr (.inr (Nat.le_refl 0)))
  replace rk := rk.keep k8 (.inr (.inr (Nat.le_refl 0)))
  clear K7 k8 d8
  go_wp2
  go_ret
  exact ⟨rfl, K8.below⟩

set_option maxRecDepth 100000 in
theorem lifted (os : Os) (started : os.Started) (H : Type) (enc : TypeId × Value → H) :
    ReturnsInHanded {} Try.checked os 13 .any (Rows.fnExactOwnersOfSpec.pre6 enc Try.prog Try.f13 Rows.fnExactOwnersOfRow.domain false) (Rows.fnExactOwnersOfSpec.post enc Try.prog Try.f13 false true false false) := by
  refine returnsInHanded_of_change (C := Try.checked) own started (by kernel_rfl) Try.func13
    (ChangeSpec.witness6 (enc := enc) (C := Try.checked) false ⟨#[], #[.int .i64 0, .int .i64 0], []⟩ 8 (by kernel_rfl) (by kernel_rfl) (by kernel_rfl) (by kernel_rfl)) ?_
  intro W base args ds gs before hval0 hW hcnd _
  have hval : ∀ (j : Nat) t v, Try.f13.params[j]? = some t → args[j]? = some v → Value.okWide Try.prog W .any base t v := hval0
  have hW' := hW
  obtain ⟨p, q, hA0, hV, rfl, hfz, hnd⟩ := hW
  have hA : DataW.TrodAll enc Try.prog W 0 (fun _ => true) true Try.f13.params.toList args.toList ds p := hA0
  rw [Try.params13] at hA hval
  obtain ⟨v0, vs0, d0, ds0, p0, q0, hargs, rfl, rfl, h0, r0⟩ := trodAll_cons hA
  obtain ⟨v1, vs1, d1, ds1, p1, q1, rfl, rfl, rfl, h1, r1⟩ := trodAll_cons r0
  obtain ⟨rfl, rfl, rfl⟩ := trodAll_nil r1
  obtain rfl : args = #[v0, v1] := by cases args; simp_all
  obtain ⟨rfl, rfl⟩ := trodVars_none hV
  have k0 := h0
  have lt0 : ∀ x ∈ p0, x.block < W.heap.size := by obtain ⟨m, hm⟩ := k0; exact DataW.trod_lt m _ _ _ hm
  obtain ⟨a0, rfl, _, _, w0⟩ := open_int Try.underlying3 (hval 0 3 v0 rfl rfl) h0
  have k1 := h1
  have lt1 : ∀ x ∈ p1, x.block < W.heap.size := by obtain ⟨m, hm⟩ := k1; exact DataW.trod_lt m _ _ _ hm
  obtain ⟨a1, rfl, _, _, w1⟩ := open_int Try.underlying3 (hval 1 3 v1 rfl rfl) h1
  clear hA0 hval0
  refine (walk a0 w0 a1 w1 W).mono fun e W' ⟨he, bel⟩ => ?_
  subst he
  exact ⟨_, rfl, _, _, _, [], _, [], hW', trodAll_mk1 (shut_bool Try.underlying4 _), (trodAll_cons_mk (Below.trod laidOut (by kernel_rfl) (of_decide_eq_true (by kernel_rfl)) k0 bel lt0) (trodAll_cons_mk (Below.trod laidOut (by kernel_rfl) (of_decide_eq_true (by kernel_rfl)) k1 bel lt1) trodAll_mk0)), rfl, bel.frame _, fun h => by cases h⟩

theorem over : Rows.fnExactOwnersOfRow.holds Try.pinned (OpenSpec.ofChange Rows.fnExactOwnersOfSpec) :=
  OpenClaim.holds_of_wide 13 Try.f13 rfl rfl rfl rfl rfl rfl rfl ⟨rfl, rfl, rfl, rfl, rfl⟩ rfl rfl rfl rfl rfl (by kernel_rfl) Try.func13 (by kernel_rfl)
    (of_decide_eq_true (by kernel_rfl)) (by unfold Func.isWrapper; first | (rw [if_pos (by decide +kernel)]; kernel_rfl) | (rw [if_neg (by decide +kernel)]; exact ⟨rfl, rfl⟩))
    (fun os started H enc _ => lifted os started H enc)

/-- The given statement. -/
theorem proved : Rows.FnExactOwnersOfSaid := over
end Go.Proofs.Ytifjnehfjcdojaa.fnExactOwnersOf
