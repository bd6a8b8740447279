/-
  For every control block the program's CtlFaults returns what the reference's returns, in memory of its own. No condition.
-/
import Derived.Test.YtifjnehfjcdojaaRows
import Derived.WalkKit
import Derived.ProofKit
import Derived.OpenShut
import Derived.ShutString
import Derived.ChangeOld
import Derived.Below
import Derived.Lib.SmallJoins
import Derived.WalkSpells
import Derived.Test.YtifjnehfjcdojaaTraps
import Derived.Test.YtifjnehfjcdojaaInts
import Derived.Test.YtifjnehfjcdojaaConv
import Derived.Handy
namespace Go.Proofs.Ytifjnehfjcdojaa.fnExactCtlFaults
open Go.ChangeShapes Go.WideShapes Go.ChangeAt Go.RowKit
set_option linter.unusedVariables false

theorem own : ownKnob Try.prog.godebug = none := by kernel_rfl
theorem laidOut : laidOutB Try.prog = true := by kernel_rfl

set_option maxHeartbeats 4000000 in
theorem walk (a : Int) (wa : (Lit.int .i64 a).wf = true) (b : Int) (wb : (Lit.int .i64 b).wf = true) (o : Bool) (w : World) :
    Calls Try.prog 14 #[.agg #[.int .i64 a, .int .i64 b, .bool o]] w fun e w' => e = .returned (.bool true) ∧ Below w.heap.size w w' := by
  clear wa wb
  have hr1 : (faultsT a b o).length ≤ 4 := by unfold faultsT; simp only [List.length_append]; split <;> split <;> split <;> split <;> simp
  obtain ⟨R, hR⟩ : ∃ R, R = faultsT a b o := ⟨_, rfl⟩
  rw [← hR] at hr1
  obtain ⟨NG, hNG⟩ : ∃ N, (ints R).length = N := ⟨_, rfl⟩
  have hg9 : NG ≤ 4 := by rw [← hNG, ints_length]; omega
  have HR := Lib.hid hR
  have HG := Lib.hid hNG
  clear hR hNG hr1
  have bx0 : w.heap.size < (w.alloc (.cells #[.int .i64 a, .int .i64 b, .bool o] 30)).heap.size := by simp
  have bc00 : (w.alloc (.cells #[.int .i64 a, .int .i64 b, .bool o] 30)).cell? ⟨w.heap.size, 0, none⟩ = some (.int .i64 a) := by go_cell
  have bc01 : (w.alloc (.cells #[.int .i64 a, .int .i64 b, .bool o] 30)).cell? ⟨w.heap.size, 1, none⟩ = some (.int .i64 b) := by go_cell
  have bc02 : (w.alloc (.cells #[.int .i64 a, .int .i64 b, .bool o] 30)).cell? ⟨w.heap.size, 2, none⟩ = some (.bool o) := by go_cell
  have KK := (Keep.refl 0 0 w).alloc (.cells #[.int .i64 a, .int .i64 b, .bool o] 30)
  have c00_0 := bc00
  have c01_0 := bc01
  have c02_0 := bc02
  have BC00 := Lib.hid bc00
  have BC01 := Lib.hid bc01
  have BC02 := Lib.hid bc02
  have K0 := Keep.refl 0 0 (w.alloc (.cells #[.int .i64 a, .int .i64 b, .bool o] 30))
  go_enter Try.func14, Try.ntmps14
  go_wp2_with fail
  refine (toCtl_any a b o _).mono ?_
  rintro e W1 ⟨rfl, k1⟩
  have s1 := k1.size
  have K1 := K0.tr0 k1
  have c00_1 : W1.cell? ⟨w.heap.size, 0, none⟩ = some (.int .i64 a) := (K1.cell0 (p := ⟨w.heap.size, 0, none⟩) (by exact bx0)).trans bc00
  have c01_1 : W1.cell? ⟨w.heap.size, 1, none⟩ = some (.int .i64 b) := (K1.cell0 (p := ⟨w.heap.size, 1, none⟩) (by exact bx0)).trans bc01
  have c02_1 : W1.cell? ⟨w.heap.size, 2, none⟩ = some (.bool o) := (K1.cell0 (p := ⟨w.heap.size, 2, none⟩) (by exact bx0)).trans bc02
  clear K0 k1 c00_0 c01_0 c02_0
  go_wp2_with fail
  refine (specCtlFaults_any a b o _).mono ?_
  rintro e W2 ⟨v0, rfl, r0, k2⟩
  have s2 := k2.size
  have K2 := K1.tr0 k2
  have c00_2 : W2.cell? ⟨w.heap.size, 0, none⟩ = some (.int .i64 a) := (K2.cell0 (p := ⟨w.heap.size, 0, none⟩) (by exact bx0)).trans bc00
  have c01_2 : W2.cell? ⟨w.heap.size, 1, none⟩ = some (.int .i64 b) := (K2.cell0 (p := ⟨w.heap.size, 1, none⟩) (by exact bx0)).trans bc01
  have c02_2 : W2.cell? ⟨w.heap.size, 2, none⟩ = some (.bool o) := (K2.cell0 (p := ⟨w.heap.size, 2, none⟩) (by exact bx0)).trans bc02
  clear K1 k2 c00_1 c01_1 c02_1
  rw [← HR.out] at r0
  go_wp2_with fail
  refine (toCtl_any a b o _).mono ?_
  rintro e W3 ⟨rfl, k3⟩
  have s3 := k3.size
  have K3 := K2.tr0 k3
  replace r0 := r0.keep k3 (.inr (.inr (Nat.le_refl 0)))
  have c00_3 : W3.cell? ⟨w.heap.size, 0, none⟩ = some (.int .i64 a) := (K3.cell0 (p := ⟨w.heap.size, 0, none⟩) (by exact bx0)).trans bc00
  have c01_3 : W3.cell? ⟨w.heap.size, 1, none⟩ = some (.int .i64 b) := (K3.cell0 (p := ⟨w.heap.size, 1, none⟩) (by exact bx0)).trans bc01
  have c02_3 : W3.cell? ⟨w.heap.size, 2, none⟩ = some (.bool o) := (K3.cell0 (p := ⟨w.heap.size, 2, none⟩) (by exact bx0)).trans bc02
  clear K2 k3 c00_2 c01_2 c02_2
  go_wp2_with fail
  refine (implCtlFaults_any a b o _).mono ?_
  rintro e W4 ⟨vg, rfl, rg, k4⟩
  have s4 := k4.size
  have K4 := K3.tr0 k4
  replace r0 := r0.keep k4 (.inr (.inr (Nat.le_refl 0)))
  have c00_4 : W4.cell? ⟨w.heap.size, 0, none⟩ = some (.int .i64 a) := (K4.cell0 (p := ⟨w.heap.size, 0, none⟩) (by exact bx0)).trans bc00
  have c01_4 : W4.cell? ⟨w.heap.size, 1, none⟩ = some (.int .i64 b) := (K4.cell0 (p := ⟨w.heap.size, 1, none⟩) (by exact bx0)).trans bc01
  have c02_4 : W4.cell? ⟨w.heap.size, 2, none⟩ = some (.bool o) := (K4.cell0 (p := ⟨w.heap.size, 2, none⟩) (by exact bx0)).trans bc02
  clear K3 k4 c00_3 c01_3 c02_3
  rw [← HR.out] at rg
  go_wp2_with fail
  refine (eqIntS_any _ _ _ _ _ _ _ rg.rd r0.rd).mono ?_
  rintro e W5 ⟨rfl, d5⟩
  have k5 := d5.keep 0 0
  have s5 := k5.size
  have K5 := K4.tr0 k5
  replace r0 := r0.keep k5 (.inr (.inr (Nat.le_refl 0)))
  replace rg := rg.keep k5 (.inr (.inr (Nat.le_refl 0)))
  have c00_5 : W5.cell? ⟨w.heap.size, 0, none⟩ = some (.int .i64 a) := (K5.cell0 (p := ⟨w.heap.size, 0, none⟩) (by exact bx0)).trans bc00
  have c01_5 : W5.cell? ⟨w.heap.size, 1, none⟩ = some (.int .i64 b) := (K5.cell0 (p := ⟨w.heap.size, 1, none⟩) (by exact bx0)).trans bc01
  have c02_5 : W5.cell? ⟨w.heap.size, 2, none⟩ = some (.bool o) := (K5.cell0 (p := ⟨w.heap.size, 2, none⟩) (by exact bx0)).trans bc02
  clear K4 k5 d5 c00_4 c01_4 c02_4
  simp only [decide_true]
  go_wp2_with fail
  refine (markIntS_any _ _ _ _ _ NG HG.out 1 rg (by omega) (by omega)).mono ?_
  rintro e W6 ⟨rfl, rh, k6⟩
  have s6 := k6.size
  have K6 := K5.trm k6 (by omega)
  replace r0 := r0.keep k6 (by omega)
  have c00_6 : W6.cell? ⟨w.heap.size, 0, none⟩ = some (.int .i64 a) := (K6.cell0 (p := ⟨w.heap.size, 0, none⟩) (by exact bx0)).trans bc00
  have c01_6 : W6.cell? ⟨w.heap.size, 1, none⟩ = some (.int .i64 b) := (K6.cell0 (p := ⟨w.heap.size, 1, none⟩) (by exact bx0)).trans bc01
  have c02_6 : W6.cell? ⟨w.heap.size, 2, none⟩ = some (.bool o) := (K6.cell0 (p := ⟨w.heap.size, 2, none⟩) (by exact bx0)).trans bc02
  clear K5 k6 c00_5 c01_5 c02_5
  clear rg
  go_wp2_with fail
  refine (heldIntS_any _ _ _ NG 1 rh.rd (by omega) (by omega)).mono ?_
  rintro e W7 ⟨rfl, d7⟩
  have k7 := d7.keep 0 0
  have s7 := k7.size
  have K7 := K6.tr0 k7
  replace r0 := r0.keep k7 (.inr (.inr (Nat.le_refl 0)))
  replace rh := rh.keep k7 (.inr (.inr (Nat.le_refl 0)))
  have c00_7 : W7.cell? ⟨w.heap.size, 0, none⟩ = some (.int .i64 a) := (K7.cell0 (p := ⟨w.heap.size, 0, none⟩) (by exact bx0)).trans bc00
  have c01_7 : W7.cell? ⟨w.heap.size, 1, none⟩ = some (.int .i64 b) := (K7.cell0 (p := ⟨w.heap.size, 1, none⟩) (by exact bx0)).trans bc01
  have c02_7 : W7.cell? ⟨w.heap.size, 2, none⟩ = some (.bool o) := (K7.cell0 (p := ⟨w.heap.size, 2, none⟩) (by exact bx0)).trans bc02
  clear K6 k7 d7 c00_6 c01_6 c02_6
  go_wp2_with fail
  refine (toCtl_any a b o _).mono ?_
  rintro e W8 ⟨rfl, k8⟩
  have s8 := k8.size
  have K8 := K7.tr0 k8
  replace r0 := r0.keep k8 (.inr (.inr (Nat.le_refl 0)))
  replace rh := rh.keep k8 (.inr (.inr (Nat.le_refl 0)))
  have c00_8 : W8.cell? ⟨w.heap.size, 0, none⟩ = some (.int .i64 a) := (K8.cell0 (p := ⟨w.heap.size, 0, none⟩) (by exact bx0)).trans bc00
  have c01_8 : W8.cell? ⟨w.heap.size, 1, none⟩ = some (.int .i64 b) := (K8.cell0 (p := ⟨w.heap.size, 1, none⟩) (by exact bx0)).trans bc01
  have c02_8 : W8.cell? ⟨w.heap.size, 2, none⟩ = some (.bool o) := (K8.cell0 (p := ⟨w.heap.size, 2, none⟩) (by exact bx0)).trans bc02
  clear K7 k8 c00_7 c01_7 c02_7
  go_wp2_with fail
  refine (implCtlFaults_any a b o _).mono ?_
  rintro e W9 ⟨vh, rfl, rk, k9⟩
  have s9 := k9.size
  have K9 := K8.tr0 k9
  replace r0 := r0.keep k9 (.inr (.inr (Nat.le_refl 0)))
  replace rh := rh.keep k9 (.inr (.inr (Nat.le_refl 0)))
  have c00_9 : W9.cell? ⟨w.heap.size, 0, none⟩ = some (.int .i64 a) := (K9.cell0 (p := ⟨w.heap.size, 0, none⟩) (by exact bx0)).trans bc00
  have c01_9 : W9.cell? ⟨w.heap.size, 1, none⟩ = some (.int .i64 b) := (K9.cell0 (p := ⟨w.heap.size, 1, none⟩) (by exact bx0)).trans bc01
  have c02_9 : W9.cell? ⟨w.heap.size, 2, none⟩ = some (.bool o) := (K9.cell0 (p := ⟨w.heap.size, 2, none⟩) (by exact bx0)).trans bc02
  clear K8 k9 c00_8 c01_8 c02_8
  rw [← HR.out] at rk
  go_wp2_with fail
  refine (eqIntS_any _ _ _ _ _ _ _ rk.rd r0.rd).mono ?_
  rintro e W10 ⟨rfl, d10⟩
  have k10 := d10.keep 0 0
  have s10 := k10.size
  have K10 := K9.tr0 k10
  replace r0 := r0.keep k10 (.inr (.inr (Nat.le_refl 0)))
  replace rh := rh.keep k10 (.inr (.inr (Nat.le_refl 0)))
  replace rk := rk.keep k10 (.inr (.inr (Nat.le_refl 0)))
  have c00_10 : W10.cell? ⟨w.heap.size, 0, none⟩ = some (.int .i64 a) := (K10.cell0 (p := ⟨w.heap.size, 0, none⟩) (by exact bx0)).trans bc00
  have c01_10 : W10.cell? ⟨w.heap.size, 1, none⟩ = some (.int .i64 b) := (K10.cell0 (p := ⟨w.heap.size, 1, none⟩) (by exact bx0)).trans bc01
  have c02_10 : W10.cell? ⟨w.heap.size, 2, none⟩ = some (.bool o) := (K10.cell0 (p := ⟨w.heap.size, 2, none⟩) (by exact bx0)).trans bc02
  clear K9 k10 d10 c00_9 c01_9 c02_9
  simp only [decide_true]
  go_wp2_with fail
  refine (heldIntS_any _ _ _ NG 1 rh.rd (by omega) (by omega)).mono ?_
  rintro e W11 ⟨rfl, d11⟩
  have k11 := d11.keep 0 0
  have s11 := k11.size
  have K11 := K10.tr0 k11
  replace r0 := r0.keep k11 (.inr (.inr (Nat.le_refl 0)))
  replace rh := rh.keep k11 (.inr (.inr (Nat.le_refl 0)))
  replace rk := rk.keep k11 (.inr (.inr (Nat.le_refl 0)))
  have c00_11 : W11.cell? ⟨w.heap.size, 0, none⟩ = some (.int .i64 a) := (K11.cell0 (p := ⟨w.heap.size, 0, none⟩) (by exact bx0)).trans bc00
  have c01_11 : W11.cell? ⟨w.heap.size, 1, none⟩ = some (.int .i64 b) := (K11.cell0 (p := ⟨w.heap.size, 1, none⟩) (by exact bx0)).trans bc01
  have c02_11 : W11.cell? ⟨w.heap.size, 2, none⟩ = some (.bool o) := (K11.cell0 (p := ⟨w.heap.size, 2, none⟩) (by exact bx0)).trans bc02
  clear K10 k11 d11 c00_10 c01_10 c02_10
  go_wp2
  go_ret
  exact ⟨rfl, (KK.tr0 K11).below⟩

set_option maxRecDepth 100000 in
theorem lifted (os : Os) (started : os.Started) (H : Type) (enc : TypeId × Value → H) :
    ReturnsInHanded {} Try.checked os 14 .any (Rows.fnExactCtlFaultsSpec.pre6 enc Try.prog Try.f14 Rows.fnExactCtlFaultsRow.domain false) (Rows.fnExactCtlFaultsSpec.post enc Try.prog Try.f14 false true false false) := by
  refine returnsInHanded_of_change (C := Try.checked) own started (by kernel_rfl) Try.func14
    (ChangeSpec.witness6 (enc := enc) (C := Try.checked) false ⟨#[], #[.agg #[.int .i64 0, .int .i64 0, .bool false]], []⟩ 8 (by kernel_rfl) (by kernel_rfl) (by kernel_rfl) (by kernel_rfl)) ?_
  intro W base args ds gs before hval0 hW hcnd _
  have hval : ∀ (j : Nat) t v, Try.f14.params[j]? = some t → args[j]? = some v → Value.okWide Try.prog W .any base t v := hval0
  have hW' := hW
  obtain ⟨p, q, hA0, hV, rfl, hfz, hnd⟩ := hW
  have hA : DataW.TrodAll enc Try.prog W 0 (fun _ => true) true Try.f14.params.toList args.toList ds p := hA0
  rw [Try.params14] at hA hval
  obtain ⟨v0, vs0, d0, ds0, p0, q0, hargs, rfl, rfl, h0, r0⟩ := trodAll_cons hA
  obtain ⟨rfl, rfl, rfl⟩ := trodAll_nil r0
  obtain rfl : args = #[v0] := by cases args; simp_all
  obtain ⟨rfl, rfl⟩ := trodVars_none hV
  have k0 := h0
  have lt0 : ∀ x ∈ p0, x.block < W.heap.size := by obtain ⟨m, hm⟩ := k0; exact DataW.trod_lt m _ _ _ hm
  obtain ⟨c00, c01, c02, y00, y01, y02, m0, rfl, _, _, g00, g01, g02⟩ := Go.Joins.open_agg3 Try.underlying30 (by kernel_rfl) (show Try.prog.cellsOf 30 = 3 by kernel_rfl) (hval 0 30 v0 rfl rfl) h0
  obtain ⟨a00, e00, _, w00⟩ := DataW.trod_int Try.underlying3 g00
  simp at e00; subst e00
  obtain ⟨a01, e01, _, w01⟩ := DataW.trod_int Try.underlying3 g01
  simp at e01; subst e01
  obtain ⟨a02, e02, _⟩ := DataW.trod_bool Try.underlying4 g02
  simp at e02; subst e02
  clear hA0 hval0
  refine (walk a00 w00 a01 w01 a02 W).mono fun e W' ⟨he, bel⟩ => ?_
  subst he
  exact ⟨_, rfl, _, _, _, [], _, [], hW', trodAll_mk1 (shut_bool Try.underlying4 _), (trodAll_cons_mk (Below.trod laidOut (by kernel_rfl) (of_decide_eq_true (by kernel_rfl)) k0 bel lt0) trodAll_mk0), rfl, bel.frame _, fun h => by cases h⟩

theorem over : Rows.fnExactCtlFaultsRow.holds Try.pinned (OpenSpec.ofChange Rows.fnExactCtlFaultsSpec) :=
  OpenClaim.holds_of_wide 14 Try.f14 rfl rfl rfl rfl rfl rfl rfl ⟨rfl, rfl, rfl, rfl, rfl⟩ rfl rfl rfl rfl rfl (by kernel_rfl) Try.func14 (by kernel_rfl)
    (of_decide_eq_true (by kernel_rfl)) (by unfold Func.isWrapper; first | (rw [if_pos (by decide +kernel)]; kernel_rfl) | (rw [if_neg (by decide +kernel)]; exact ⟨rfl, rfl⟩))
    (fun os started H enc _ => lifted os started H enc)

/-- The given statement. -/
theorem proved : Rows.FnExactCtlFaultsSaid := over
end Go.Proofs.Ytifjnehfjcdojaa.fnExactCtlFaults
