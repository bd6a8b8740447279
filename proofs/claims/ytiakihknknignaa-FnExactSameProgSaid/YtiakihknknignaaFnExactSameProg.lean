/-
  For every two programs the program's SameProg answers what the reference's answers and leaves both slices alone. No condition.
-/
import Derived.Test.YtiakihknknignaaRows
import Derived.WalkKit
import Derived.ProofKit
import Derived.OpenShut
import Derived.ShutString
import Derived.ChangeOld
import Derived.Below
import Derived.Lib.SmallJoins
import Derived.WalkSpells
import Derived.Test.YtiakihknknignaaCode
import Derived.Test.YtiakihknknignaaOpen
import Derived.Test.YtiakihknknignaaSize
import Derived.Handy
namespace Go.Proofs.Ytiakihknknignaa.fnExactSameProg
open Go.ChangeShapes Go.WideShapes Go.ChangeAt Go.RowKit
set_option linter.unusedVariables false

theorem own : ownKnob Try.prog.godebug = none := by kernel_rfl
theorem laidOut : laidOutB Try.prog = true := by kernel_rfl

theorem cap_le {w : World} {hi sz n c : Nat} {A : Option Addr} {xs : List Value} (h : Rd w hi sz (.slice A n c) xs) : n ≤ 9223372036854775807 := by
  obtain ⟨_, _, _, e, h1, h2, _⟩ := h
  injection e with _ e2 e3
  unfold maxLen at h2
  omega
set_option maxHeartbeats 4000000 in
theorem walk (w : World) (A0 : Option Addr) (n0 c0 : Nat) (xs0 : List Int) (rb0 : Rd w w.heap.size 2 (.slice A0 n0 c0) (ints xs0)) (hl0 : xs0.length = n0 * 2) (A1 : Option Addr) (n1 c1 : Nat) (xs1 : List Int) (rb1 : Rd w w.heap.size 2 (.slice A1 n1 c1) (ints xs1)) (hl1 : xs1.length = n1 * 2)  :
    Calls Try.prog 12 #[.slice A0 n0 c0, .slice A1 n1 c1] w fun e w' => e = .returned (.bool true) ∧ Below w.heap.size w w' := by
  obtain ⟨l0, rfl, hn0⟩ := twos_of hl0
  have hc0 := cap_le rb0
  clear hl0
  obtain ⟨l1, rfl, hn1⟩ := twos_of hl1
  have hc1 := cap_le rb1
  clear hl1
  by_cases hb0 : (n0 : Int) ≤ 1048576
  rotate_left
  · have hif0 := leftT_out hb0
    go_enter Try.func12, Try.ntmps12
    go_wp2_with fail
    refine (szInsS_gen A0 n0 c0 _ hc0 (by omega) (by omega) _).mono ?_
    rintro e w' ⟨rfl, rfl⟩
    rw [hif0]
    clear hif0
    go_wp2
    go_ret
    exact ⟨rfl, Below.refl _ _⟩
  have hif0 := leftT_in hb0
  by_cases hb1 : (n1 : Int) ≤ 1048576 - n0
  rotate_left
  · have hif1 := leftT_out hb1
    go_enter Try.func12, Try.ntmps12
    go_wp2_with fail
    refine (szInsS_gen A0 n0 c0 _ hc0 (by omega) (by omega) _).mono ?_
    rintro e w' ⟨rfl, rfl⟩
    rw [hif0]
    clear hif0
    go_wp2_with fail
    refine (szInsS_gen A1 n1 c1 _ hc1 (by omega) (by omega) _).mono ?_
    rintro e w' ⟨rfl, rfl⟩
    rw [hif1]
    clear hif1
    go_wp2
    go_ret
    exact ⟨rfl, Below.refl _ _⟩
  have hif1 := leftT_in hb1
  have hx0 := Lib.hid (show (twosI l0).length ≤ 2097152 from by rw [twosI_length]; omega)
  have hx1 := Lib.hid (show (twosI l1).length ≤ 2097152 from by rw [twosI_length]; omega)
  have HN0 := Lib.hid hn0
  clear hn0
  have HN1 := Lib.hid hn1
  clear hn1
  have K0 := Keep.refl 0 0 w
  go_enter Try.func12, Try.ntmps12
  go_wp2_with fail
  refine (szInsS_gen A0 n0 c0 _ hc0 (by omega) (by omega) _).mono ?_
  rintro e w' ⟨rfl, rfl⟩
  rw [hif0]
  clear hif0
  go_wp2_with fail
  refine (szInsS_gen A1 n1 c1 _ hc1 (by omega) (by omega) _).mono ?_
  rintro e w' ⟨rfl, rfl⟩
  rw [hif1]
  clear hif1
  go_wp2_with fail
  refine (toInsS_any _ _ _ _ rb0 hx0.out).mono ?_
  rintro e W1 ⟨va, rfl, rva, k1⟩
  have s1 := k1.size
  have K1 := K0.tr0 k1
  clear K0 k1
  go_wp2_with fail
  refine (toInsS_any _ _ _ _ (rb1.keep K1 (Nat.le_refl _) (.inr (Nat.le_refl 0))) hx1.out).mono ?_
  rintro e W2 ⟨vb, rfl, rvb, k2⟩
  have s2 := k2.size
  have K2 := K1.tr0 k2
  replace rva := rva.keep k2 (.inr (.inr (Nat.le_refl 0)))
  clear K1 k2
  go_wp2_with fail
  refine (specSameProg_any _ _ _ _ _ _ _ rva.rd rvb.rd).mono ?_
  rintro e W3 ⟨rfl, d3⟩
  have k3 := d3.keep 0 0
  have s3 := k3.size
  have K3 := K2.tr0 k3
  replace rva := rva.keep k3 (.inr (.inr (Nat.le_refl 0)))
  replace rvb := rvb.keep k3 (.inr (.inr (Nat.le_refl 0)))
  clear K2 k3 d3
  clear rva
  clear rvb
  go_wp2_with fail
  refine (toInsS_any _ _ _ _ (rb0.keep K3 (Nat.le_refl _) (.inr (Nat.le_refl 0))) hx0.out).mono ?_
  rintro e W4 ⟨vx, rfl, rvx, k4⟩
  have s4 := k4.size
  have K4 := K3.tr0 k4
  clear K3 k4
  go_wp2_with fail
  refine (toInsS_any _ _ _ _ (rb1.keep K4 (Nat.le_refl _) (.inr (Nat.le_refl 0))) hx1.out).mono ?_
  rintro e W5 ⟨vy, rfl, rvy, k5⟩
  have s5 := k5.size
  have K5 := K4.tr0 k5
  replace rvx := rvx.keep k5 (.inr (.inr (Nat.le_refl 0)))
  clear K4 k5
  go_wp2_with fail
  refine (implSameProg_any _ _ _ _ _ _ _ rvx.rd rvy.rd).mono ?_
  rintro e W6 ⟨rfl, d6⟩
  have k6 := d6.keep 0 0
  have s6 := k6.size
  have K6 := K5.tr0 k6
  replace rvx := rvx.keep k6 (.inr (.inr (Nat.le_refl 0)))
  replace rvy := rvy.keep k6 (.inr (.inr (Nat.le_refl 0)))
  clear K5 k6 d6
  go_wp2_with fail
  refine (toInsS_any _ _ _ _ (rb0.keep K6 (Nat.le_refl _) (.inr (Nat.le_refl 0))) hx0.out).mono ?_
  rintro e W7 ⟨vt, rfl, rvt, k7⟩
  have s7 := k7.size
  have K7 := K6.tr0 k7
  replace rvx := rvx.keep k7 (.inr (.inr (Nat.le_refl 0)))
  replace rvy := rvy.keep k7 (.inr (.inr (Nat.le_refl 0)))
  clear K6 k7
  go_wp2_with fail
  refine (eqInsS_any _ _ _ _ _ _ _ rvx.rd rvt.rd).mono ?_
  rintro e W8 ⟨rfl, k8⟩
  have s8 := k8.size
  have K8 := K7.tr0 k8
  replace rvx := rvx.keep k8 (.inr (.inr (Nat.le_refl 0)))
  replace rvy := rvy.keep k8 (.inr (.inr (Nat.le_refl 0)))
  replace rvt := rvt.keep k8 (.inr (.inr (Nat.le_refl 0)))
  clear K7 k8
  clear rvt
  simp only [decide_true]
  go_wp2_with fail
  refine (toInsS_any _ _ _ _ (rb1.keep K8 (Nat.le_refl _) (.inr (Nat.le_refl 0))) hx1.out).mono ?_
  rintro e W9 ⟨vu, rfl, rvu, k9⟩
  have s9 := k9.size
  have K9 := K8.tr0 k9
  replace rvx := rvx.keep k9 (.inr (.inr (Nat.le_refl 0)))
  replace rvy := rvy.keep k9 (.inr (.inr (Nat.le_refl 0)))
  clear K8 k9
  go_wp2_with fail
  refine (eqInsS_any _ _ _ _ _ _ _ rvy.rd rvu.rd).mono ?_
  rintro e W10 ⟨rfl, k10⟩
  have s10 := k10.size
  have K10 := K9.tr0 k10
  replace rvx := rvx.keep k10 (.inr (.inr (Nat.le_refl 0)))
  replace rvy := rvy.keep k10 (.inr (.inr (Nat.le_refl 0)))
  replace rvu := rvu.keep k10 (.inr (.inr (Nat.le_refl 0)))
  clear K9 k10
  simp only [decide_true]
  go_wp2
  go_ret
  exact ⟨rfl, K10.below⟩

set_option maxRecDepth 100000 in
theorem lifted (os : Os) (started : os.Started) (H : Type) (enc : TypeId × Value → H) :
    ReturnsInHanded {} Try.checked os 12 .any (Rows.fnExactSameProgSpec.pre6 enc Try.prog Try.f12 Rows.fnExactSameProgRow.domain false) (Rows.fnExactSameProgSpec.post enc Try.prog Try.f12 false true false false) := by
  refine returnsInHanded_of_change (C := Try.checked) own started (by kernel_rfl) Try.func12
    (ChangeSpec.witness6 (enc := enc) (C := Try.checked) false ⟨#[], #[.slice none 0 0, .slice none 0 0], []⟩ 8 (by kernel_rfl) (by kernel_rfl) (by kernel_rfl) (by kernel_rfl)) ?_
  intro W base args ds gs before hval0 hW hcnd _
  have hval : ∀ (j : Nat) t v, Try.f12.params[j]? = some t → args[j]? = some v → Value.okWide Try.prog W .any base t v := hval0
  have hW' := hW
  obtain ⟨p, q, hA0, hV, rfl, hfz, hnd⟩ := hW
  have hA : DataW.TrodAll enc Try.prog W 0 (fun _ => true) true Try.f12.params.toList args.toList ds p := hA0
  rw [Try.params12] at hA hval
  obtain ⟨v0, vs0, d0, ds0, p0, q0, hargs, rfl, rfl, h0, r0⟩ := trodAll_cons hA
  obtain ⟨v1, vs1, d1, ds1, p1, q1, rfl, rfl, rfl, h1, r1⟩ := trodAll_cons r0
  obtain ⟨rfl, rfl, rfl⟩ := trodAll_nil r1
  obtain rfl : args = #[v0, v1] := by cases args; simp_all
  obtain ⟨rfl, rfl⟩ := trodVars_none hV
  have k0 := h0
  have lt0 : ∀ x ∈ p0, x.block < W.heap.size := by obtain ⟨m, hm⟩ := k0; exact DataW.trod_lt m _ _ _ hm
  obtain ⟨A0, n0, cap0, rfl⟩ := okWide_slice Try.underlying47 (hval 0 47 v0 rfl rfl)
  obtain ⟨xs0, rb0, hl0⟩ := open_flat Try.underlying47 Try.underlying68 (by kernel_rfl) (by kernel_rfl) (by intro j f hf; rcases j with _ | _ | j <;> simp at hf <;> subst hf <;> exact Try.underlying3) (by decide) h0
  have k1 := h1
  have lt1 : ∀ x ∈ p1, x.block < W.heap.size := by obtain ⟨m, hm⟩ := k1; exact DataW.trod_lt m _ _ _ hm
  obtain ⟨A1, n1, cap1, rfl⟩ := okWide_slice Try.underlying47 (hval 1 47 v1 rfl rfl)
  obtain ⟨xs1, rb1, hl1⟩ := open_flat Try.underlying47 Try.underlying68 (by kernel_rfl) (by kernel_rfl) (by intro j f hf; rcases j with _ | _ | j <;> simp at hf <;> subst hf <;> exact Try.underlying3) (by decide) h1
  clear hA0 hval0
  refine (walk W A0 n0 cap0 xs0 rb0 hl0 A1 n1 cap1 xs1 rb1 hl1).mono fun e W' ⟨he, bel⟩ => ?_
  subst he
  exact ⟨_, rfl, _, _, _, [], _, [], hW', trodAll_mk1 (shut_bool Try.underlying4 _), (trodAll_cons_mk (Below.trod laidOut (by kernel_rfl) (of_decide_eq_true (by kernel_rfl)) k0 bel lt0) (trodAll_cons_mk (Below.trod laidOut (by kernel_rfl) (of_decide_eq_true (by kernel_rfl)) k1 bel lt1) trodAll_mk0)), rfl, bel.frame _, fun h => by cases h⟩

theorem over : Rows.fnExactSameProgRow.holds Try.pinned (OpenSpec.ofChange Rows.fnExactSameProgSpec) :=
  OpenClaim.holds_of_wide 12 Try.f12 rfl rfl rfl rfl rfl rfl rfl ⟨rfl, rfl, rfl, rfl, rfl⟩ rfl rfl rfl rfl rfl (by kernel_rfl) Try.func12 (by kernel_rfl)
    (of_decide_eq_true (by kernel_rfl)) (by unfold Func.isWrapper; first | (rw [if_pos (by decide +kernel)]; kernel_rfl) | (rw [if_neg (by decide +kernel)]; exact ⟨rfl, rfl⟩))
    (fun os started H enc _ => lifted os started H enc)

/-- The given statement. -/
theorem proved : Rows.FnExactSameProgSaid := over
end Go.Proofs.Ytiakihknknignaa.fnExactSameProg
