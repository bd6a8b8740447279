/-
  For every slice of entries the program's TagsIn returns what the reference's returns, leaves the slice alone, and hands back memory of its own. No condition.
-/
import Derived.Test.YtiakihknknignaaRows
import Derived.WalkKit
import Derived.ProofKit
import Derived.OpenShut
import Derived.ShutString
import Derived.ChangeOld
import Derived.Below
import Derived.Lib.SmallJoins
import Derived.WalkSpells
import Derived.Test.YtiakihknknignaaTag
import Derived.Test.YtiakihknknignaaOpen
import Derived.Handy
namespace Go.Proofs.Ytiakihknknignaa.fnExactTagsIn
open Go.ChangeShapes Go.WideShapes Go.ChangeAt Go.RowKit
set_option linter.unusedVariables false

theorem own : ownKnob Try.prog.godebug = none := by kernel_rfl
theorem laidOut : laidOutB Try.prog = true := by kernel_rfl

set_option maxHeartbeats 4000000 in
theorem walk (w : World) (A : Option Addr) (n c : Nat) (xs : List Int) (rb : Rd w w.heap.size 4 (.slice A n c) (ints xs)) (hl : xs.length = n * 4) :
    Calls Try.prog 10 #[.slice A n c] w fun e w' => e = .returned (.bool true) ∧ Below w.heap.size w w' := by
  obtain ⟨l, rfl, hn⟩ := ents_of hl
  have hc9 : n ≤ 9223372036854775807 := by obtain ⟨_, _, _, e, h1, h2, _⟩ := rb; injection e with _ e2 e3; unfold maxLen at h2; omega
  clear hl
  have HN := Lib.hid hn
  by_cases hbig : n ≤ 1048576
  rotate_left
  · have hif : (if n ≤ 1048576 then 1048576 - (n : Int) else -1) = -1 := if_neg hbig
    go_enter Try.func10, Try.ntmps10
    go_wp2_with fail
    refine (szEntryS_any A n c hc9 _).mono ?_
    rintro e w' ⟨rfl, rfl⟩
    rw [hif]
    clear hif
    go_wp2
    go_ret
    exact ⟨rfl, by first | exact Below.refl _ _ | exact (keep_1 _ _).below⟩
  have hif : (if n ≤ 1048576 then 1048576 - (n : Int) else -1) = 1048576 - (n : Int) := if_pos hbig
  have hl1 : l.length ≤ 1048576 := by omega
  obtain ⟨R, hR⟩ : ∃ R, R = insAll (l.map (·.1)) := ⟨_, rfl⟩
  have hr1 : R.length ≤ 1048577 := by rw [hR]; exact Nat.le_trans (insAll_length _) (by rw [List.length_map]; omega)
  have HR := Lib.hid hR
  obtain ⟨NX, hNX⟩ : ∃ N, (ints (entsI l)).length = N := ⟨_, rfl⟩
  obtain ⟨NG, hNG⟩ : ∃ N, (ints R).length = N := ⟨_, rfl⟩
  have hx9 : NX ≤ 4194308 := by rw [← hNX, ints_length, entsI_length]; omega
  have hg9 : NG ≤ 4194308 := by rw [← hNG, ints_length]; omega
  have HX := Lib.hid hNX
  have HG := Lib.hid hNG
  have hx4 : (entsI l).length ≤ 4194304 := by rw [entsI_length]; omega
  have hl2 := Lib.hid hl1
  have hx5 := Lib.hid hx4
  clear hR hNX hNG hn hl1 hx4
  have K0 := Keep.refl 0 0 w
  go_enter Try.func10, Try.ntmps10
  go_wp2_with fail
  refine (szEntryS_any A n c hc9 _).mono ?_
  rintro e w' ⟨rfl, rfl⟩
  rw [hif]
  clear hif
  go_wp2_with fail
  refine (toEntryS_any _ _ _ _ rb hx5.out).mono ?_
  rintro e W1 ⟨va, rfl, rva, k1⟩
  have s1 := k1.size
  have K1 := K0.tr0 k1
  clear K0 k1
  go_wp2_with fail
  refine (specTagsIn_any _ _ _ l rva.rd hl2.out).mono ?_
  rintro e W2 ⟨v0, rfl, r0, k2⟩
  have s2 := k2.size
  have K2 := K1.tr0 k2
  replace rva := rva.keep k2 (.inr (.inr (Nat.le_refl 0)))
  clear K1 k2
  clear rva
  rw [← HR.out] at r0
  go_wp2_with fail
  refine (toEntryS_any _ _ _ _ (rb.keep K2 (Nat.le_refl _) (.inr (Nat.le_refl 0))) hx5.out).mono ?_
  rintro e W3 ⟨vx, rfl, rvx, k3⟩
  have s3 := k3.size
  have K3 := K2.tr0 k3
  replace r0 := r0.keep k3 (.inr (.inr (Nat.le_refl 0)))
  clear K2 k3
  go_wp2_with fail
  refine (implTagsIn_any _ _ _ l rvx.rd hl2.out).mono ?_
  rintro e W4 ⟨vg, rfl, rg, k4⟩
  have s4 := k4.size
  have K4 := K3.tr0 k4
  replace r0 := r0.keep k4 (.inr (.inr (Nat.le_refl 0)))
  replace rvx := rvx.keep k4 (.inr (.inr (Nat.le_refl 0)))
  clear K3 k4
  rw [← HR.out] at rg
  go_wp2_with fail
  refine (eqIntS_any _ _ _ _ _ _ _ rg.rd r0.rd).mono ?_
  rintro e W5 ⟨rfl, d5⟩
  have k5 := d5.keep 0 0
  have s5 := k5.size
  have K5 := K4.tr0 k5
  replace r0 := r0.keep k5 (.inr (.inr (Nat.le_refl 0)))
  replace rvx := rvx.keep k5 (.inr (.inr (Nat.le_refl 0)))
  replace rg := rg.keep k5 (.inr (.inr (Nat.le_refl 0)))
  clear K4 k5 d5
  simp only [decide_true]
  go_wp2_with fail
  refine (toEntryS_any _ _ _ _ (rb.keep K5 (Nat.le_refl _) (.inr (Nat.le_refl 0))) hx5.out).mono ?_
  rintro e W6 ⟨vt, rfl, rvt, k6⟩
  have s6 := k6.size
  have K6 := K5.tr0 k6
  replace r0 := r0.keep k6 (.inr (.inr (Nat.le_refl 0)))
  replace rvx := rvx.keep k6 (.inr (.inr (Nat.le_refl 0)))
  replace rg := rg.keep k6 (.inr (.inr (Nat.le_refl 0)))
  clear K5 k6
  go_wp2_with fail
  refine (eqEntryS_any _ _ _ _ _ _ _ rvx.rd rvt.rd).mono ?_
  rintro e W7 ⟨rfl, k7⟩
  have s7 := k7.size
  have K7 := K6.tr0 k7
  replace r0 := r0.keep k7 (.inr (.inr (Nat.le_refl 0)))
  replace rvx := rvx.keep k7 (.inr (.inr (Nat.le_refl 0)))
  replace rg := rg.keep k7 (.inr (.inr (Nat.le_refl 0)))
  replace rvt := rvt.keep k7 (.inr (.inr (Nat.le_refl 0)))
  clear K6 k7
  clear rvt
  simp only [decide_true]
  go_wp2_with fail
  refine (markEntryS_any _ _ _ _ _ NX HX.out 1 rvx (by omega) (by omega)).mono ?_
  rintro e W8 ⟨rfl, rvx2, k8⟩
  have s8 := k8.size
  have K8 := K7.trm k8 (by omega)
  replace r0 := r0.keep k8 (by omega)
  replace rg := rg.keep k8 (by omega)
  clear K7 k8
  clear rvx rvx2
  go_wp2_with fail
  refine (eqIntS_any _ _ _ _ _ _ _ rg.rd r0.rd).mono ?_
  rintro e W9 ⟨rfl, d9⟩
  have k9 := d9.keep 0 0
  have s9 := k9.size
  have K9 := K8.tr0 k9
  replace r0 := r0.keep k9 (.inr (.inr (Nat.le_refl 0)))
  replace rg := rg.keep k9 (.inr (.inr (Nat.le_refl 0)))
  clear K8 k9 d9
  simp only [decide_true]
  go_wp2_with fail
  refine (markIntS_any _ _ _ _ _ NG HG.out 1 rg (by omega) (by omega)).mono ?_
  rintro e W10 ⟨rfl, rh, k10⟩
  have s10 := k10.size
  have K10 := K9.trm k10 (by omega)
  replace r0 := r0.keep k10 (by omega)
  clear K9 k10
  clear rg
  go_wp2_with fail
  refine (heldIntS_any _ _ _ NG 1 rh.rd (by omega) (by omega)).mono ?_
  rintro e W11 ⟨rfl, d11⟩
  have k11 := d11.keep 0 0
  have s11 := k11.size
  have K11 := K10.tr0 k11
  replace r0 := r0.keep k11 (.inr (.inr (Nat.le_refl 0)))
  replace rh := rh.keep k11 (.inr (.inr (Nat.le_refl 0)))
  clear K10 k11 d11
  go_wp2_with fail
  refine (toEntryS_any _ _ _ _ (rb.keep K11 (Nat.le_refl _) (.inr (Nat.le_refl 0))) hx5.out).mono ?_
  rintro e W12 ⟨vy, rfl, rvy, k12⟩
  have s12 := k12.size
  have K12 := K11.tr0 k12
  replace r0 := r0.keep k12 (.inr (.inr (Nat.le_refl 0)))
  replace rh := rh.keep k12 (.inr (.inr (Nat.le_refl 0)))
  clear K11 k12
  go_wp2_with fail
  refine (implTagsIn_any _ _ _ l rvy.rd hl2.out).mono ?_
  rintro e W13 ⟨vh, rfl, rk, k13⟩
  have s13 := k13.size
  have K13 := K12.tr0 k13
  replace r0 := r0.keep k13 (.inr (.inr (Nat.le_refl 0)))
  replace rh := rh.keep k13 (.inr (.inr (Nat.le_refl 0)))
  replace rvy := rvy.keep k13 (.inr (.inr (Nat.le_refl 0)))
  clear K12 k13
  rw [← HR.out] at rk
  clear rvy
  go_wp2_with fail
  refine (eqIntS_any _ _ _ _ _ _ _ rk.rd r0.rd).mono ?_
  rintro e W14 ⟨rfl, d14⟩
  have k14 := d14.keep 0 0
  have s14 := k14.size
  have K14 := K13.tr0 k14
  replace r0 := r0.keep k14 (.inr (.inr (Nat.le_refl 0)))
  replace rh := rh.keep k14 (.inr (.inr (Nat.le_refl 0)))
  replace rk := rk.keep k14 (.inr (.inr (Nat.le_refl 0)))
  clear K13 k14 d14
  simp only [decide_true]
  go_wp2_with fail
  refine (heldIntS_any _ _ _ NG 1 rh.rd (by omega) (by omega)).mono ?_
  rintro e W15 ⟨rfl, d15⟩
  have k15 := d15.keep 0 0
  have s15 := k15.size
  have K15 := K14.tr0 k15
  replace r0 := r0.keep k15 (.inr (.inr (Nat.le_refl 0)))
  replace rh := rh.keep k15 (.inr (.inr (Nat.le_refl 0)))
  replace rk := rk.keep k15 (.inr (.inr (Nat.le_refl 0)))
  clear K14 k15 d15
  go_wp2
  go_ret
  exact ⟨rfl, K15.below⟩

set_option maxRecDepth 100000 in
theorem lifted (os : Os) (started : os.Started) (H : Type) (enc : TypeId × Value → H) :
    ReturnsInHanded {} Try.checked os 10 .any (Rows.fnExactTagsInSpec.pre6 enc Try.prog Try.f10 Rows.fnExactTagsInRow.domain false) (Rows.fnExactTagsInSpec.post enc Try.prog Try.f10 false true false false) := by
  refine returnsInHanded_of_change (C := Try.checked) own started (by kernel_rfl) Try.func10
    (ChangeSpec.witness6 (enc := enc) (C := Try.checked) false ⟨#[], #[.slice none 0 0], []⟩ 8 (by kernel_rfl) (by kernel_rfl) (by kernel_rfl) (by kernel_rfl)) ?_
  intro W base args ds gs before hval0 hW hcnd _
  have hval : ∀ (j : Nat) t v, Try.f10.params[j]? = some t → args[j]? = some v → Value.okWide Try.prog W .any base t v := hval0
  have hW' := hW
  obtain ⟨p, q, hA0, hV, rfl, hfz, hnd⟩ := hW
  have hA : DataW.TrodAll enc Try.prog W 0 (fun _ => true) true Try.f10.params.toList args.toList ds p := hA0
  rw [Try.params10] at hA hval
  obtain ⟨v0, vs0, d0, ds0, p0, q0, hargs, rfl, rfl, h0, r0⟩ := trodAll_cons hA
  obtain ⟨rfl, rfl, rfl⟩ := trodAll_nil r0
  obtain rfl : args = #[v0] := by cases args; simp_all
  obtain ⟨rfl, rfl⟩ := trodVars_none hV
  have k0 := h0
  have lt0 : ∀ x ∈ p0, x.block < W.heap.size := by obtain ⟨m, hm⟩ := k0; exact DataW.trod_lt m _ _ _ hm
  obtain ⟨A0, n0, cap0, rfl⟩ := okWide_slice Try.underlying22 (hval 0 22 v0 rfl rfl)
  obtain ⟨xs0, rb0, hl0⟩ := open_flat Try.underlying22 Try.underlying39 (by kernel_rfl) (by kernel_rfl) (by intro j f hf; rcases j with _ | _ | _ | _ | j <;> simp at hf <;> subst hf <;> exact Try.underlying3) (by decide) h0
  clear hA0 hval0
  refine (walk W A0 n0 cap0 xs0 rb0 hl0).mono fun e W' ⟨he, bel⟩ => ?_
  subst he
  exact ⟨_, rfl, _, _, _, [], _, [], hW', trodAll_mk1 (shut_bool Try.underlying4 _), (trodAll_cons_mk (Below.trod laidOut (by kernel_rfl) (of_decide_eq_true (by kernel_rfl)) k0 bel lt0) trodAll_mk0), rfl, bel.frame _, fun h => by cases h⟩

theorem over : Rows.fnExactTagsInRow.holds Try.pinned (OpenSpec.ofChange Rows.fnExactTagsInSpec) :=
  OpenClaim.holds_of_wide 10 Try.f10 rfl rfl rfl rfl rfl rfl rfl ⟨rfl, rfl, rfl, rfl, rfl⟩ rfl rfl rfl rfl rfl (by kernel_rfl) Try.func10 (by kernel_rfl)
    (of_decide_eq_true (by kernel_rfl)) (by unfold Func.isWrapper; first | (rw [if_pos (by decide +kernel)]; kernel_rfl) | (rw [if_neg (by decide +kernel)]; exact ⟨rfl, rfl⟩))
    (fun os started H enc _ => lifted os started H enc)

/-- The given statement. -/
theorem proved : Rows.FnExactTagsInSaid := over
end Go.Proofs.Ytiakihknknignaa.fnExactTagsIn
