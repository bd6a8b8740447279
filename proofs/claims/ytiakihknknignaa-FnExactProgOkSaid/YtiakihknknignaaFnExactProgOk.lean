/-
  For every program the program's ProgOk answers what the reference's answers and leaves the slice alone. No condition.
-/
import Derived.Test.YtiakihknknignaaRows
import Derived.WalkKit
import Derived.ProofKit
import Derived.OpenShut
import Derived.ShutString
import Derived.ChangeOld
import Derived.Below
import Derived.Lib.SmallJoins
import Derived.WalkSpells
import Derived.Test.YtiakihknknignaaCode
import Derived.Test.YtiakihknknignaaOpen
import Derived.Handy
namespace Go.Proofs.Ytiakihknknignaa.fnExactProgOk
open Go.ChangeShapes Go.WideShapes Go.ChangeAt Go.RowKit
set_option linter.unusedVariables false

theorem own : ownKnob Try.prog.godebug = none := by kernel_rfl
theorem laidOut : laidOutB Try.prog = true := by kernel_rfl

theorem cap_le {w : World} {hi sz n c : Nat} {A : Option Addr} {xs : List Value} (h : Rd w hi sz (.slice A n c) xs) : n ≤ 9223372036854775807 := by
  obtain ⟨_, _, _, e, h1, h2, _⟩ := h
  injection e with _ e2 e3
  unfold maxLen at h2
  omega
set_option maxHeartbeats 4000000 in
theorem walk (w : World) (A0 : Option Addr) (n0 c0 : Nat) (xs0 : List Int) (rb0 : Rd w w.heap.size 2 (.slice A0 n0 c0) (ints xs0)) (hl0 : xs0.length = n0 * 2)  :
    Calls Try.prog 13 #[.slice A0 n0 c0] w fun e w' => e = .returned (.bool true) ∧ Below w.heap.size w w' := by
  obtain ⟨l0, rfl, hn0⟩ := twos_of hl0
  have hc0 := cap_le rb0
  clear hl0
  have hneg : (if (1048576 : Nat) < 1048576 then (0 : Int) else -1) = -1 := rfl
  clear hneg
  by_cases hbig : n0 ≤ 1048576
  rotate_left
  · have hif : (if n0 ≤ 1048576 then 1048576 - (n0 : Int) else -1) = -1 := if_neg hbig
    go_enter Try.func13, Try.ntmps13
    go_wp2_with fail
    refine (szInsS_any A0 n0 c0 hc0 _).mono ?_
    rintro e w' ⟨rfl, rfl⟩
    rw [hif]
    clear hif
    go_wp2
    go_ret
    exact ⟨rfl, Below.refl _ _⟩
  have hif : (if n0 ≤ 1048576 then 1048576 - (n0 : Int) else -1) = 1048576 - (n0 : Int) := if_pos hbig
  have hl1 : l0.length ≤ 1048577 := by omega
  have hx1 : (twosI l0).length ≤ 2097152 := by rw [twosI_length]; omega
  have hl2 := Lib.hid hl1
  have hx0 := Lib.hid hx1
  clear hl1 hx1
  have HN := Lib.hid hn0
  clear hn0
  have K0 := Keep.refl 0 0 w
  go_enter Try.func13, Try.ntmps13
  go_wp2_with fail
  refine (szInsS_any A0 n0 c0 hc0 _).mono ?_
  rintro e w' ⟨rfl, rfl⟩
  rw [hif]
  clear hif
  go_wp2_with fail
  refine (toInsS_any _ _ _ _ rb0 hx0.out).mono ?_
  rintro e W1 ⟨va, rfl, rva, k1⟩
  have s1 := k1.size
  have K1 := K0.tr0 k1
  clear K0 k1
  go_wp2_with fail
  refine (specProgOk_any _ _ _ l0 rva.rd hl2.out).mono ?_
  rintro e W2 ⟨rfl, k2⟩
  have s2 := k2.size
  have K2 := K1.tr0 k2
  replace rva := rva.keep k2 (.inr (.inr (Nat.le_refl 0)))
  clear K1 k2
  clear rva
  go_wp2_with fail
  refine (toInsS_any _ _ _ _ (rb0.keep K2 (Nat.le_refl _) (.inr (Nat.le_refl 0))) hx0.out).mono ?_
  rintro e W3 ⟨vx, rfl, rvx, k3⟩
  have s3 := k3.size
  have K3 := K2.tr0 k3
  clear K2 k3
  go_wp2_with fail
  refine (implProgOk_any _ _ _ l0 rvx.rd hl2.out).mono ?_
  rintro e W4 ⟨rfl, k4⟩
  have s4 := k4.size
  have K4 := K3.tr0 k4
  replace rvx := rvx.keep k4 (.inr (.inr (Nat.le_refl 0)))
  clear K3 k4
  go_wp2_with fail
  refine (toInsS_any _ _ _ _ (rb0.keep K4 (Nat.le_refl _) (.inr (Nat.le_refl 0))) hx0.out).mono ?_
  rintro e W5 ⟨vt, rfl, rvt, k5⟩
  have s5 := k5.size
  have K5 := K4.tr0 k5
  replace rvx := rvx.keep k5 (.inr (.inr (Nat.le_refl 0)))
  clear K4 k5
  go_wp2_with fail
  refine (eqInsS_any _ _ _ _ _ _ _ rvx.rd rvt.rd).mono ?_
  rintro e W6 ⟨rfl, k6⟩
  have s6 := k6.size
  have K6 := K5.tr0 k6
  replace rvx := rvx.keep k6 (.inr (.inr (Nat.le_refl 0)))
  replace rvt := rvt.keep k6 (.inr (.inr (Nat.le_refl 0)))
  clear K5 k6
  simp only [decide_true]
  go_wp2
  go_ret
  exact ⟨rfl, K6.below⟩

set_option maxRecDepth 100000 in
theorem lifted (os : Os) (started : os.Started) (H : Type) (enc : TypeId × Value → H) :
    ReturnsInHanded {} Try.checked os 13 .any (Rows.fnExactProgOkSpec.pre6 enc Try.prog Try.f13 Rows.fnExactProgOkRow.domain false) (Rows.fnExactProgOkSpec.post enc Try.prog Try.f13 false true false false) := by
  refine returnsInHanded_of_change (C := Try.checked) own started (by kernel_rfl) Try.func13
    (ChangeSpec.witness6 (enc := enc) (C := Try.checked) false ⟨#[], #[.slice none 0 0], []⟩ 8 (by kernel_rfl) (by kernel_rfl) (by kernel_rfl) (by kernel_rfl)) ?_
  intro W base args ds gs before hval0 hW hcnd _
  have hval : ∀ (j : Nat) t v, Try.f13.params[j]? = some t → args[j]? = some v → Value.okWide Try.prog W .any base t v := hval0
  have hW' := hW
  obtain ⟨p, q, hA0, hV, rfl, hfz, hnd⟩ := hW
  have hA : DataW.TrodAll enc Try.prog W 0 (fun _ => true) true Try.f13.params.toList args.toList ds p := hA0
  rw [Try.params13] at hA hval
  obtain ⟨v0, vs0, d0, ds0, p0, q0, hargs, rfl, rfl, h0, r0⟩ := trodAll_cons hA
  obtain ⟨rfl, rfl, rfl⟩ := trodAll_nil r0
  obtain rfl : args = #[v0] := by cases args; simp_all
  obtain ⟨rfl, rfl⟩ := trodVars_none hV
  have k0 := h0
  have lt0 : ∀ x ∈ p0, x.block < W.heap.size := by obtain ⟨m, hm⟩ := k0; exact DataW.trod_lt m _ _ _ hm
  obtain ⟨A0, n0, cap0, rfl⟩ := okWide_slice Try.underlying47 (hval 0 47 v0 rfl rfl)
  obtain ⟨xs0, rb0, hl0⟩ := open_flat Try.underlying47 Try.underlying68 (by kernel_rfl) (by kernel_rfl) (by intro j f hf; rcases j with _ | _ | j <;> simp at hf <;> subst hf <;> exact Try.underlying3) (by decide) h0
  clear hA0 hval0
  refine (walk W A0 n0 cap0 xs0 rb0 hl0).mono fun e W' ⟨he, bel⟩ => ?_
  subst he
  exact ⟨_, rfl, _, _, _, [], _, [], hW', trodAll_mk1 (shut_bool Try.underlying4 _), (trodAll_cons_mk (Below.trod laidOut (by kernel_rfl) (of_decide_eq_true (by kernel_rfl)) k0 bel lt0) trodAll_mk0), rfl, bel.frame _, fun h => by cases h⟩

theorem over : Rows.fnExactProgOkRow.holds Try.pinned (OpenSpec.ofChange Rows.fnExactProgOkSpec) :=
  OpenClaim.holds_of_wide 13 Try.f13 rfl rfl rfl rfl rfl rfl rfl ⟨rfl, rfl, rfl, rfl, rfl⟩ rfl rfl rfl rfl rfl (by kernel_rfl) Try.func13 (by kernel_rfl)
    (of_decide_eq_true (by kernel_rfl)) (by unfold Func.isWrapper; first | (rw [if_pos (by decide +kernel)]; kernel_rfl) | (rw [if_neg (by decide +kernel)]; exact ⟨rfl, rfl⟩))
    (fun os started H enc _ => lifted os started H enc)

/-- The given statement. -/
theorem proved : Rows.FnExactProgOkSaid := over
end Go.Proofs.Ytiakihknknignaa.fnExactProgOk
