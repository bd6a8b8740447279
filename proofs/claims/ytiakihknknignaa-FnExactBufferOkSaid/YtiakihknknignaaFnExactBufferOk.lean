/-
  For every slice of entries the program's BufferOk answers what the reference's answers and leaves the slice alone. No condition.
-/
import Derived.Test.YtiakihknknignaaRows
import Derived.WalkKit
import Derived.ProofKit
import Derived.OpenShut
import Derived.ShutString
import Derived.ChangeOld
import Derived.Below
import Derived.Lib.SmallJoins
import Derived.WalkSpells
import Derived.Test.YtiakihknknignaaBuf
import Derived.Test.YtiakihknknignaaOpen
import Derived.Handy
namespace Go.Proofs.Ytiakihknknignaa.fnExactBufferOk
open Go.ChangeShapes Go.WideShapes Go.ChangeAt Go.RowKit
set_option linter.unusedVariables false

theorem own : ownKnob Try.prog.godebug = none := by kernel_rfl
theorem laidOut : laidOutB Try.prog = true := by kernel_rfl

set_option maxHeartbeats 4000000 in
theorem walk (w : World) (A : Option Addr) (n c : Nat) (xs : List Int) (rb : Rd w w.heap.size 4 (.slice A n c) (ints xs)) (hl : xs.length = n * 4)  :
    Calls Try.prog 4 #[.slice A n c] w fun e w' => e = .returned (.bool true) ∧ Below w.heap.size w w' := by
  obtain ⟨l, rfl, hn⟩ := ents_of hl
  have hc9 : n ≤ 9223372036854775807 := by obtain ⟨_, _, _, e, h1, h2, _⟩ := rb; injection e with _ e2 e3; unfold maxLen at h2; omega
  clear hl
  have HN := Lib.hid hn
  by_cases hbig : n ≤ 1048576
  rotate_left
  · have hif : (if n ≤ 1048576 then 1048576 - (n : Int) else -1) = -1 := if_neg hbig
    go_enter Try.func4, Try.ntmps4
    go_wp2_with fail
    refine (szEntryS_any A n c hc9 _).mono ?_
    rintro e w' ⟨rfl, rfl⟩
    rw [hif]
    clear hif
    go_wp2
    go_ret
    exact ⟨rfl, Below.refl _ _⟩
  have hif : (if n ≤ 1048576 then 1048576 - (n : Int) else -1) = 1048576 - (n : Int) := if_pos hbig
  have hl1 : l.length ≤ 1048577 := by omega
  have hx4 : (entsI l).length ≤ 4194304 := by rw [entsI_length]; omega
  have hl2 := Lib.hid hl1
  have hx5 := Lib.hid hx4
  clear hn hl1 hx4
  have K0 := Keep.refl 0 0 w
  go_enter Try.func4, Try.ntmps4
  go_wp2_with fail
  refine (szEntryS_any A n c hc9 _).mono ?_
  rintro e w' ⟨rfl, rfl⟩
  rw [hif]
  clear hif
  go_wp2_with fail
  refine (toEntryS_any _ _ _ _ rb hx5.out).mono ?_
  rintro e W1 ⟨va, rfl, rva, k1⟩
  have s1 := k1.size
  have K1 := K0.tr0 k1
  clear K0 k1
  go_wp2_with fail
  refine (specBufferOk_any _ _ _ l rva.rd hl2.out).mono ?_
  rintro e W2 ⟨rfl, d2⟩
  have k2 := d2.keep 0 0
  have s2 := k2.size
  have K2 := K1.tr0 k2
  replace rva := rva.keep k2 (.inr (.inr (Nat.le_refl 0)))
  clear K1 k2 d2
  clear rva
  go_wp2_with fail
  refine (toEntryS_any _ _ _ _ (rb.keep K2 (Nat.le_refl _) (.inr (Nat.le_refl 0))) hx5.out).mono ?_
  rintro e W3 ⟨vx, rfl, rvx, k3⟩
  have s3 := k3.size
  have K3 := K2.tr0 k3
  clear K2 k3
  go_wp2_with fail
  refine (implBufferOk_any _ _ _ l rvx.rd hl2.out).mono ?_
  rintro e W4 ⟨rfl, k4⟩
  have s4 := k4.size
  have K4 := K3.tr0 k4
  replace rvx := rvx.keep k4 (.inr (.inr (Nat.le_refl 0)))
  clear K3 k4
  go_wp2_with fail
  refine (toEntryS_any _ _ _ _ (rb.keep K4 (Nat.le_refl _) (.inr (Nat.le_refl 0))) hx5.out).mono ?_
  rintro e W5 ⟨vt, rfl, rvt, k5⟩
  have s5 := k5.size
  have K5 := K4.tr0 k5
  replace rvx := rvx.keep k5 (.inr (.inr (Nat.le_refl 0)))
  clear K4 k5
  go_wp2_with fail
  refine (eqEntryS_any _ _ _ _ _ _ _ rvx.rd rvt.rd).mono ?_
  rintro e W6 ⟨rfl, k6⟩
  have s6 := k6.size
  have K6 := K5.tr0 k6
  replace rvx := rvx.keep k6 (.inr (.inr (Nat.le_refl 0)))
  replace rvt := rvt.keep k6 (.inr (.inr (Nat.le_refl 0)))
  clear K5 k6
  simp only [decide_true]
  go_wp2
  go_ret
  exact ⟨rfl, K6.below⟩

set_option maxRecDepth 100000 in
theorem lifted (os : Os) (started : os.Started) (H : Type) (enc : TypeId × Value → H) :
    ReturnsInHanded {} Try.checked os 4 .any (Rows.fnExactBufferOkSpec.pre6 enc Try.prog Try.f4 Rows.fnExactBufferOkRow.domain false) (Rows.fnExactBufferOkSpec.post enc Try.prog Try.f4 false true false false) := by
  refine returnsInHanded_of_change (C := Try.checked) own started (by kernel_rfl) Try.func4
    (ChangeSpec.witness6 (enc := enc) (C := Try.checked) false ⟨#[], #[.slice none 0 0], []⟩ 8 (by kernel_rfl) (by kernel_rfl) (by kernel_rfl) (by kernel_rfl)) ?_
  intro W base args ds gs before hval0 hW hcnd _
  have hval : ∀ (j : Nat) t v, Try.f4.params[j]? = some t → args[j]? = some v → Value.okWide Try.prog W .any base t v := hval0
  have hW' := hW
  obtain ⟨p, q, hA0, hV, rfl, hfz, hnd⟩ := hW
  have hA : DataW.TrodAll enc Try.prog W 0 (fun _ => true) true Try.f4.params.toList args.toList ds p := hA0
  rw [Try.params4] at hA hval
  obtain ⟨v0, vs0, d0, ds0, p0, q0, hargs, rfl, rfl, h0, r0⟩ := trodAll_cons hA
  obtain ⟨rfl, rfl, rfl⟩ := trodAll_nil r0
  obtain rfl : args = #[v0] := by cases args; simp_all
  obtain ⟨rfl, rfl⟩ := trodVars_none hV
  have k0 := h0
  have lt0 : ∀ x ∈ p0, x.block < W.heap.size := by obtain ⟨m, hm⟩ := k0; exact DataW.trod_lt m _ _ _ hm
  obtain ⟨A0, n0, cap0, rfl⟩ := okWide_slice Try.underlying22 (hval 0 22 v0 rfl rfl)
  obtain ⟨xs0, rb0, hl0⟩ := open_flat Try.underlying22 Try.underlying39 (by kernel_rfl) (by kernel_rfl) (by intro j f hf; rcases j with _ | _ | _ | _ | j <;> simp at hf <;> subst hf <;> exact Try.underlying3) (by decide) h0
  clear hA0 hval0
  refine (walk W A0 n0 cap0 xs0 rb0 hl0).mono fun e W' ⟨he, bel⟩ => ?_
  subst he
  exact ⟨_, rfl, _, _, _, [], _, [], hW', trodAll_mk1 (shut_bool Try.underlying4 _), (trodAll_cons_mk (Below.trod laidOut (by kernel_rfl) (of_decide_eq_true (by kernel_rfl)) k0 bel lt0) trodAll_mk0), rfl, bel.frame _, fun h => by cases h⟩

theorem over : Rows.fnExactBufferOkRow.holds Try.pinned (OpenSpec.ofChange Rows.fnExactBufferOkSpec) :=
  OpenClaim.holds_of_wide 4 Try.f4 rfl rfl rfl rfl rfl rfl rfl ⟨rfl, rfl, rfl, rfl, rfl⟩ rfl rfl rfl rfl rfl (by kernel_rfl) Try.func4 (by kernel_rfl)
    (of_decide_eq_true (by kernel_rfl)) (by unfold Func.isWrapper; first | (rw [if_pos (by decide +kernel)]; kernel_rfl) | (rw [if_neg (by decide +kernel)]; exact ⟨rfl, rfl⟩))
    (fun os started H enc _ => lifted os started H enc)

/-- The given statement. -/
theorem proved : Rows.FnExactBufferOkSaid := over
end Go.Proofs.Ytiakihknknignaa.fnExactBufferOk
