/-
  For every program and every integer the program's InsAt returns what the reference's returns and leaves the slice alone. No condition.
-/
import Derived.Test.YtiakihknknignaaRows
import Derived.WalkKit
import Derived.ProofKit
import Derived.OpenShut
import Derived.ShutString
import Derived.ChangeOld
import Derived.Below
import Derived.Lib.SmallJoins
import Derived.WalkSpells
import Derived.Test.YtiakihknknignaaCode
import Derived.Test.YtiakihknknignaaOpen
import Derived.Handy
namespace Go.Proofs.Ytiakihknknignaa.fnExactInsAt
open Go.ChangeShapes Go.WideShapes Go.ChangeAt Go.RowKit
set_option linter.unusedVariables false

theorem own : ownKnob Try.prog.godebug = none := by kernel_rfl
theorem laidOut : laidOutB Try.prog = true := by kernel_rfl

theorem cap_le {w : World} {hi sz n c : Nat} {A : Option Addr} {xs : List Value} (h : Rd w hi sz (.slice A n c) xs) : n ≤ 9223372036854775807 := by
  obtain ⟨_, _, _, e, h1, h2, _⟩ := h
  injection e with _ e2 e3
  unfold maxLen at h2
  omega
set_option maxHeartbeats 4000000 in
theorem walk (w : World) (A0 : Option Addr) (n0 c0 : Nat) (xs0 : List Int) (rb0 : Rd w w.heap.size 2 (.slice A0 n0 c0) (ints xs0)) (hl0 : xs0.length = n0 * 2) (pc : Int) (wpc : (Lit.int .i64 pc).wf = true) :
    Calls Try.prog 11 #[.slice A0 n0 c0, .int .i64 pc] w fun e w' => e = .returned (.bool true) ∧ Below w.heap.size w w' := by
  clear wpc
  obtain ⟨l0, rfl, hn0⟩ := twos_of hl0
  have hc0 := cap_le rb0
  clear hl0
  have hneg : (if (1048576 : Nat) < 1048576 then (0 : Int) else -1) = -1 := rfl
  clear hneg
  by_cases hbig : n0 ≤ 1048576
  rotate_left
  · have hif : (if n0 ≤ 1048576 then 1048576 - (n0 : Int) else -1) = -1 := if_neg hbig
    go_enter Try.func11, Try.ntmps11
    go_wp2_with fail
    refine (szInsS_any A0 n0 c0 hc0 _).mono ?_
    rintro e w' ⟨rfl, rfl⟩
    rw [hif]
    clear hif
    go_wp2
    go_ret
    exact ⟨rfl, Below.refl _ _⟩
  obtain ⟨e0, e1, hE⟩ : ∃ e0 e1, insAtT l0 pc = (e0, e1) := ⟨_, _, rfl⟩
  have HE := Lib.hid hE
  clear hE
  have hsame : sameL [e0, e1] [e0, e1] = true := by simp [sameL]
  have hif : (if n0 ≤ 1048576 then 1048576 - (n0 : Int) else -1) = 1048576 - (n0 : Int) := if_pos hbig
  have hl1 : l0.length ≤ 1048577 := by omega
  have hx1 : (twosI l0).length ≤ 2097152 := by rw [twosI_length]; omega
  have hl2 := Lib.hid hl1
  have hx0 := Lib.hid hx1
  clear hl1 hx1
  have HN := Lib.hid hn0
  clear hn0
  have K0 := Keep.refl 0 0 w
  go_enter Try.func11, Try.ntmps11
  go_wp2_with fail
  refine (szInsS_any A0 n0 c0 hc0 _).mono ?_
  rintro e w' ⟨rfl, rfl⟩
  rw [hif]
  clear hif
  go_wp2_with fail
  refine (toInsS_any _ _ _ _ rb0 hx0.out).mono ?_
  rintro e W1 ⟨va, rfl, rva, k1⟩
  have s1 := k1.size
  have K1 := K0.tr0 k1
  clear K0 k1
  go_wp2_with fail
  refine (specInsAt_any _ _ _ l0 pc rva.rd hl2.out e0 e1 HE.out).mono ?_
  rintro e W2 ⟨rfl, k2⟩
  have s2 := k2.size
  have K2 := K1.tr0 k2
  replace rva := rva.keep k2 (.inr (.inr (Nat.le_refl 0)))
  clear K1 k2
  clear rva
  replace K2 := K2.alloc (.cells #[.int .i64 e0, .int .i64 e1] 50)
  go_wp2_with fail
  refine (toInsS_any _ _ _ _ (rb0.keep K2 (Nat.le_refl _) (.inr (Nat.le_refl 0))) hx0.out).mono ?_
  rintro e W3 ⟨vx, rfl, rvx, k3⟩
  have s3 := k3.size
  have K3 := K2.tr0 k3
  clear K2
  go_wp2_with fail
  refine (implInsAt_any _ _ _ l0 pc rvx.rd hl2.out e0 e1 HE.out).mono ?_
  rintro e W4 ⟨rfl, k4⟩
  have s4 := k4.size
  have K4 := K3.tr0 k4
  replace rvx := rvx.keep k4 (.inr (.inr (Nat.le_refl 0)))
  clear K3
  have L := k3.tr0 k4
  have z := L.size
  simp at z
  have d0 : ∀ X, (W4.alloc X).cell? ⟨W2.heap.size, 0, none⟩ = some (.int .i64 e0) := fun X => (World.cell?_alloc_lt W4 X ⟨W2.heap.size, 0, none⟩ (by exact z)).trans ((L.cell0 (p := ⟨W2.heap.size, 0, none⟩) (by simp)).trans (by go_cell))
  have d1 : ∀ X, (W4.alloc X).cell? ⟨W2.heap.size, 1, none⟩ = some (.int .i64 e1) := fun X => (World.cell?_alloc_lt W4 X ⟨W2.heap.size, 1, none⟩ (by exact z)).trans ((L.cell0 (p := ⟨W2.heap.size, 1, none⟩) (by simp)).trans (by go_cell))
  clear k3 k4 L z
  replace rvx := rvx.keep (keep_1 W4 (.cells #[.int .i64 e0, .int .i64 e1] 50)) (.inr (.inr (Nat.le_refl 0)))
  replace K4 := K4.alloc (.cells #[.int .i64 e0, .int .i64 e1] 50)
  go_wp2_with fail
  refine (eqIns_any e0 e1 e0 e1 _).mono ?_
  rintro e W5 ⟨rfl, k5⟩
  have s5 := k5.size
  have K5 := K4.tr0 k5
  replace rvx := rvx.keep k5 (.inr (.inr (Nat.le_refl 0)))
  clear K4 k5
  clear d0 d1
  go_wp2_with fail
  refine (toInsS_any _ _ _ _ (rb0.keep K5 (Nat.le_refl _) (.inr (Nat.le_refl 0))) hx0.out).mono ?_
  rintro e W6 ⟨vt, rfl, rvt, k6⟩
  have s6 := k6.size
  have K6 := K5.tr0 k6
  replace rvx := rvx.keep k6 (.inr (.inr (Nat.le_refl 0)))
  clear K5 k6
  go_wp2_with fail
  refine (eqInsS_any _ _ _ _ _ _ _ rvx.rd rvt.rd).mono ?_
  rintro e W7 ⟨rfl, k7⟩
  have s7 := k7.size
  have K7 := K6.tr0 k7
  replace rvx := rvx.keep k7 (.inr (.inr (Nat.le_refl 0)))
  replace rvt := rvt.keep k7 (.inr (.inr (Nat.le_refl 0)))
  clear K6 k7
  simp only [decide_true]
  go_wp2
  go_ret
  exact ⟨rfl, K7.below⟩

set_option maxRecDepth 100000 in
theorem lifted (os : Os) (started : os.Started) (H : Type) (enc : TypeId × Value → H) :
    ReturnsInHanded {} Try.checked os 11 .any (Rows.fnExactInsAtSpec.pre6 enc Try.prog Try.f11 Rows.fnExactInsAtRow.domain false) (Rows.fnExactInsAtSpec.post enc Try.prog Try.f11 false true false false) := by
  refine returnsInHanded_of_change (C := Try.checked) own started (by kernel_rfl) Try.func11
    (ChangeSpec.witness6 (enc := enc) (C := Try.checked) false ⟨#[], #[.slice none 0 0, .int .i64 0], []⟩ 8 (by kernel_rfl) (by kernel_rfl) (by kernel_rfl) (by kernel_rfl)) ?_
  intro W base args ds gs before hval0 hW hcnd _
  have hval : ∀ (j : Nat) t v, Try.f11.params[j]? = some t → args[j]? = some v → Value.okWide Try.prog W .any base t v := hval0
  have hW' := hW
  obtain ⟨p, q, hA0, hV, rfl, hfz, hnd⟩ := hW
  have hA : DataW.TrodAll enc Try.prog W 0 (fun _ => true) true Try.f11.params.toList args.toList ds p := hA0
  rw [Try.params11] at hA hval
  obtain ⟨v0, vs0, d0, ds0, p0, q0, hargs, rfl, rfl, h0, r0⟩ := trodAll_cons hA
  obtain ⟨v1, vs1, d1, ds1, p1, q1, rfl, rfl, rfl, h1, r1⟩ := trodAll_cons r0
  obtain ⟨rfl, rfl, rfl⟩ := trodAll_nil r1
  obtain rfl : args = #[v0, v1] := by cases args; simp_all
  obtain ⟨rfl, rfl⟩ := trodVars_none hV
  have k0 := h0
  have lt0 : ∀ x ∈ p0, x.block < W.heap.size := by obtain ⟨m, hm⟩ := k0; exact DataW.trod_lt m _ _ _ hm
  obtain ⟨A0, n0, cap0, rfl⟩ := okWide_slice Try.underlying47 (hval 0 47 v0 rfl rfl)
  obtain ⟨xs0, rb0, hl0⟩ := open_flat Try.underlying47 Try.underlying68 (by kernel_rfl) (by kernel_rfl) (by intro j f hf; rcases j with _ | _ | j <;> simp at hf <;> subst hf <;> exact Try.underlying3) (by decide) h0
  have k1 := h1
  have lt1 : ∀ x ∈ p1, x.block < W.heap.size := by obtain ⟨m, hm⟩ := k1; exact DataW.trod_lt m _ _ _ hm
  obtain ⟨a1, rfl, _, _, w1⟩ := open_int Try.underlying3 (hval 1 3 v1 rfl rfl) h1
  clear hA0 hval0
  refine (walk W A0 n0 cap0 xs0 rb0 hl0 a1 w1).mono fun e W' ⟨he, bel⟩ => ?_
  subst he
  exact ⟨_, rfl, _, _, _, [], _, [], hW', trodAll_mk1 (shut_bool Try.underlying4 _), (trodAll_cons_mk (Below.trod laidOut (by kernel_rfl) (of_decide_eq_true (by kernel_rfl)) k0 bel lt0) (trodAll_cons_mk (Below.trod laidOut (by kernel_rfl) (of_decide_eq_true (by kernel_rfl)) k1 bel lt1) trodAll_mk0)), rfl, bel.frame _, fun h => by cases h⟩

theorem over : Rows.fnExactInsAtRow.holds Try.pinned (OpenSpec.ofChange Rows.fnExactInsAtSpec) :=
  OpenClaim.holds_of_wide 11 Try.f11 rfl rfl rfl rfl rfl rfl rfl ⟨rfl, rfl, rfl, rfl, rfl⟩ rfl rfl rfl rfl rfl (by kernel_rfl) Try.func11 (by kernel_rfl)
    (of_decide_eq_true (by kernel_rfl)) (by unfold Func.isWrapper; first | (rw [if_pos (by decide +kernel)]; kernel_rfl) | (rw [if_neg (by decide +kernel)]; exact ⟨rfl, rfl⟩))
    (fun os started H enc _ => lifted os started H enc)

/-- The given statement. -/
theorem proved : Rows.FnExactInsAtSaid := over
end Go.Proofs.Ytiakihknknignaa.fnExactInsAt
