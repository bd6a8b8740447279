/-
  For every slice of entries and every two integers the program's FindEntry returns what the reference's returns and leaves the slice alone. No condition.
-/
import Derived.Test.YtiakihknknignaaRows
import Derived.WalkKit
import Derived.ProofKit
import Derived.OpenShut
import Derived.ShutString
import Derived.ChangeOld
import Derived.Below
import Derived.Lib.SmallJoins
import Derived.WalkSpells
import Derived.Test.YtiakihknknignaaFind
import Derived.Test.YtiakihknknignaaOpen
import Derived.Handy
namespace Go.Proofs.Ytiakihknknignaa.fnExactFindEntry
open Go.ChangeShapes Go.WideShapes Go.ChangeAt Go.RowKit
set_option linter.unusedVariables false

theorem own : ownKnob Try.prog.godebug = none := by kernel_rfl
theorem laidOut : laidOutB Try.prog = true := by kernel_rfl

set_option maxHeartbeats 4000000 in
theorem walk (w : World) (A : Option Addr) (n c : Nat) (xs : List Int) (rb : Rd w w.heap.size 4 (.slice A n c) (ints xs)) (hl : xs.length = n * 4) (t : Int) (wt : (Lit.int .i64 t).wf = true) (p : Int) (wp : (Lit.int .i64 p).wf = true) :
    Calls Try.prog 3 #[.slice A n c, .int .i64 t, .int .i64 p] w fun e w' => e = .returned (.bool true) ∧ Below w.heap.size w w' := by
  clear wt wp
  obtain ⟨l, rfl, hn⟩ := ents_of hl
  have hc9 : n ≤ 9223372036854775807 := by obtain ⟨_, _, _, e, h1, h2, _⟩ := rb; injection e with _ e2 e3; unfold maxLen at h2; omega
  clear hl
  have HN := Lib.hid hn
  by_cases hbig : n ≤ 1048576
  rotate_left
  · have hif : (if n ≤ 1048576 then 1048576 - (n : Int) else -1) = -1 := if_neg hbig
    go_enter Try.func3, Try.ntmps3
    go_wp2_with fail
    refine (szEntryS_any A n c hc9 _).mono ?_
    rintro e w' ⟨rfl, rfl⟩
    rw [hif]
    clear hif
    go_wp2
    go_ret
    exact ⟨rfl, Below.refl _ _⟩
  have hif : (if n ≤ 1048576 then 1048576 - (n : Int) else -1) = 1048576 - (n : Int) := if_pos hbig
  have hl1 : l.length ≤ 1048577 := by omega
  have hx4 : (entsI l).length ≤ 4194304 := by rw [entsI_length]; omega
  have hl2 := Lib.hid hl1
  have hx5 := Lib.hid hx4
  clear hn hl1 hx4
  obtain ⟨e0, e1, e2, e3, hE⟩ : ∃ e0 e1 e2 e3, findT l t p = (e0, e1, e2, e3) := ⟨_, _, _, _, rfl⟩
  obtain ⟨q, hq⟩ : ∃ q, hasE l t p = q := ⟨_, rfl⟩
  have HE := Lib.hid hE
  have HQ := Lib.hid hq
  clear hE hq
  have hsame : sameL [e0, e1, e2, e3] [e0, e1, e2, e3] = true := by simp [sameL]
  have K0 := Keep.refl 0 0 w
  go_enter Try.func3, Try.ntmps3
  go_wp2_with fail
  refine (szEntryS_any A n c hc9 _).mono ?_
  rintro e w' ⟨rfl, rfl⟩
  rw [hif]
  clear hif
  go_wp2_with fail
  refine (toEntryS_any _ _ _ _ rb hx5.out).mono ?_
  rintro e W1 ⟨va, rfl, rva, k1⟩
  have s1 := k1.size
  have K1 := K0.tr0 k1
  clear K0 k1
  go_wp2_with fail
  refine (specFindEntry_to _ _ _ l t p rva.rd hl2.out e0 e1 e2 e3 q HE.out HQ.out).mono ?_
  rintro e W2 ⟨rfl, k2⟩
  have s2 := k2.size
  have K2 := K1.tr0 k2
  replace rva := rva.keep k2 (.inr (.inr (Nat.le_refl 0)))
  clear K1 k2
  clear rva
  replace K2 := K2.alloc (.cells #[.int .i64 e0, .int .i64 e1, .int .i64 e2, .int .i64 e3] 25)
  go_wp2_with fail
  refine (toEntryS_any _ _ _ _ (rb.keep K2 (Nat.le_refl _) (.inr (Nat.le_refl 0))) hx5.out).mono ?_
  rintro e W3 ⟨vx, rfl, rvx, k3⟩
  have s3 := k3.size
  have K3 := K2.tr0 k3
  clear K2
  go_wp2_with fail
  refine (implFindEntry_to _ _ _ l t p rvx.rd hl2.out e0 e1 e2 e3 q HE.out HQ.out).mono ?_
  rintro e W4 ⟨rfl, k4⟩
  have s4 := k4.size
  have K4 := K3.tr0 k4
  replace rvx := rvx.keep k4 (.inr (.inr (Nat.le_refl 0)))
  clear K3
  have L := k3.tr0 k4
  have z := L.size
  simp at z
  have d0 : ∀ X, (W4.alloc X).cell? ⟨W2.heap.size, 0, none⟩ = some (.int .i64 e0) := fun X => (World.cell?_alloc_lt W4 X ⟨W2.heap.size, 0, none⟩ (by exact z)).trans ((L.cell0 (p := ⟨W2.heap.size, 0, none⟩) (by simp)).trans (by go_cell))
  have d1 : ∀ X, (W4.alloc X).cell? ⟨W2.heap.size, 1, none⟩ = some (.int .i64 e1) := fun X => (World.cell?_alloc_lt W4 X ⟨W2.heap.size, 1, none⟩ (by exact z)).trans ((L.cell0 (p := ⟨W2.heap.size, 1, none⟩) (by simp)).trans (by go_cell))
  have d2 : ∀ X, (W4.alloc X).cell? ⟨W2.heap.size, 2, none⟩ = some (.int .i64 e2) := fun X => (World.cell?_alloc_lt W4 X ⟨W2.heap.size, 2, none⟩ (by exact z)).trans ((L.cell0 (p := ⟨W2.heap.size, 2, none⟩) (by simp)).trans (by go_cell))
  have d3 : ∀ X, (W4.alloc X).cell? ⟨W2.heap.size, 3, none⟩ = some (.int .i64 e3) := fun X => (World.cell?_alloc_lt W4 X ⟨W2.heap.size, 3, none⟩ (by exact z)).trans ((L.cell0 (p := ⟨W2.heap.size, 3, none⟩) (by simp)).trans (by go_cell))
  clear k3 k4 L z
  replace rvx := rvx.keep (keep_1 W4 (.cells #[.int .i64 e0, .int .i64 e1, .int .i64 e2, .int .i64 e3] 25)) (.inr (.inr (Nat.le_refl 0)))
  replace K4 := K4.alloc (.cells #[.int .i64 e0, .int .i64 e1, .int .i64 e2, .int .i64 e3] 25)
  go_wp2_with fail
  refine (eqEntry_any e0 e1 e2 e3 e0 e1 e2 e3 _).mono ?_
  rintro e W5 ⟨rfl, k5⟩
  have s5 := k5.size
  have K5 := K4.tr0 k5
  replace rvx := rvx.keep k5 (.inr (.inr (Nat.le_refl 0)))
  clear K4 k5
  clear d0 d1 d2 d3
  go_wp2_with fail
  refine (toEntryS_any _ _ _ _ (rb.keep K5 (Nat.le_refl _) (.inr (Nat.le_refl 0))) hx5.out).mono ?_
  rintro e W6 ⟨vt, rfl, rvt, k6⟩
  have s6 := k6.size
  have K6 := K5.tr0 k6
  replace rvx := rvx.keep k6 (.inr (.inr (Nat.le_refl 0)))
  clear K5 k6
  go_wp2_with fail
  refine (eqEntryS_any _ _ _ _ _ _ _ rvx.rd rvt.rd).mono ?_
  rintro e W7 ⟨rfl, k7⟩
  have s7 := k7.size
  have K7 := K6.tr0 k7
  replace rvx := rvx.keep k7 (.inr (.inr (Nat.le_refl 0)))
  replace rvt := rvt.keep k7 (.inr (.inr (Nat.le_refl 0)))
  clear K6 k7
  simp only [decide_true]
  go_wp2
  go_ret
  exact ⟨rfl, K7.below⟩

set_option maxRecDepth 100000 in
theorem lifted (os : Os) (started : os.Started) (H : Type) (enc : TypeId × Value → H) :
    ReturnsInHanded {} Try.checked os 3 .any (Rows.fnExactFindEntrySpec.pre6 enc Try.prog Try.f3 Rows.fnExactFindEntryRow.domain false) (Rows.fnExactFindEntrySpec.post enc Try.prog Try.f3 false true false false) := by
  refine returnsInHanded_of_change (C := Try.checked) own started (by kernel_rfl) Try.func3
    (ChangeSpec.witness6 (enc := enc) (C := Try.checked) false ⟨#[], #[.slice none 0 0, .int .i64 0, .int .i64 0], []⟩ 8 (by kernel_rfl) (by kernel_rfl) (by kernel_rfl) (by kernel_rfl)) ?_
  intro W base args ds gs before hval0 hW hcnd _
  have hval : ∀ (j : Nat) t v, Try.f3.params[j]? = some t → args[j]? = some v → Value.okWide Try.prog W .any base t v := hval0
  have hW' := hW
  obtain ⟨p, q, hA0, hV, rfl, hfz, hnd⟩ := hW
  have hA : DataW.TrodAll enc Try.prog W 0 (fun _ => true) true Try.f3.params.toList args.toList ds p := hA0
  rw [Try.params3] at hA hval
  obtain ⟨v0, vs0, d0, ds0, p0, q0, hargs, rfl, rfl, h0, r0⟩ := trodAll_cons hA
  obtain ⟨v1, vs1, d1, ds1, p1, q1, rfl, rfl, rfl, h1, r1⟩ := trodAll_cons r0
  obtain ⟨v2, vs2, d2, ds2, p2, q2, rfl, rfl, rfl, h2, r2⟩ := trodAll_cons r1
  obtain ⟨rfl, rfl, rfl⟩ := trodAll_nil r2
  obtain rfl : args = #[v0, v1, v2] := by cases args; simp_all
  obtain ⟨rfl, rfl⟩ := trodVars_none hV
  have k0 := h0
  have lt0 : ∀ x ∈ p0, x.block < W.heap.size := by obtain ⟨m, hm⟩ := k0; exact DataW.trod_lt m _ _ _ hm
  obtain ⟨A0, n0, cap0, rfl⟩ := okWide_slice Try.underlying22 (hval 0 22 v0 rfl rfl)
  obtain ⟨xs0, rb0, hl0⟩ := open_flat Try.underlying22 Try.underlying39 (by kernel_rfl) (by kernel_rfl) (by intro j f hf; rcases j with _ | _ | _ | _ | j <;> simp at hf <;> subst hf <;> exact Try.underlying3) (by decide) h0
  have k1 := h1
  have lt1 : ∀ x ∈ p1, x.block < W.heap.size := by obtain ⟨m, hm⟩ := k1; exact DataW.trod_lt m _ _ _ hm
  obtain ⟨a1, rfl, _, _, w1⟩ := open_int Try.underlying3 (hval 1 3 v1 rfl rfl) h1
  have k2 := h2
  have lt2 : ∀ x ∈ p2, x.block < W.heap.size := by obtain ⟨m, hm⟩ := k2; exact DataW.trod_lt m _ _ _ hm
  obtain ⟨a2, rfl, _, _, w2⟩ := open_int Try.underlying3 (hval 2 3 v2 rfl rfl) h2
  clear hA0 hval0
  refine (walk W A0 n0 cap0 xs0 rb0 hl0 a1 w1 a2 w2).mono fun e W' ⟨he, bel⟩ => ?_
  subst he
  exact ⟨_, rfl, _, _, _, [], _, [], hW', trodAll_mk1 (shut_bool Try.underlying4 _), (trodAll_cons_mk (Below.trod laidOut (by kernel_rfl) (of_decide_eq_true (by kernel_rfl)) k0 bel lt0) (trodAll_cons_mk (Below.trod laidOut (by kernel_rfl) (of_decide_eq_true (by kernel_rfl)) k1 bel lt1) (trodAll_cons_mk (Below.trod laidOut (by kernel_rfl) (of_decide_eq_true (by kernel_rfl)) k2 bel lt2) trodAll_mk0))), rfl, bel.frame _, fun h => by cases h⟩

theorem over : Rows.fnExactFindEntryRow.holds Try.pinned (OpenSpec.ofChange Rows.fnExactFindEntrySpec) :=
  OpenClaim.holds_of_wide 3 Try.f3 rfl rfl rfl rfl rfl rfl rfl ⟨rfl, rfl, rfl, rfl, rfl⟩ rfl rfl rfl rfl rfl (by kernel_rfl) Try.func3 (by kernel_rfl)
    (of_decide_eq_true (by kernel_rfl)) (by unfold Func.isWrapper; first | (rw [if_pos (by decide +kernel)]; kernel_rfl) | (rw [if_neg (by decide +kernel)]; exact ⟨rfl, rfl⟩))
    (fun os started H enc _ => lifted os started H enc)

/-- The given statement. -/
theorem proved : Rows.FnExactFindEntrySaid := over
end Go.Proofs.Ytiakihknknignaa.fnExactFindEntry
