/-
  For every slice of entries and every entry the program's PutEntry returns what the reference's returns, leaves the slice alone, and hands back memory of its own. No condition.
-/
import Derived.Test.YtiakihknknignaaRows
import Derived.WalkKit
import Derived.ProofKit
import Derived.OpenShut
import Derived.ShutString
import Derived.ChangeOld
import Derived.Below
import Derived.Lib.SmallJoins
import Derived.WalkSpells
import Derived.Test.YtiakihknknignaaPut
import Derived.Test.YtiakihknknignaaOpen
import Derived.Handy
import Derived.Deep.RegionHeld3
namespace Go.Proofs.Ytiakihknknignaa.fnExactPutEntry
open Go.ChangeShapes Go.WideShapes Go.ChangeAt Go.RowKit
set_option linter.unusedVariables false

theorem own : ownKnob Try.prog.godebug = none := by kernel_rfl
theorem laidOut : laidOutB Try.prog = true := by kernel_rfl

set_option maxHeartbeats 8000000 in
theorem walk (w : World) (A : Option Addr) (n c : Nat) (xs : List Int) (rb0 : Rd w w.heap.size 4 (.slice A n c) (ints xs)) (hl : xs.length = n * 4) (x0 : Int) (wx0 : (Lit.int .i64 x0).wf = true) (x1 : Int) (wx1 : (Lit.int .i64 x1).wf = true) (x2 : Int) (wx2 : (Lit.int .i64 x2).wf = true) (x3 : Int) (wx3 : (Lit.int .i64 x3).wf = true) :
    Calls Try.prog 8 #[.slice A n c, .agg #[.int .i64 x0, .int .i64 x1, .int .i64 x2, .int .i64 x3]] w fun e w' => e = .returned (.bool true) ∧ Below w.heap.size w w' := by
  clear wx0 wx1 wx2 wx3
  have KK := keep_1 w (.cells #[.int .i64 x0, .int .i64 x1, .int .i64 x2, .int .i64 x3] 39)
  have rb := (rb0.keep KK (Nat.le_refl _) (.inr (Nat.le_refl 0))).mono KK.size
  clear rb0
  obtain ⟨l, rfl, hn⟩ := ents_of hl
  have hc9 : n ≤ 9223372036854775807 := by obtain ⟨_, _, _, e, h1, h2, _⟩ := rb; injection e with _ e2 e3; unfold maxLen at h2; omega
  clear hl
  have HN := Lib.hid hn
  by_cases hbig : n ≤ 1048576
  rotate_left
  · have hif : (if n ≤ 1048576 then 1048576 - (n : Int) else -1) = -1 := if_neg hbig
    go_enter Try.func8, Try.ntmps8
    go_wp2_with fail
    refine (szEntryS_any A n c hc9 _).mono ?_
    rintro e w' ⟨rfl, rfl⟩
    rw [hif]
    clear hif
    go_wp2
    go_ret
    exact ⟨rfl, by first | exact Below.refl _ _ | exact (keep_1 _ _).below⟩
  have hif : (if n ≤ 1048576 then 1048576 - (n : Int) else -1) = 1048576 - (n : Int) := if_pos hbig
  have hl1 : l.length ≤ 1048576 := by omega
  obtain ⟨R, hR⟩ : ∃ R, R = putT l (x0, x1, x2, x3) := ⟨_, rfl⟩
  have hr1 : R.length ≤ 1048577 := by rw [hR]; exact by unfold putT; rw [List.length_drop]; omega
  have HR := Lib.hid hR
  obtain ⟨NX, hNX⟩ : ∃ N, (ints (entsI l)).length = N := ⟨_, rfl⟩
  obtain ⟨NG, hNG⟩ : ∃ N, (ints (entsI R)).length = N := ⟨_, rfl⟩
  have hx9 : NX ≤ 4194308 := by rw [← hNX, ints_length, entsI_length]; omega
  have hg9 : NG ≤ 4194308 := by rw [← hNG, ints_length, entsI_length]; omega
  have HX := Lib.hid hNX
  have HG := Lib.hid hNG
  have hx4 : (entsI l).length ≤ 4194304 := by rw [entsI_length]; omega
  have hl2 := Lib.hid hl1
  have hx5 := Lib.hid hx4
  clear hR hNX hNG hn hl1 hx4
  have bx0 : w.heap.size < (w.alloc (.cells #[.int .i64 x0, .int .i64 x1, .int .i64 x2, .int .i64 x3] 39)).heap.size := by simp
  have bc00 : (w.alloc (.cells #[.int .i64 x0, .int .i64 x1, .int .i64 x2, .int .i64 x3] 39)).cell? ⟨w.heap.size, 0, none⟩ = some (.int .i64 x0) := by go_cell
  have bc01 : (w.alloc (.cells #[.int .i64 x0, .int .i64 x1, .int .i64 x2, .int .i64 x3] 39)).cell? ⟨w.heap.size, 1, none⟩ = some (.int .i64 x1) := by go_cell
  have bc02 : (w.alloc (.cells #[.int .i64 x0, .int .i64 x1, .int .i64 x2, .int .i64 x3] 39)).cell? ⟨w.heap.size, 2, none⟩ = some (.int .i64 x2) := by go_cell
  have bc03 : (w.alloc (.cells #[.int .i64 x0, .int .i64 x1, .int .i64 x2, .int .i64 x3] 39)).cell? ⟨w.heap.size, 3, none⟩ = some (.int .i64 x3) := by go_cell
  have c00_0 := bc00
  have c01_0 := bc01
  have c02_0 := bc02
  have c03_0 := bc03
  have HS := Lib.hid (show ∀ w' : World, Keep 0 0 (w.alloc (.cells #[.int .i64 x0, .int .i64 x1, .int .i64 x2, .int .i64 x3] 39)) w' → w'.cell? ⟨w.heap.size, 0, none⟩ = some (.int .i64 x0) ∧ w'.cell? ⟨w.heap.size, 1, none⟩ = some (.int .i64 x1) ∧ w'.cell? ⟨w.heap.size, 2, none⟩ = some (.int .i64 x2) ∧ w'.cell? ⟨w.heap.size, 3, none⟩ = some (.int .i64 x3) ∧ Keep 0 0 (w.alloc (.cells #[.int .i64 x0, .int .i64 x1, .int .i64 x2, .int .i64 x3] 39)) w' from fun w' h => ⟨(h.cell0 (p := ⟨w.heap.size, 0, none⟩) (by exact bx0)).trans bc00, (h.cell0 (p := ⟨w.heap.size, 1, none⟩) (by exact bx0)).trans bc01, (h.cell0 (p := ⟨w.heap.size, 2, none⟩) (by exact bx0)).trans bc02, (h.cell0 (p := ⟨w.heap.size, 3, none⟩) (by exact bx0)).trans bc03, h⟩)
  have HS2 := Lib.hid (show ∀ w1 w2 : World, (w1.cell? ⟨w.heap.size, 0, none⟩ = some (.int .i64 x0) ∧ w1.cell? ⟨w.heap.size, 1, none⟩ = some (.int .i64 x1) ∧ w1.cell? ⟨w.heap.size, 2, none⟩ = some (.int .i64 x2) ∧ w1.cell? ⟨w.heap.size, 3, none⟩ = some (.int .i64 x3) ∧ Keep 0 0 (w.alloc (.cells #[.int .i64 x0, .int .i64 x1, .int .i64 x2, .int .i64 x3] 39)) w1) → Keep 0 0 w1 w2 → w2.cell? ⟨w.heap.size, 0, none⟩ = some (.int .i64 x0) ∧ w2.cell? ⟨w.heap.size, 1, none⟩ = some (.int .i64 x1) ∧ w2.cell? ⟨w.heap.size, 2, none⟩ = some (.int .i64 x2) ∧ w2.cell? ⟨w.heap.size, 3, none⟩ = some (.int .i64 x3) ∧ Keep 0 0 (w.alloc (.cells #[.int .i64 x0, .int .i64 x1, .int .i64 x2, .int .i64 x3] 39)) w2 from fun w1 w2 h k => HS.out _ (h.2.2.2.2.tr0 k))
  have K0 := Keep.refl 0 0 (w.alloc (.cells #[.int .i64 x0, .int .i64 x1, .int .i64 x2, .int .i64 x3] 39))
  go_enter Try.func8, Try.ntmps8
  go_wp2_with fail
  refine (szEntryS_any A n c hc9 _).mono ?_
  rintro e w' ⟨rfl, rfl⟩
  rw [hif]
  clear hif
  go_wp2_with fail
  have rbD := rb.keep K0.drew (Nat.le_refl _) (.inr (Nat.le_refl 0))
  go_region_held3 (fun w' => w'.cell? ⟨w.heap.size, 0, none⟩ = some (.int .i64 x0) ∧ w'.cell? ⟨w.heap.size, 1, none⟩ = some (.int .i64 x1) ∧ w'.cell? ⟨w.heap.size, 2, none⟩ = some (.int .i64 x2) ∧ w'.cell? ⟨w.heap.size, 3, none⟩ = some (.int .i64 x3) ∧ Keep 0 0 (w.alloc (.cells #[.int .i64 x0, .int .i64 x1, .int .i64 x2, .int .i64 x3] 39)) w')
    (first | (with_reducible exact HS.out _ K0.drew) | (refine HS2.out ?_ _ ?_ ?_; rotate_right; (with_reducible assumption); (with_reducible assumption)) | fail)
    (first
      | (go_at_call 16; refine (toEntryS_any _ _ _ _ rbD hx5.out).mono ?_; rintro e W1 ⟨va, rfl, rva, k1⟩)
      | (go_at_call 31; refine (toEntry_any _ _ _ _ _).mono ?_; rintro e W2 ⟨rfl, k2⟩)
      | (go_at_call 30; refine (specPutEntry_any _ _ _ l x0 x1 x2 x3 (rva.keep k2 (.inr (.inr (Nat.le_refl 0)))).rd k2.size hl2.out).mono ?_; rintro e W3 ⟨v0, rfl, r0, k3⟩)
      | fail)
  have kk0 := (((Keep.refl 0 0 _).drew.tr0 k1).tr0 k2).tr0 k3
  have s1 := kk0.size
  obtain ⟨c00_3, c01_3, c02_3, c03_3, K3⟩ : W3.cell? ⟨w.heap.size, 0, none⟩ = some (.int .i64 x0) ∧ W3.cell? ⟨w.heap.size, 1, none⟩ = some (.int .i64 x1) ∧ W3.cell? ⟨w.heap.size, 2, none⟩ = some (.int .i64 x2) ∧ W3.cell? ⟨w.heap.size, 3, none⟩ = some (.int .i64 x3) ∧ Keep 0 0 (w.alloc (.cells #[.int .i64 x0, .int .i64 x1, .int .i64 x2, .int .i64 x3] 39)) W3 := by with_reducible assumption
  clear rbD rva k1 k2 k3 kk0 K0 c00_0 c01_0 c02_0 c03_0
  rw [← HR.out] at r0
  go_wp2_with fail
  refine (toEntryS_any _ _ _ _ (rb.keep K3 (Nat.le_refl _) (.inr (Nat.le_refl 0))) hx5.out).mono ?_
  rintro e W4 ⟨vx, rfl, rvx, k4⟩
  have s4 := k4.size
  have K4 := K3.tr0 k4
  replace r0 := r0.keep k4 (.inr (.inr (Nat.le_refl 0)))
  have c00_4 : W4.cell? ⟨w.heap.size, 0, none⟩ = some (.int .i64 x0) := (K4.cell0 (p := ⟨w.heap.size, 0, none⟩) (by exact bx0)).trans bc00
  have c01_4 : W4.cell? ⟨w.heap.size, 1, none⟩ = some (.int .i64 x1) := (K4.cell0 (p := ⟨w.heap.size, 1, none⟩) (by exact bx0)).trans bc01
  have c02_4 : W4.cell? ⟨w.heap.size, 2, none⟩ = some (.int .i64 x2) := (K4.cell0 (p := ⟨w.heap.size, 2, none⟩) (by exact bx0)).trans bc02
  have c03_4 : W4.cell? ⟨w.heap.size, 3, none⟩ = some (.int .i64 x3) := (K4.cell0 (p := ⟨w.heap.size, 3, none⟩) (by exact bx0)).trans bc03
  clear K3 k4 c00_3 c01_3 c02_3 c03_3
  go_wp2_with fail
  refine (toEntry_any _ _ _ _ _).mono ?_
  rintro e W5 ⟨rfl, k5⟩
  have s5 := k5.size
  have K5 := K4.tr0 k5
  replace r0 := r0.keep k5 (.inr (.inr (Nat.le_refl 0)))
  replace rvx := rvx.keep k5 (.inr (.inr (Nat.le_refl 0)))
  have c00_5 : W5.cell? ⟨w.heap.size, 0, none⟩ = some (.int .i64 x0) := (K5.cell0 (p := ⟨w.heap.size, 0, none⟩) (by exact bx0)).trans bc00
  have c01_5 : W5.cell? ⟨w.heap.size, 1, none⟩ = some (.int .i64 x1) := (K5.cell0 (p := ⟨w.heap.size, 1, none⟩) (by exact bx0)).trans bc01
  have c02_5 : W5.cell? ⟨w.heap.size, 2, none⟩ = some (.int .i64 x2) := (K5.cell0 (p := ⟨w.heap.size, 2, none⟩) (by exact bx0)).trans bc02
  have c03_5 : W5.cell? ⟨w.heap.size, 3, none⟩ = some (.int .i64 x3) := (K5.cell0 (p := ⟨w.heap.size, 3, none⟩) (by exact bx0)).trans bc03
  clear K4 k5 c00_4 c01_4 c02_4 c03_4
  go_wp2_with fail
  refine (implPutEntry_any _ _ _ l x0 x1 x2 x3 rvx.rd (by omega) hl2.out).mono ?_
  rintro e W6 ⟨vg, rfl, rg, k6⟩
  have s6 := k6.size
  have K6 := K5.tr0 k6
  replace r0 := r0.keep k6 (.inr (.inr (Nat.le_refl 0)))
  replace rvx := rvx.keep k6 (.inr (.inr (Nat.le_refl 0)))
  have c00_6 : W6.cell? ⟨w.heap.size, 0, none⟩ = some (.int .i64 x0) := (K6.cell0 (p := ⟨w.heap.size, 0, none⟩) (by exact bx0)).trans bc00
  have c01_6 : W6.cell? ⟨w.heap.size, 1, none⟩ = some (.int .i64 x1) := (K6.cell0 (p := ⟨w.heap.size, 1, none⟩) (by exact bx0)).trans bc01
  have c02_6 : W6.cell? ⟨w.heap.size, 2, none⟩ = some (.int .i64 x2) := (K6.cell0 (p := ⟨w.heap.size, 2, none⟩) (by exact bx0)).trans bc02
  have c03_6 : W6.cell? ⟨w.heap.size, 3, none⟩ = some (.int .i64 x3) := (K6.cell0 (p := ⟨w.heap.size, 3, none⟩) (by exact bx0)).trans bc03
  clear K5 k6 c00_5 c01_5 c02_5 c03_5
  rw [← HR.out] at rg
  go_wp2_with fail
  refine (eqEntryS_any _ _ _ _ _ _ _ rg.rd r0.rd).mono ?_
  rintro e W7 ⟨rfl, k7⟩
  have s7 := k7.size
  have K7 := K6.tr0 k7
  replace r0 := r0.keep k7 (.inr (.inr (Nat.le_refl 0)))
  replace rvx := rvx.keep k7 (.inr (.inr (Nat.le_refl 0)))
  replace rg := rg.keep k7 (.inr (.inr (Nat.le_refl 0)))
  have c00_7 : W7.cell? ⟨w.heap.size, 0, none⟩ = some (.int .i64 x0) := (K7.cell0 (p := ⟨w.heap.size, 0, none⟩) (by exact bx0)).trans bc00
  have c01_7 : W7.cell? ⟨w.heap.size, 1, none⟩ = some (.int .i64 x1) := (K7.cell0 (p := ⟨w.heap.size, 1, none⟩) (by exact bx0)).trans bc01
  have c02_7 : W7.cell? ⟨w.heap.size, 2, none⟩ = some (.int .i64 x2) := (K7.cell0 (p := ⟨w.heap.size, 2, none⟩) (by exact bx0)).trans bc02
  have c03_7 : W7.cell? ⟨w.heap.size, 3, none⟩ = some (.int .i64 x3) := (K7.cell0 (p := ⟨w.heap.size, 3, none⟩) (by exact bx0)).trans bc03
  clear K6 k7 c00_6 c01_6 c02_6 c03_6
  simp only [decide_true]
  go_wp2_with fail
  refine (toEntryS_any _ _ _ _ (rb.keep K7 (Nat.le_refl _) (.inr (Nat.le_refl 0))) hx5.out).mono ?_
  rintro e W8 ⟨vt, rfl, rvt, k8⟩
  have s8 := k8.size
  have K8 := K7.tr0 k8
  replace r0 := r0.keep k8 (.inr (.inr (Nat.le_refl 0)))
  replace rvx := rvx.keep k8 (.inr (.inr (Nat.le_refl 0)))
  replace rg := rg.keep k8 (.inr (.inr (Nat.le_refl 0)))
  have c00_8 : W8.cell? ⟨w.heap.size, 0, none⟩ = some (.int .i64 x0) := (K8.cell0 (p := ⟨w.heap.size, 0, none⟩) (by exact bx0)).trans bc00
  have c01_8 : W8.cell? ⟨w.heap.size, 1, none⟩ = some (.int .i64 x1) := (K8.cell0 (p := ⟨w.heap.size, 1, none⟩) (by exact bx0)).trans bc01
  have c02_8 : W8.cell? ⟨w.heap.size, 2, none⟩ = some (.int .i64 x2) := (K8.cell0 (p := ⟨w.heap.size, 2, none⟩) (by exact bx0)).trans bc02
  have c03_8 : W8.cell? ⟨w.heap.size, 3, none⟩ = some (.int .i64 x3) := (K8.cell0 (p := ⟨w.heap.size, 3, none⟩) (by exact bx0)).trans bc03
  clear K7 k8 c00_7 c01_7 c02_7 c03_7
  go_wp2_with fail
  refine (eqEntryS_any _ _ _ _ _ _ _ rvx.rd rvt.rd).mono ?_
  rintro e W9 ⟨rfl, k9⟩
  have s9 := k9.size
  have K9 := K8.tr0 k9
  replace r0 := r0.keep k9 (.inr (.inr (Nat.le_refl 0)))
  replace rvx := rvx.keep k9 (.inr (.inr (Nat.le_refl 0)))
  replace rg := rg.keep k9 (.inr (.inr (Nat.le_refl 0)))
  replace rvt := rvt.keep k9 (.inr (.inr (Nat.le_refl 0)))
  have c00_9 : W9.cell? ⟨w.heap.size, 0, none⟩ = some (.int .i64 x0) := (K9.cell0 (p := ⟨w.heap.size, 0, none⟩) (by exact bx0)).trans bc00
  have c01_9 : W9.cell? ⟨w.heap.size, 1, none⟩ = some (.int .i64 x1) := (K9.cell0 (p := ⟨w.heap.size, 1, none⟩) (by exact bx0)).trans bc01
  have c02_9 : W9.cell? ⟨w.heap.size, 2, none⟩ = some (.int .i64 x2) := (K9.cell0 (p := ⟨w.heap.size, 2, none⟩) (by exact bx0)).trans bc02
  have c03_9 : W9.cell? ⟨w.heap.size, 3, none⟩ = some (.int .i64 x3) := (K9.cell0 (p := ⟨w.heap.size, 3, none⟩) (by exact bx0)).trans bc03
  clear K8 k9 c00_8 c01_8 c02_8 c03_8
  clear rvt
  simp only [decide_true]
  go_wp2_with fail
  refine (markEntryS_any _ _ _ _ _ NX HX.out 1 rvx (by omega) (by omega)).mono ?_
  rintro e W10 ⟨rfl, rvx2, k10⟩
  have s10 := k10.size
  have K10 := K9.trm k10 (by omega)
  replace r0 := r0.keep k10 (by omega)
  replace rg := rg.keep k10 (by omega)
  have c00_10 : W10.cell? ⟨w.heap.size, 0, none⟩ = some (.int .i64 x0) := (K10.cell0 (p := ⟨w.heap.size, 0, none⟩) (by exact bx0)).trans bc00
  have c01_10 : W10.cell? ⟨w.heap.size, 1, none⟩ = some (.int .i64 x1) := (K10.cell0 (p := ⟨w.heap.size, 1, none⟩) (by exact bx0)).trans bc01
  have c02_10 : W10.cell? ⟨w.heap.size, 2, none⟩ = some (.int .i64 x2) := (K10.cell0 (p := ⟨w.heap.size, 2, none⟩) (by exact bx0)).trans bc02
  have c03_10 : W10.cell? ⟨w.heap.size, 3, none⟩ = some (.int .i64 x3) := (K10.cell0 (p := ⟨w.heap.size, 3, none⟩) (by exact bx0)).trans bc03
  clear K9 k10 c00_9 c01_9 c02_9 c03_9
  clear rvx rvx2
  go_wp2_with fail
  refine (eqEntryS_any _ _ _ _ _ _ _ rg.rd r0.rd).mono ?_
  rintro e W11 ⟨rfl, k11⟩
  have s11 := k11.size
  have K11 := K10.tr0 k11
  replace r0 := r0.keep k11 (.inr (.inr (Nat.le_refl 0)))
  replace rg := rg.keep k11 (.inr (.inr (Nat.le_refl 0)))
  have c00_11 : W11.cell? ⟨w.heap.size, 0, none⟩ = some (.int .i64 x0) := (K11.cell0 (p := ⟨w.heap.size, 0, none⟩) (by exact bx0)).trans bc00
  have c01_11 : W11.cell? ⟨w.heap.size, 1, none⟩ = some (.int .i64 x1) := (K11.cell0 (p := ⟨w.heap.size, 1, none⟩) (by exact bx0)).trans bc01
  have c02_11 : W11.cell? ⟨w.heap.size, 2, none⟩ = some (.int .i64 x2) := (K11.cell0 (p := ⟨w.heap.size, 2, none⟩) (by exact bx0)).trans bc02
  have c03_11 : W11.cell? ⟨w.heap.size, 3, none⟩ = some (.int .i64 x3) := (K11.cell0 (p := ⟨w.heap.size, 3, none⟩) (by exact bx0)).trans bc03
  clear K10 k11 c00_10 c01_10 c02_10 c03_10
  simp only [decide_true]
  go_wp2_with fail
  refine (markEntryS_any _ _ _ _ _ NG HG.out 1 rg (by omega) (by omega)).mono ?_
  rintro e W12 ⟨rfl, rh, k12⟩
  have s12 := k12.size
  have K12 := K11.trm k12 (by omega)
  replace r0 := r0.keep k12 (by omega)
  have c00_12 : W12.cell? ⟨w.heap.size, 0, none⟩ = some (.int .i64 x0) := (K12.cell0 (p := ⟨w.heap.size, 0, none⟩) (by exact bx0)).trans bc00
  have c01_12 : W12.cell? ⟨w.heap.size, 1, none⟩ = some (.int .i64 x1) := (K12.cell0 (p := ⟨w.heap.size, 1, none⟩) (by exact bx0)).trans bc01
  have c02_12 : W12.cell? ⟨w.heap.size, 2, none⟩ = some (.int .i64 x2) := (K12.cell0 (p := ⟨w.heap.size, 2, none⟩) (by exact bx0)).trans bc02
  have c03_12 : W12.cell? ⟨w.heap.size, 3, none⟩ = some (.int .i64 x3) := (K12.cell0 (p := ⟨w.heap.size, 3, none⟩) (by exact bx0)).trans bc03
  clear K11 k12 c00_11 c01_11 c02_11 c03_11
  clear rg
  go_wp2_with fail
  refine (heldEntryS_any _ _ _ NG 1 rh.rd (by omega) (by omega)).mono ?_
  rintro e W13 ⟨rfl, d13⟩
  have k13 := d13.keep 0 0
  have s13 := k13.size
  have K13 := K12.tr0 k13
  replace r0 := r0.keep k13 (.inr (.inr (Nat.le_refl 0)))
  replace rh := rh.keep k13 (.inr (.inr (Nat.le_refl 0)))
  have c00_13 : W13.cell? ⟨w.heap.size, 0, none⟩ = some (.int .i64 x0) := (K13.cell0 (p := ⟨w.heap.size, 0, none⟩) (by exact bx0)).trans bc00
  have c01_13 : W13.cell? ⟨w.heap.size, 1, none⟩ = some (.int .i64 x1) := (K13.cell0 (p := ⟨w.heap.size, 1, none⟩) (by exact bx0)).trans bc01
  have c02_13 : W13.cell? ⟨w.heap.size, 2, none⟩ = some (.int .i64 x2) := (K13.cell0 (p := ⟨w.heap.size, 2, none⟩) (by exact bx0)).trans bc02
  have c03_13 : W13.cell? ⟨w.heap.size, 3, none⟩ = some (.int .i64 x3) := (K13.cell0 (p := ⟨w.heap.size, 3, none⟩) (by exact bx0)).trans bc03
  clear K12 k13 d13 c00_12 c01_12 c02_12 c03_12
  go_wp2_with fail
  have rbD := rb.keep K13.drew (Nat.le_refl _) (.inr (Nat.le_refl 0))
  go_region_held3 (fun w' => w'.cell? ⟨w.heap.size, 0, none⟩ = some (.int .i64 x0) ∧ w'.cell? ⟨w.heap.size, 1, none⟩ = some (.int .i64 x1) ∧ w'.cell? ⟨w.heap.size, 2, none⟩ = some (.int .i64 x2) ∧ w'.cell? ⟨w.heap.size, 3, none⟩ = some (.int .i64 x3) ∧ Keep 0 0 (w.alloc (.cells #[.int .i64 x0, .int .i64 x1, .int .i64 x2, .int .i64 x3] 39)) w')
    (first | (with_reducible exact HS.out _ K13.drew) | (refine HS2.out ?_ _ ?_ ?_; rotate_right; (with_reducible assumption); (with_reducible assumption)) | fail)
    (first
      | (go_at_call 16; refine (toEntryS_any _ _ _ _ rbD hx5.out).mono ?_; rintro e W14 ⟨vy, rfl, rvy, k14⟩)
      | (go_at_call 31; refine (toEntry_any _ _ _ _ _).mono ?_; rintro e W15 ⟨rfl, k15⟩)
      | (go_at_call 32; refine (implPutEntry_any _ _ _ l x0 x1 x2 x3 (rvy.keep k15 (.inr (.inr (Nat.le_refl 0)))).rd k15.size hl2.out).mono ?_; rintro e W16 ⟨vh, rfl, rk, k16⟩)
      | fail)
  have kk1 := (((Keep.refl 0 0 _).drew.tr0 k14).tr0 k15).tr0 k16
  replace r0 := r0.keep kk1 (.inr (.inr (Nat.le_refl 0)))
  replace rh := rh.keep kk1 (.inr (.inr (Nat.le_refl 0)))
  have s14 := kk1.size
  obtain ⟨c00_16, c01_16, c02_16, c03_16, K16⟩ : W16.cell? ⟨w.heap.size, 0, none⟩ = some (.int .i64 x0) ∧ W16.cell? ⟨w.heap.size, 1, none⟩ = some (.int .i64 x1) ∧ W16.cell? ⟨w.heap.size, 2, none⟩ = some (.int .i64 x2) ∧ W16.cell? ⟨w.heap.size, 3, none⟩ = some (.int .i64 x3) ∧ Keep 0 0 (w.alloc (.cells #[.int .i64 x0, .int .i64 x1, .int .i64 x2, .int .i64 x3] 39)) W16 := by with_reducible assumption
  clear rbD rvy k14 k15 k16 kk1 K13 c00_13 c01_13 c02_13 c03_13
  rw [← HR.out] at rk
  go_wp2_with fail
  refine (eqEntryS_any _ _ _ _ _ _ _ rk.rd r0.rd).mono ?_
  rintro e W17 ⟨rfl, k17⟩
  have s17 := k17.size
  have K17 := K16.tr0 k17
  replace r0 := r0.keep k17 (.inr (.inr (Nat.le_refl 0)))
  replace rh := rh.keep k17 (.inr (.inr (Nat.le_refl 0)))
  replace rk := rk.keep k17 (.inr (.inr (Nat.le_refl 0)))
  have c00_17 : W17.cell? ⟨w.heap.size, 0, none⟩ = some (.int .i64 x0) := (K17.cell0 (p := ⟨w.heap.size, 0, none⟩) (by exact bx0)).trans bc00
  have c01_17 : W17.cell? ⟨w.heap.size, 1, none⟩ = some (.int .i64 x1) := (K17.cell0 (p := ⟨w.heap.size, 1, none⟩) (by exact bx0)).trans bc01
  have c02_17 : W17.cell? ⟨w.heap.size, 2, none⟩ = some (.int .i64 x2) := (K17.cell0 (p := ⟨w.heap.size, 2, none⟩) (by exact bx0)).trans bc02
  have c03_17 : W17.cell? ⟨w.heap.size, 3, none⟩ = some (.int .i64 x3) := (K17.cell0 (p := ⟨w.heap.size, 3, none⟩) (by exact bx0)).trans bc03
  clear K16 k17 c00_16 c01_16 c02_16 c03_16
  simp only [decide_true]
  go_wp2_with fail
  refine (heldEntryS_any _ _ _ NG 1 rh.rd (by omega) (by omega)).mono ?_
  rintro e W18 ⟨rfl, d18⟩
  have k18 := d18.keep 0 0
  have s18 := k18.size
  have K18 := K17.tr0 k18
  replace r0 := r0.keep k18 (.inr (.inr (Nat.le_refl 0)))
  replace rh := rh.keep k18 (.inr (.inr (Nat.le_refl 0)))
  replace rk := rk.keep k18 (.inr (.inr (Nat.le_refl 0)))
  have c00_18 : W18.cell? ⟨w.heap.size, 0, none⟩ = some (.int .i64 x0) := (K18.cell0 (p := ⟨w.heap.size, 0, none⟩) (by exact bx0)).trans bc00
  have c01_18 : W18.cell? ⟨w.heap.size, 1, none⟩ = some (.int .i64 x1) := (K18.cell0 (p := ⟨w.heap.size, 1, none⟩) (by exact bx0)).trans bc01
  have c02_18 : W18.cell? ⟨w.heap.size, 2, none⟩ = some (.int .i64 x2) := (K18.cell0 (p := ⟨w.heap.size, 2, none⟩) (by exact bx0)).trans bc02
  have c03_18 : W18.cell? ⟨w.heap.size, 3, none⟩ = some (.int .i64 x3) := (K18.cell0 (p := ⟨w.heap.size, 3, none⟩) (by exact bx0)).trans bc03
  clear K17 k18 d18 c00_17 c01_17 c02_17 c03_17
  go_wp2
  go_ret
  exact ⟨rfl, (KK.tr0 K18).below⟩

set_option maxRecDepth 100000 in
theorem lifted (os : Os) (started : os.Started) (H : Type) (enc : TypeId × Value → H) :
    ReturnsInHanded {} Try.checked os 8 .any (Rows.fnExactPutEntrySpec.pre6 enc Try.prog Try.f8 Rows.fnExactPutEntryRow.domain false) (Rows.fnExactPutEntrySpec.post enc Try.prog Try.f8 false true false false) := by
  refine returnsInHanded_of_change (C := Try.checked) own started (by kernel_rfl) Try.func8
    (ChangeSpec.witness6 (enc := enc) (C := Try.checked) false ⟨#[], #[.slice none 0 0, .agg #[.int .i64 0, .int .i64 0, .int .i64 0, .int .i64 0]], []⟩ 8 (by kernel_rfl) (by kernel_rfl) (by kernel_rfl) (by kernel_rfl)) ?_
  intro W base args ds gs before hval0 hW hcnd _
  have hval : ∀ (j : Nat) t v, Try.f8.params[j]? = some t → args[j]? = some v → Value.okWide Try.prog W .any base t v := hval0
  have hW' := hW
  obtain ⟨p, q, hA0, hV, rfl, hfz, hnd⟩ := hW
  have hA : DataW.TrodAll enc Try.prog W 0 (fun _ => true) true Try.f8.params.toList args.toList ds p := hA0
  rw [Try.params8] at hA hval
  obtain ⟨v0, vs0, d0, ds0, p0, q0, hargs, rfl, rfl, h0, r0⟩ := trodAll_cons hA
  obtain ⟨v1, vs1, d1, ds1, p1, q1, rfl, rfl, rfl, h1, r1⟩ := trodAll_cons r0
  obtain ⟨rfl, rfl, rfl⟩ := trodAll_nil r1
  obtain rfl : args = #[v0, v1] := by cases args; simp_all
  obtain ⟨rfl, rfl⟩ := trodVars_none hV
  have k0 := h0
  have lt0 : ∀ x ∈ p0, x.block < W.heap.size := by obtain ⟨m, hm⟩ := k0; exact DataW.trod_lt m _ _ _ hm
  obtain ⟨A0, n0, cap0, rfl⟩ := okWide_slice Try.underlying22 (hval 0 22 v0 rfl rfl)
  obtain ⟨xs0, rb0, hl0⟩ := open_flat Try.underlying22 Try.underlying39 (by kernel_rfl) (by kernel_rfl) (by intro j f hf; rcases j with _ | _ | _ | _ | j <;> simp at hf <;> subst hf <;> exact Try.underlying3) (by decide) h0
  have k1 := h1
  have lt1 : ∀ x ∈ p1, x.block < W.heap.size := by obtain ⟨m, hm⟩ := k1; exact DataW.trod_lt m _ _ _ hm
  obtain ⟨c10, c11, c12, c13, y10, y11, y12, y13, m1, rfl, _, _, g10, g11, g12, g13⟩ := Go.Joins.open_agg4 Try.underlying39 (by kernel_rfl) (show Try.prog.cellsOf 39 = 4 by kernel_rfl) (hval 1 39 v1 rfl rfl) h1
  obtain ⟨a10, e10, _, w10⟩ := DataW.trod_int Try.underlying3 g10
  simp at e10; subst e10
  obtain ⟨a11, e11, _, w11⟩ := DataW.trod_int Try.underlying3 g11
  simp at e11; subst e11
  obtain ⟨a12, e12, _, w12⟩ := DataW.trod_int Try.underlying3 g12
  simp at e12; subst e12
  obtain ⟨a13, e13, _, w13⟩ := DataW.trod_int Try.underlying3 g13
  simp at e13; subst e13
  clear hA0 hval0
  refine (walk W A0 n0 cap0 xs0 rb0 hl0 a10 w10 a11 w11 a12 w12 a13 w13).mono fun e W' ⟨he, bel⟩ => ?_
  subst he
  exact ⟨_, rfl, _, _, _, [], _, [], hW', trodAll_mk1 (shut_bool Try.underlying4 _), (trodAll_cons_mk (Below.trod laidOut (by kernel_rfl) (of_decide_eq_true (by kernel_rfl)) k0 bel lt0) (trodAll_cons_mk (Below.trod laidOut (by kernel_rfl) (of_decide_eq_true (by kernel_rfl)) k1 bel lt1) trodAll_mk0)), rfl, bel.frame _, fun h => by cases h⟩

theorem over : Rows.fnExactPutEntryRow.holds Try.pinned (OpenSpec.ofChange Rows.fnExactPutEntrySpec) :=
  OpenClaim.holds_of_wide 8 Try.f8 rfl rfl rfl rfl rfl rfl rfl ⟨rfl, rfl, rfl, rfl, rfl⟩ rfl rfl rfl rfl rfl (by kernel_rfl) Try.func8 (by kernel_rfl)
    (of_decide_eq_true (by kernel_rfl)) (by unfold Func.isWrapper; first | (rw [if_pos (by decide +kernel)]; kernel_rfl) | (rw [if_neg (by decide +kernel)]; exact ⟨rfl, rfl⟩))
    (fun os started H enc _ => lifted os started H enc)

/-- The given statement. -/
theorem proved : Rows.FnExactPutEntrySaid := over
end Go.Proofs.Ytiakihknknignaa.fnExactPutEntry
