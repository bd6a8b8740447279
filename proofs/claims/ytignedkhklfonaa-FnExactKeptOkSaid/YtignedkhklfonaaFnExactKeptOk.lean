/-
  For every kept tables, inner and outer table the program's KeptOk answers what the reference's answers and leaves its arguments alone. No condition.
-/
import Derived.Test.YtignedkhklfonaaRows
import Derived.WalkKit
import Derived.ProofKit
import Derived.OpenShut
import Derived.ShutString
import Derived.ChangeOld
import Derived.Below
import Derived.Lib.SmallJoins
import Derived.WalkSpells
import Derived.Test.YtignedkhklfonaaKok
import Derived.Test.YtignedkhklfonaaOpen
import Derived.Test.YtignedkhklfonaaOne
import Derived.Handy
import Derived.Deep.RegionHeld3
import Derived.Deep.QuietTactic
import Derived.BigQuiet
namespace Go.Proofs.Ytignedkhklfonaa.fnExactKeptOk
open Go.ChangeShapes Go.WideShapes Go.ChangeAt Go.RowKit
set_option linter.unusedVariables false

theorem own : ownKnob Try.prog.godebug = none := by kernel_rfl
theorem laidOut : laidOutB Try.prog = true := by kernel_rfl

theorem cap_le {w : World} {hi sz n c : Nat} {A : Option Addr} {xs : List Value} (h : Rd w hi sz (.slice A n c) xs) : n ≤ 9223372036854775807 := by
  obtain ⟨_, _, _, e, h1, h2, _⟩ := h
  injection e with _ e2 e3
  unfold maxLen at h2
  omega
set_option maxRecDepth 100000 in
set_option maxHeartbeats 8000000 in
theorem walk (w : World) (A : Option Addr) (n c : Nat) (ks : List Bool) (ra0 : Rd w w.heap.size 1 (.slice A n c) (bols ks)) (hl0 : ks.length = n) (B : Option Addr) (m d : Nat) (xs : List Int) (rb0 : Rd w w.heap.size 2 (.slice B m d) (ints xs)) (hl1 : xs.length = m * 2) (I0 : Option Addr) (q0 f0 : Nat) (zs0 : List Int) (ri00 : Rd w w.heap.size 2 (.slice I0 q0 f0) (ints zs0)) (hz0 : zs0.length = q0 * 2) (I1 : Option Addr) (q1 f1 : Nat) (zs1 : List Int) (ri10 : Rd w w.heap.size 2 (.slice I1 q1 f1) (ints zs1)) (hz1 : zs1.length = q1 * 2) :
    Calls Try.prog 3 #[.agg #[.slice A n c, .slice B m d], .slice I0 q0 f0, .slice I1 q1 f1] w fun e w' => e = .returned (.bool true) ∧ Below w.heap.size w w' := by
  have KK := keep_1 w (.cells #[.slice A n c, .slice B m d] 25)
  obtain ⟨l, rfl, hm⟩ := twos_of hl1
  obtain ⟨l0, rfl, hq0⟩ := twos_of hz0
  obtain ⟨l1, rfl, hq1⟩ := twos_of hz1
  have ra := (ra0.keep KK (Nat.le_refl _) (.inr (Nat.le_refl 0))).mono KK.size
  have rb := (rb0.keep KK (Nat.le_refl _) (.inr (Nat.le_refl 0))).mono KK.size
  have ri0 := (ri00.keep KK (Nat.le_refl _) (.inr (Nat.le_refl 0))).mono KK.size
  have ri1 := (ri10.keep KK (Nat.le_refl _) (.inr (Nat.le_refl 0))).mono KK.size
  have hc0 := cap_le ra
  have hc1 := cap_le rb
  have hd0 := cap_le ri0
  have hd1 := cap_le ri1
  clear hl1 ra0 rb0 hz0 ri00 hz1 ri10
  by_cases hb0 : ((n : Int) + (m : Int)) ≤ 1048576
  rotate_left
  · have hif0 := leftT_out (n := (n + m)) (L := 1048576) (by omega)
    go_enter Try.func3, Try.ntmps3
    go_wp2_with fail
    refine (szKept_gen A n c B m d _ hc0 hc1 (by omega) (by omega) _).mono ?_
    rintro e V1 ⟨rfl, j1⟩
    rw [hif0]
    clear hif0
    go_wp2
    go_ret
    exact ⟨rfl, (KK.tr0 j1).below⟩
  have hif0 : leftT (1048576) (n + m) = 1048576 - ((n : Int) + (m : Int)) := (leftT_in (by omega)).trans (by omega)
  by_cases hb1 : ((q0 : Nat) : Int) ≤ 1048576 - ((n : Int) + (m : Int))
  rotate_left
  · have hif1 := leftT_out (n := q0) (L := 1048576 - ((n : Int) + (m : Int))) (by omega)
    go_enter Try.func3, Try.ntmps3
    go_wp2_with fail
    refine (szKept_gen A n c B m d _ hc0 hc1 (by omega) (by omega) _).mono ?_
    rintro e V1 ⟨rfl, j1⟩
    rw [hif0]
    clear hif0
    go_wp2_with fail
    refine (szSlotS_gen I0 q0 f0 _ hd0 (by omega) (by omega) _).mono ?_
    rintro e w' ⟨rfl, rfl⟩
    rw [hif1]
    clear hif1
    go_wp2
    go_ret
    exact ⟨rfl, (KK.tr0 j1).below⟩
  have hif1 : leftT (1048576 - ((n : Int) + (m : Int))) q0 = 1048576 - ((n : Int) + (m : Int)) - ((q0 : Nat) : Int) := (leftT_in (by omega)).trans (by omega)
  by_cases hb2 : ((q1 : Nat) : Int) ≤ 1048576 - ((n : Int) + (m : Int)) - ((q0 : Nat) : Int)
  rotate_left
  · have hif2 := leftT_out (n := q1) (L := 1048576 - ((n : Int) + (m : Int)) - ((q0 : Nat) : Int)) (by omega)
    go_enter Try.func3, Try.ntmps3
    go_wp2_with fail
    refine (szKept_gen A n c B m d _ hc0 hc1 (by omega) (by omega) _).mono ?_
    rintro e V1 ⟨rfl, j1⟩
    rw [hif0]
    clear hif0
    go_wp2_with fail
    refine (szSlotS_gen I0 q0 f0 _ hd0 (by omega) (by omega) _).mono ?_
    rintro e w' ⟨rfl, rfl⟩
    rw [hif1]
    clear hif1
    go_wp2_with fail
    refine (szSlotS_gen I1 q1 f1 _ hd1 (by omega) (by omega) _).mono ?_
    rintro e w' ⟨rfl, rfl⟩
    rw [hif2]
    clear hif2
    go_wp2
    go_ret
    exact ⟨rfl, (KK.tr0 j1).below⟩
  have hif2 : leftT (1048576 - ((n : Int) + (m : Int)) - ((q0 : Nat) : Int)) q1 = 1048576 - ((n : Int) + (m : Int)) - ((q0 : Nat) : Int) - ((q1 : Nat) : Int) := (leftT_in (by omega)).trans (by omega)
  have hx0 := Lib.hid (show ks.length ≤ 1048576 from by omega)
  have hx1 := Lib.hid (show (twosI l).length ≤ 2097152 from by rw [twosI_length]; omega)
  have hy0 := Lib.hid (show (twosI l0).length ≤ 2097152 from by rw [twosI_length]; omega)
  have hy1 := Lib.hid (show (twosI l1).length ≤ 2097152 from by rw [twosI_length]; omega)
  have HN := Lib.hid hl0
  have HM := Lib.hid hm
  clear hl0 hm
  have HQ0 := Lib.hid hq0
  clear hq0
  have HQ1 := Lib.hid hq1
  clear hq1
  have K0 := Keep.refl 0 0 (w.alloc (.cells #[.slice A n c, .slice B m d] 25))
  have bx0 : w.heap.size < (w.alloc (.cells #[.slice A n c, .slice B m d] 25)).heap.size := by simp
  have c0_0 : (w.alloc (.cells #[.slice A n c, .slice B m d] 25)).cell? ⟨w.heap.size, 0, none⟩ = some (.slice A n c) := by go_cell
  have c0_1 : (w.alloc (.cells #[.slice A n c, .slice B m d] 25)).cell? ⟨w.heap.size, 1, none⟩ = some (.slice B m d) := by go_cell
  go_enter Try.func3, Try.ntmps3
  go_wp2_with fail
  refine (szKept_gen A n c B m d _ hc0 hc1 (by omega) (by omega) _).mono ?_
  rintro e W1 ⟨rfl, k1⟩
  have s1 := k1.size
  replace c0_0 : W1.cell? ⟨w.heap.size, 0, none⟩ = some (.slice A n c) := k1.cells bx0 c0_0
  replace c0_1 : W1.cell? ⟨w.heap.size, 1, none⟩ = some (.slice B m d) := k1.cells bx0 c0_1
  replace bx0 : w.heap.size < W1.heap.size := Nat.lt_of_lt_of_le bx0 k1.size
  have K1 := K0.tr0 k1
  clear K0 k1
  rw [hif0]
  clear hif0
  go_wp2_with fail
  refine (szSlotS_gen I0 q0 f0 _ hd0 (by omega) (by omega) _).mono ?_
  rintro e w' ⟨rfl, rfl⟩
  rw [hif1]
  clear hif1
  go_wp2_with fail
  refine (szSlotS_gen I1 q1 f1 _ hd1 (by omega) (by omega) _).mono ?_
  rintro e w' ⟨rfl, rfl⟩
  rw [hif2]
  clear hif2
  go_wp2_with fail
  refine (toKept_any _ _ _ _ _ ks _ (ra.keep K1 (Nat.le_refl _) (.inr (Nat.le_refl 0))) (rb.keep K1 (Nat.le_refl _) (.inr (Nat.le_refl 0))) K1.size K1.size hx0.out hx1.out).mono ?_
  rintro e W2 ⟨pa, pb, rfl, rp, k2⟩
  have s2 := k2.size
  replace c0_0 : W2.cell? ⟨w.heap.size, 0, none⟩ = some (.slice A n c) := k2.cells bx0 c0_0
  replace c0_1 : W2.cell? ⟨w.heap.size, 1, none⟩ = some (.slice B m d) := k2.cells bx0 c0_1
  replace bx0 : w.heap.size < W2.heap.size := Nat.lt_of_lt_of_le bx0 k2.size
  have K2 := K1.tr0 k2
  clear K1 k2
  obtain ⟨pA, pn, pc, rfl⟩ := rp.a.slice
  obtain ⟨pB, pm, pd, rfl⟩ := rp.b.slice
  go_wp2_with fail
  refine (toSlotS_any _ _ _ _ (ri0.keep K2 (Nat.le_refl _) (.inr (Nat.le_refl 0))) hy0.out).mono ?_
  rintro e W3 ⟨pi, rfl, rpi, k3⟩
  have s3 := k3.size
  replace c0_0 : W3.cell? ⟨w.heap.size, 0, none⟩ = some (.slice A n c) := k3.cells bx0 c0_0
  replace c0_1 : W3.cell? ⟨w.heap.size, 1, none⟩ = some (.slice B m d) := k3.cells bx0 c0_1
  replace bx0 : w.heap.size < W3.heap.size := Nat.lt_of_lt_of_le bx0 k3.size
  replace rp := rp.keep k3 (.inr (.inr (Nat.le_refl 0)))
  have K3 := K2.tr0 k3
  clear K2 k3
  obtain ⟨piA, pin, pic, rfl⟩ := rpi.slice
  go_wp2_with fail
  refine (toSlotS_any _ _ _ _ (ri1.keep K3 (Nat.le_refl _) (.inr (Nat.le_refl 0))) hy1.out).mono ?_
  rintro e W4 ⟨po, rfl, rpo, k4⟩
  have s4 := k4.size
  replace c0_0 : W4.cell? ⟨w.heap.size, 0, none⟩ = some (.slice A n c) := k4.cells bx0 c0_0
  replace c0_1 : W4.cell? ⟨w.heap.size, 1, none⟩ = some (.slice B m d) := k4.cells bx0 c0_1
  replace bx0 : w.heap.size < W4.heap.size := Nat.lt_of_lt_of_le bx0 k4.size
  replace rp := rp.keep k4 (.inr (.inr (Nat.le_refl 0)))
  replace rpi := rpi.keep k4 (.inr (.inr (Nat.le_refl 0)))
  have K4 := K3.tr0 k4
  clear K3 k4
  obtain ⟨poA, pon, poc, rfl⟩ := rpo.slice
  go_wp2_with fail
  refine (specKeptOk_any _ _ _ _ _ _ _ _ _ ks l l0 l1 rp.a.rd rp.b.rd rpi.rd rpo.rd (by omega)).mono ?_
  rintro e W5 ⟨rfl, k5⟩
  have s5 := k5.size
  replace c0_0 : W5.cell? ⟨w.heap.size, 0, none⟩ = some (.slice A n c) := k5.cells bx0 c0_0
  replace c0_1 : W5.cell? ⟨w.heap.size, 1, none⟩ = some (.slice B m d) := k5.cells bx0 c0_1
  replace bx0 : w.heap.size < W5.heap.size := Nat.lt_of_lt_of_le bx0 k5.size
  replace rp := rp.keep k5 (.inr (.inr (Nat.le_refl 0)))
  replace rpi := rpi.keep k5 (.inr (.inr (Nat.le_refl 0)))
  replace rpo := rpo.keep k5 (.inr (.inr (Nat.le_refl 0)))
  have K5 := K4.tr0 k5
  clear K4 k5
  clear rp
  clear rpi
  clear rpo
  go_wp2_with fail
  refine (toKept_any _ _ _ _ _ ks _ (ra.keep K5 (Nat.le_refl _) (.inr (Nat.le_refl 0))) (rb.keep K5 (Nat.le_refl _) (.inr (Nat.le_refl 0))) K5.size K5.size hx0.out hx1.out).mono ?_
  rintro e W6 ⟨xa, xb, rfl, rx, k6⟩
  have s6 := k6.size
  replace c0_0 : W6.cell? ⟨w.heap.size, 0, none⟩ = some (.slice A n c) := k6.cells bx0 c0_0
  replace c0_1 : W6.cell? ⟨w.heap.size, 1, none⟩ = some (.slice B m d) := k6.cells bx0 c0_1
  replace bx0 : w.heap.size < W6.heap.size := Nat.lt_of_lt_of_le bx0 k6.size
  have K6 := K5.tr0 k6
  clear K5 k6
  obtain ⟨xA, xn, xc, rfl⟩ := rx.a.slice
  obtain ⟨xB, xm, xd, rfl⟩ := rx.b.slice
  have ka1 := keep_1 W6 (.cells #[.slice xA xn xc, .slice xB xm xd] 31)
  replace c0_0 : (W6.alloc (.cells #[.slice xA xn xc, .slice xB xm xd] 31)).cell? ⟨w.heap.size, 0, none⟩ = some (.slice A n c) := ka1.cells bx0 c0_0
  replace c0_1 : (W6.alloc (.cells #[.slice xA xn xc, .slice xB xm xd] 31)).cell? ⟨w.heap.size, 1, none⟩ = some (.slice B m d) := ka1.cells bx0 c0_1
  replace bx0 : w.heap.size < (W6.alloc (.cells #[.slice xA xn xc, .slice xB xm xd] 31)).heap.size := Nat.lt_of_lt_of_le bx0 ka1.size
  replace rx := rx.keep ka1 (.inr (.inr (Nat.le_refl 0)))
  have K6a := K6.tr0 ka1
  clear K6 ka1
  have sa1 : W6.heap.size + 1 = (W6.alloc (.cells #[.slice xA xn xc, .slice xB xm xd] 31)).heap.size := by simp
  have HA1 := Lib.hid sa1
  replace sa1 : W6.heap.size < (W6.alloc (.cells #[.slice xA xn xc, .slice xB xm xd] 31)).heap.size := by omega
  have bx1 : W6.heap.size < (W6.alloc (.cells #[.slice xA xn xc, .slice xB xm xd] 31)).heap.size := by simp
  have c1_0 : (W6.alloc (.cells #[.slice xA xn xc, .slice xB xm xd] 31)).cell? ⟨W6.heap.size, 0, none⟩ = some (.slice xA xn xc) := by go_cell
  have c1_1 : (W6.alloc (.cells #[.slice xA xn xc, .slice xB xm xd] 31)).cell? ⟨W6.heap.size, 1, none⟩ = some (.slice xB xm xd) := by go_cell
  go_wp2_with fail
  refine (toSlotS_any _ _ _ _ (ri0.keep K6a (Nat.le_refl _) (.inr (Nat.le_refl 0))) hy0.out).mono ?_
  rintro e W7 ⟨xi, rfl, rxi, k7⟩
  have s7 := k7.size
  replace c0_0 : W7.cell? ⟨w.heap.size, 0, none⟩ = some (.slice A n c) := k7.cells bx0 c0_0
  replace c0_1 : W7.cell? ⟨w.heap.size, 1, none⟩ = some (.slice B m d) := k7.cells bx0 c0_1
  replace c1_0 : W7.cell? ⟨W6.heap.size, 0, none⟩ = some (.slice xA xn xc) := k7.cells bx1 c1_0
  replace c1_1 : W7.cell? ⟨W6.heap.size, 1, none⟩ = some (.slice xB xm xd) := k7.cells bx1 c1_1
  replace bx0 : w.heap.size < W7.heap.size := Nat.lt_of_lt_of_le bx0 k7.size
  replace bx1 : W6.heap.size < W7.heap.size := Nat.lt_of_lt_of_le bx1 k7.size
  replace rx := rx.keep k7 (.inr (.inr (Nat.le_refl 0)))
  have K7 := K6a.tr0 k7
  clear K6a k7
  obtain ⟨xiA, xin, xic, rfl⟩ := rxi.slice
  go_wp2_with fail
  refine (toSlotS_any _ _ _ _ (ri1.keep K7 (Nat.le_refl _) (.inr (Nat.le_refl 0))) hy1.out).mono ?_
  rintro e W8 ⟨xo, rfl, rxo, k8⟩
  have s8 := k8.size
  replace c0_0 : W8.cell? ⟨w.heap.size, 0, none⟩ = some (.slice A n c) := k8.cells bx0 c0_0
  replace c0_1 : W8.cell? ⟨w.heap.size, 1, none⟩ = some (.slice B m d) := k8.cells bx0 c0_1
  replace c1_0 : W8.cell? ⟨W6.heap.size, 0, none⟩ = some (.slice xA xn xc) := k8.cells bx1 c1_0
  replace c1_1 : W8.cell? ⟨W6.heap.size, 1, none⟩ = some (.slice xB xm xd) := k8.cells bx1 c1_1
  replace bx0 : w.heap.size < W8.heap.size := Nat.lt_of_lt_of_le bx0 k8.size
  replace bx1 : W6.heap.size < W8.heap.size := Nat.lt_of_lt_of_le bx1 k8.size
  replace rx := rx.keep k8 (.inr (.inr (Nat.le_refl 0)))
  replace rxi := rxi.keep k8 (.inr (.inr (Nat.le_refl 0)))
  have K8 := K7.tr0 k8
  clear K7 k8
  obtain ⟨xoA, xon, xoc, rfl⟩ := rxo.slice
  go_wp2_with fail
  refine (implKeptOk_any _ _ _ _ _ _ _ _ _ ks l l0 l1 rx.a.rd rx.b.rd rxi.rd rxo.rd (by omega)).mono ?_
  rintro e W9 ⟨rfl, k9⟩
  have s9 := k9.size
  replace c0_0 : W9.cell? ⟨w.heap.size, 0, none⟩ = some (.slice A n c) := k9.cells bx0 c0_0
  replace c0_1 : W9.cell? ⟨w.heap.size, 1, none⟩ = some (.slice B m d) := k9.cells bx0 c0_1
  replace c1_0 : W9.cell? ⟨W6.heap.size, 0, none⟩ = some (.slice xA xn xc) := k9.cells bx1 c1_0
  replace c1_1 : W9.cell? ⟨W6.heap.size, 1, none⟩ = some (.slice xB xm xd) := k9.cells bx1 c1_1
  replace bx0 : w.heap.size < W9.heap.size := Nat.lt_of_lt_of_le bx0 k9.size
  replace bx1 : W6.heap.size < W9.heap.size := Nat.lt_of_lt_of_le bx1 k9.size
  replace rx := rx.keep k9 (.inr (.inr (Nat.le_refl 0)))
  replace rxi := rxi.keep k9 (.inr (.inr (Nat.le_refl 0)))
  replace rxo := rxo.keep k9 (.inr (.inr (Nat.le_refl 0)))
  have K9 := K8.tr0 k9
  clear K8 k9
  obtain ⟨bq, hbq⟩ : ∃ b, keptOkT ks l l0 l1 = b := ⟨_, rfl⟩
  rw [hbq]
  clear hbq
  have hsame : (bq != bq) = false := by simp
  have hsame2 : (bq == bq) = true := by simp
  have HS9 := Lib.hid (show ∀ w' : World, Keep 0 0 W9 w' → w'.cell? ⟨w.heap.size, 0, none⟩ = some (.slice A n c) ∧ w'.cell? ⟨w.heap.size, 1, none⟩ = some (.slice B m d) ∧ w'.cell? ⟨W6.heap.size, 0, none⟩ = some (.slice xA xn xc) ∧ w'.cell? ⟨W6.heap.size, 1, none⟩ = some (.slice xB xm xd) ∧ Keep 0 0 W9 w' from fun w' h => ⟨h.cells bx0 c0_0, h.cells bx0 c0_1, h.cells bx1 c1_0, h.cells bx1 c1_1, h⟩)
  have HT9 := Lib.hid (show ∀ w1 w2 : World, (w1.cell? ⟨w.heap.size, 0, none⟩ = some (.slice A n c) ∧ w1.cell? ⟨w.heap.size, 1, none⟩ = some (.slice B m d) ∧ w1.cell? ⟨W6.heap.size, 0, none⟩ = some (.slice xA xn xc) ∧ w1.cell? ⟨W6.heap.size, 1, none⟩ = some (.slice xB xm xd) ∧ Keep 0 0 W9 w1) → Keep 0 0 w1 w2 → w2.cell? ⟨w.heap.size, 0, none⟩ = some (.slice A n c) ∧ w2.cell? ⟨w.heap.size, 1, none⟩ = some (.slice B m d) ∧ w2.cell? ⟨W6.heap.size, 0, none⟩ = some (.slice xA xn xc) ∧ w2.cell? ⟨W6.heap.size, 1, none⟩ = some (.slice xB xm xd) ∧ Keep 0 0 W9 w2 from fun w1 w2 h k => HS9.out _ (h.2.2.2.2.tr0 k))
  have KD := (Keep.refl 0 0 W9).drew
  have raD := (ra.keep K9 (Nat.le_refl _) (.inr (Nat.le_refl 0))).keep KD K9.size (.inr (Nat.le_refl 0))
  have rbD := (rb.keep K9 (Nat.le_refl _) (.inr (Nat.le_refl 0))).keep KD K9.size (.inr (Nat.le_refl 0))
  have zD : (w.alloc (.cells #[.slice A n c, .slice B m d] 25)).heap.size ≤ W9.drew.heap.size := K9.size
  go_wp2_with fail
  go_region_held3 (fun w' => w'.cell? ⟨w.heap.size, 0, none⟩ = some (.slice A n c) ∧ w'.cell? ⟨w.heap.size, 1, none⟩ = some (.slice B m d) ∧ w'.cell? ⟨W6.heap.size, 0, none⟩ = some (.slice xA xn xc) ∧ w'.cell? ⟨W6.heap.size, 1, none⟩ = some (.slice xB xm xd) ∧ Keep 0 0 W9 w')
    (first | (with_reducible exact HS9.out _ KD) | (refine HT9.out ?_ _ ?_ ?_; rotate_right; (with_reducible assumption); (with_reducible assumption)) | fail)
    (first
      | (go_at_call 11; refine (toKept_any _ _ _ _ _ ks _ raD rbD zD zD hx0.out hx1.out).mono ?_; rintro e W10 ⟨va10, vb10, rfl, rt10, k10⟩)
      | (go_at_call 14; refine (eqKept_any _ _ _ _ _ _ _ _ _ _ _ _ _ ((rx.keep (KD.tr0 k10) (.inr (.inr (Nat.le_refl 0)))).a.rd) ((rx.keep (KD.tr0 k10) (.inr (.inr (Nat.le_refl 0)))).b.rd) rt10.a.rd rt10.b.rd (by have := (KD.tr0 k10).size; omega) (by have := (KD.tr0 k10).size; omega) (Nat.le_refl _) (Nat.le_refl _)).mono ?_; rintro e W11 ⟨rfl, k11⟩)
      | fail)
  have kk11 := (KD.tr0 k10).tr0 k11
  have s11 := kk11.size
  replace c0_0 : W11.cell? ⟨w.heap.size, 0, none⟩ = some (.slice A n c) := kk11.cells bx0 c0_0
  replace c0_1 : W11.cell? ⟨w.heap.size, 1, none⟩ = some (.slice B m d) := kk11.cells bx0 c0_1
  replace c1_0 : W11.cell? ⟨W6.heap.size, 0, none⟩ = some (.slice xA xn xc) := kk11.cells bx1 c1_0
  replace c1_1 : W11.cell? ⟨W6.heap.size, 1, none⟩ = some (.slice xB xm xd) := kk11.cells bx1 c1_1
  replace bx0 : w.heap.size < W11.heap.size := Nat.lt_of_lt_of_le bx0 kk11.size
  replace bx1 : W6.heap.size < W11.heap.size := Nat.lt_of_lt_of_le bx1 kk11.size
  replace rx := rx.keep kk11 (.inr (.inr (Nat.le_refl 0)))
  replace rxi := rxi.keep kk11 (.inr (.inr (Nat.le_refl 0)))
  replace rxo := rxo.keep kk11 (.inr (.inr (Nat.le_refl 0)))
  have K11 := K9.tr0 kk11
  clear raD rbD zD KD rt10 k10 k11 kk11 K9 HS9 HT9
  clear hsame hsame2
  go_wp2_with fail
  refine (toSlotS_any _ _ _ _ (ri0.keep K11 (Nat.le_refl _) (.inr (Nat.le_refl 0))) hy0.out).mono ?_
  rintro e W12 ⟨ti, rfl, rti, k12⟩
  have s12 := k12.size
  replace c0_0 : W12.cell? ⟨w.heap.size, 0, none⟩ = some (.slice A n c) := k12.cells bx0 c0_0
  replace c0_1 : W12.cell? ⟨w.heap.size, 1, none⟩ = some (.slice B m d) := k12.cells bx0 c0_1
  replace c1_0 : W12.cell? ⟨W6.heap.size, 0, none⟩ = some (.slice xA xn xc) := k12.cells bx1 c1_0
  replace c1_1 : W12.cell? ⟨W6.heap.size, 1, none⟩ = some (.slice xB xm xd) := k12.cells bx1 c1_1
  replace bx0 : w.heap.size < W12.heap.size := Nat.lt_of_lt_of_le bx0 k12.size
  replace bx1 : W6.heap.size < W12.heap.size := Nat.lt_of_lt_of_le bx1 k12.size
  replace rx := rx.keep k12 (.inr (.inr (Nat.le_refl 0)))
  replace rxi := rxi.keep k12 (.inr (.inr (Nat.le_refl 0)))
  replace rxo := rxo.keep k12 (.inr (.inr (Nat.le_refl 0)))
  have K12 := K11.tr0 k12
  clear K11 k12
  obtain ⟨tiA, tin, tic, rfl⟩ := rti.slice
  go_wp2_with fail
  refine (eqSlotS_any _ _ _ _ _ _ _ rxi.rd rti.rd).mono ?_
  rintro e W13 ⟨rfl, k13⟩
  have s13 := k13.size
  replace c0_0 : W13.cell? ⟨w.heap.size, 0, none⟩ = some (.slice A n c) := k13.cells bx0 c0_0
  replace c0_1 : W13.cell? ⟨w.heap.size, 1, none⟩ = some (.slice B m d) := k13.cells bx0 c0_1
  replace c1_0 : W13.cell? ⟨W6.heap.size, 0, none⟩ = some (.slice xA xn xc) := k13.cells bx1 c1_0
  replace c1_1 : W13.cell? ⟨W6.heap.size, 1, none⟩ = some (.slice xB xm xd) := k13.cells bx1 c1_1
  replace bx0 : w.heap.size < W13.heap.size := Nat.lt_of_lt_of_le bx0 k13.size
  replace bx1 : W6.heap.size < W13.heap.size := Nat.lt_of_lt_of_le bx1 k13.size
  replace rx := rx.keep k13 (.inr (.inr (Nat.le_refl 0)))
  replace rxi := rxi.keep k13 (.inr (.inr (Nat.le_refl 0)))
  replace rxo := rxo.keep k13 (.inr (.inr (Nat.le_refl 0)))
  replace rti := rti.keep k13 (.inr (.inr (Nat.le_refl 0)))
  have K13 := K12.tr0 k13
  clear K12 k13
  simp only [decide_true]
  clear rti
  go_wp2_with fail
  refine (toSlotS_any _ _ _ _ (ri1.keep K13 (Nat.le_refl _) (.inr (Nat.le_refl 0))) hy1.out).mono ?_
  rintro e W14 ⟨to, rfl, rto, k14⟩
  have s14 := k14.size
  replace c0_0 : W14.cell? ⟨w.heap.size, 0, none⟩ = some (.slice A n c) := k14.cells bx0 c0_0
  replace c0_1 : W14.cell? ⟨w.heap.size, 1, none⟩ = some (.slice B m d) := k14.cells bx0 c0_1
  replace c1_0 : W14.cell? ⟨W6.heap.size, 0, none⟩ = some (.slice xA xn xc) := k14.cells bx1 c1_0
  replace c1_1 : W14.cell? ⟨W6.heap.size, 1, none⟩ = some (.slice xB xm xd) := k14.cells bx1 c1_1
  replace bx0 : w.heap.size < W14.heap.size := Nat.lt_of_lt_of_le bx0 k14.size
  replace bx1 : W6.heap.size < W14.heap.size := Nat.lt_of_lt_of_le bx1 k14.size
  replace rx := rx.keep k14 (.inr (.inr (Nat.le_refl 0)))
  replace rxi := rxi.keep k14 (.inr (.inr (Nat.le_refl 0)))
  replace rxo := rxo.keep k14 (.inr (.inr (Nat.le_refl 0)))
  have K14 := K13.tr0 k14
  clear K13 k14
  obtain ⟨toA, ton, toc, rfl⟩ := rto.slice
  go_wp2_with fail
  refine (eqSlotS_any _ _ _ _ _ _ _ rxo.rd rto.rd).mono ?_
  rintro e W15 ⟨rfl, k15⟩
  have s15 := k15.size
  replace c0_0 : W15.cell? ⟨w.heap.size, 0, none⟩ = some (.slice A n c) := k15.cells bx0 c0_0
  replace c0_1 : W15.cell? ⟨w.heap.size, 1, none⟩ = some (.slice B m d) := k15.cells bx0 c0_1
  replace c1_0 : W15.cell? ⟨W6.heap.size, 0, none⟩ = some (.slice xA xn xc) := k15.cells bx1 c1_0
  replace c1_1 : W15.cell? ⟨W6.heap.size, 1, none⟩ = some (.slice xB xm xd) := k15.cells bx1 c1_1
  replace bx0 : w.heap.size < W15.heap.size := Nat.lt_of_lt_of_le bx0 k15.size
  replace bx1 : W6.heap.size < W15.heap.size := Nat.lt_of_lt_of_le bx1 k15.size
  replace rx := rx.keep k15 (.inr (.inr (Nat.le_refl 0)))
  replace rxi := rxi.keep k15 (.inr (.inr (Nat.le_refl 0)))
  replace rxo := rxo.keep k15 (.inr (.inr (Nat.le_refl 0)))
  replace rto := rto.keep k15 (.inr (.inr (Nat.le_refl 0)))
  have K15 := K14.tr0 k15
  clear K14 k15
  simp only [decide_true]
  go_wp2
  go_ret
  exact ⟨rfl, (KK.tr0 K15).below⟩

set_option maxRecDepth 100000 in
theorem lifted (os : Os) (started : os.Started) (H : Type) (enc : TypeId × Value → H) :
    ReturnsInHanded {} Try.checked os 3 .any (Rows.fnExactKeptOkSpec.pre6 enc Try.prog Try.f3 Rows.fnExactKeptOkRow.domain false) (Rows.fnExactKeptOkSpec.post enc Try.prog Try.f3 false true false false) := by
  refine returnsInHanded_of_change (C := Try.checked) own started (by kernel_rfl) Try.func3
    (ChangeSpec.witness6 (enc := enc) (C := Try.checked) false ⟨#[], #[.agg #[.slice none 0 0, .slice none 0 0], .slice none 0 0, .slice none 0 0], []⟩ 8 (by kernel_rfl) (by kernel_rfl) (by kernel_rfl) (by kernel_rfl)) ?_
  intro W base args ds gs before hval0 hW hcnd _
  have hval : ∀ (j : Nat) t v, Try.f3.params[j]? = some t → args[j]? = some v → Value.okWide Try.prog W .any base t v := hval0
  have hW' := hW
  obtain ⟨p, q, hA0, hV, rfl, hfz, hnd⟩ := hW
  have hA : DataW.TrodAll enc Try.prog W 0 (fun _ => true) true Try.f3.params.toList args.toList ds p := hA0
  rw [Try.params3] at hA hval
  obtain ⟨v0, vs0, d0, ds0, p0, q0, hargs, rfl, rfl, h0, r0⟩ := trodAll_cons hA
  obtain ⟨v1, vs1, d1, ds1, p1, q1, rfl, rfl, rfl, h1, r1⟩ := trodAll_cons r0
  obtain ⟨v2, vs2, d2, ds2, p2, q2, rfl, rfl, rfl, h2, r2⟩ := trodAll_cons r1
  obtain ⟨rfl, rfl, rfl⟩ := trodAll_nil r2
  obtain rfl : args = #[v0, v1, v2] := by cases args; simp_all
  obtain ⟨rfl, rfl⟩ := trodVars_none hV
  have k0 := h0
  have lt0 : ∀ x ∈ p0, x.block < W.heap.size := by obtain ⟨m, hm⟩ := k0; exact DataW.trod_lt m _ _ _ hm
  obtain ⟨c00, c01, y00, y01, m0, rfl, _, _, g00, g01⟩ := Go.Joins.open_agg2 Try.underlying25 (by kernel_rfl) (show Try.prog.cellsOf 25 = 2 by kernel_rfl) (hval 0 25 v0 rfl rfl) h0
  obtain ⟨A00, n00, cap00, rfl⟩ := slice_field Try.underlying22 g00
  obtain ⟨xs00, rb00, hl00⟩ := open_bols Try.underlying22 Try.underlying4 (by kernel_rfl) g00
  obtain ⟨A01, n01, cap01, rfl⟩ := slice_field Try.underlying23 g01
  obtain ⟨xs01, rb01, hl01⟩ := open_flat_field Try.underlying23 Try.underlying54 (by kernel_rfl) (by kernel_rfl) (by intro j f hf; rcases j with _ | _ | j <;> simp at hf <;> subst hf <;> exact Try.underlying3) (by decide) g01
  have k1 := h1
  have lt1 : ∀ x ∈ p1, x.block < W.heap.size := by obtain ⟨m, hm⟩ := k1; exact DataW.trod_lt m _ _ _ hm
  obtain ⟨A1, n1, cap1, rfl⟩ := okWide_slice Try.underlying23 (hval 1 23 v1 rfl rfl)
  obtain ⟨xs1, rb1, hl1⟩ := open_flat Try.underlying23 Try.underlying54 (by kernel_rfl) (by kernel_rfl) (by intro j f hf; rcases j with _ | _ | j <;> simp at hf <;> subst hf <;> exact Try.underlying3) (by decide) h1
  have k2 := h2
  have lt2 : ∀ x ∈ p2, x.block < W.heap.size := by obtain ⟨m, hm⟩ := k2; exact DataW.trod_lt m _ _ _ hm
  obtain ⟨A2, n2, cap2, rfl⟩ := okWide_slice Try.underlying23 (hval 2 23 v2 rfl rfl)
  obtain ⟨xs2, rb2, hl2⟩ := open_flat Try.underlying23 Try.underlying54 (by kernel_rfl) (by kernel_rfl) (by intro j f hf; rcases j with _ | _ | j <;> simp at hf <;> subst hf <;> exact Try.underlying3) (by decide) h2
  clear hA0 hval0
  refine (walk W A00 n00 cap00 xs00 rb00 hl00 A01 n01 cap01 xs01 rb01 hl01 A1 n1 cap1 xs1 rb1 hl1 A2 n2 cap2 xs2 rb2 hl2).mono fun e W' ⟨he, bel⟩ => ?_
  subst he
  exact ⟨_, rfl, _, _, _, [], _, [], hW', trodAll_mk1 (shut_bool Try.underlying4 _), (trodAll_cons_mk (Below.trod laidOut (by kernel_rfl) (of_decide_eq_true (by kernel_rfl)) k0 bel lt0) (trodAll_cons_mk (Below.trod laidOut (by kernel_rfl) (of_decide_eq_true (by kernel_rfl)) k1 bel lt1) (trodAll_cons_mk (Below.trod laidOut (by kernel_rfl) (of_decide_eq_true (by kernel_rfl)) k2 bel lt2) trodAll_mk0))), rfl, bel.frame _, fun h => by cases h⟩

theorem over : Rows.fnExactKeptOkRow.holds Try.pinned (OpenSpec.ofChange Rows.fnExactKeptOkSpec) :=
  OpenClaim.holds_of_wide 3 Try.f3 rfl rfl rfl rfl rfl rfl rfl ⟨rfl, rfl, rfl, rfl, rfl⟩ rfl rfl rfl rfl rfl (by kernel_rfl) Try.func3 (by kernel_rfl)
    (of_decide_eq_true (by kernel_rfl)) (by unfold Func.isWrapper; first | (rw [if_pos (by decide +kernel)]; kernel_rfl) | (rw [if_neg (by decide +kernel)]; exact ⟨rfl, rfl⟩))
    (fun os started H enc _ => lifted os started H enc)

/-- The given statement. -/
theorem proved : Rows.FnExactKeptOkSaid := over
end Go.Proofs.Ytignedkhklfonaa.fnExactKeptOk
