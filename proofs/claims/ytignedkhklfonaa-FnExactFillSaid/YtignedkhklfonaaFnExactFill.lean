/-
  For every kept tables, two tables of slots and integer the program's Fill returns what the reference's returns, leaves its arguments alone, and hands back memory of its own. No condition.
-/
import Derived.Test.YtignedkhklfonaaRows
import Derived.WalkKit
import Derived.ProofKit
import Derived.OpenShut
import Derived.ShutString
import Derived.ChangeOld
import Derived.Below
import Derived.Lib.SmallJoins
import Derived.WalkSpells
import Derived.Test.YtignedkhklfonaaFill
import Derived.Test.YtignedkhklfonaaOpen
import Derived.Test.YtignedkhklfonaaOne
import Derived.Handy
import Derived.Deep.RegionHeld3
import Derived.Deep.QuietTactic
import Derived.BigQuiet
namespace Go.Proofs.Ytignedkhklfonaa.fnExactFill
open Go.ChangeShapes Go.WideShapes Go.ChangeAt Go.RowKit
set_option linter.unusedVariables false

theorem own : ownKnob Try.prog.godebug = none := by kernel_rfl
theorem laidOut : laidOutB Try.prog = true := by kernel_rfl

theorem cap_le {w : World} {hi sz n c : Nat} {A : Option Addr} {xs : List Value} (h : Rd w hi sz (.slice A n c) xs) : n ≤ 9223372036854775807 := by
  obtain ⟨_, _, _, e, h1, h2, _⟩ := h
  injection e with _ e2 e3
  unfold maxLen at h2
  omega
set_option maxRecDepth 100000 in
set_option maxHeartbeats 8000000 in
theorem walk (w : World) (A : Option Addr) (n c : Nat) (ks : List Bool) (ra0 : Rd w w.heap.size 1 (.slice A n c) (bols ks)) (hl0 : ks.length = n) (B : Option Addr) (m d : Nat) (xs : List Int) (rb0 : Rd w w.heap.size 2 (.slice B m d) (ints xs)) (hl1 : xs.length = m * 2) (I0 : Option Addr) (q0 f0 : Nat) (zs0 : List Int) (ri00 : Rd w w.heap.size 2 (.slice I0 q0 f0) (ints zs0)) (hz0 : zs0.length = q0 * 2) (I1 : Option Addr) (q1 f1 : Nat) (zs1 : List Int) (ri10 : Rd w w.heap.size 2 (.slice I1 q1 f1) (ints zs1)) (hz1 : zs1.length = q1 * 2) (p : Int) (wp : (Lit.int .i64 p).wf = true) :
    Calls Try.prog 7 #[.agg #[.slice A n c, .slice B m d], .slice I0 q0 f0, .slice I1 q1 f1, .int .i64 p] w fun e w' => e = .returned (.bool true) ∧ Below w.heap.size w w' := by
  clear wp
  have KK := keep_1 w (.cells #[.slice A n c, .slice B m d] 25)
  obtain ⟨l, rfl, hm⟩ := twos_of hl1
  obtain ⟨l0, rfl, hq0⟩ := twos_of hz0
  obtain ⟨l1, rfl, hq1⟩ := twos_of hz1
  have ra := (ra0.keep KK (Nat.le_refl _) (.inr (Nat.le_refl 0))).mono KK.size
  have rb := (rb0.keep KK (Nat.le_refl _) (.inr (Nat.le_refl 0))).mono KK.size
  have ri0 := (ri00.keep KK (Nat.le_refl _) (.inr (Nat.le_refl 0))).mono KK.size
  have ri1 := (ri10.keep KK (Nat.le_refl _) (.inr (Nat.le_refl 0))).mono KK.size
  have hc0 := cap_le ra
  have hc1 := cap_le rb
  have hd0 := cap_le ri0
  have hd1 := cap_le ri1
  clear hl1 ra0 rb0 hz0 ri00 hz1 ri10
  by_cases hb0 : ((n : Int) + (m : Int)) ≤ 1048576
  rotate_left
  · have hif0 := leftT_out (n := (n + m)) (L := 1048576) (by omega)
    go_enter Try.func7, Try.ntmps7
    go_wp2_with fail
    refine (szKept_gen A n c B m d _ hc0 hc1 (by omega) (by omega) _).mono ?_
    rintro e V1 ⟨rfl, j1⟩
    rw [hif0]
    clear hif0
    go_wp2
    go_ret
    exact ⟨rfl, (KK.tr0 j1).below⟩
  have hif0 : leftT (1048576) (n + m) = 1048576 - ((n : Int) + (m : Int)) := (leftT_in (by omega)).trans (by omega)
  by_cases hb1 : ((q0 : Nat) : Int) ≤ 1048576 - ((n : Int) + (m : Int))
  rotate_left
  · have hif1 := leftT_out (n := q0) (L := 1048576 - ((n : Int) + (m : Int))) (by omega)
    go_enter Try.func7, Try.ntmps7
    go_wp2_with fail
    refine (szKept_gen A n c B m d _ hc0 hc1 (by omega) (by omega) _).mono ?_
    rintro e V1 ⟨rfl, j1⟩
    rw [hif0]
    clear hif0
    go_wp2_with fail
    refine (szSlotS_gen I0 q0 f0 _ hd0 (by omega) (by omega) _).mono ?_
    rintro e w' ⟨rfl, rfl⟩
    rw [hif1]
    clear hif1
    go_wp2
    go_ret
    exact ⟨rfl, (KK.tr0 j1).below⟩
  have hif1 : leftT (1048576 - ((n : Int) + (m : Int))) q0 = 1048576 - ((n : Int) + (m : Int)) - ((q0 : Nat) : Int) := (leftT_in (by omega)).trans (by omega)
  by_cases hb2 : ((q1 : Nat) : Int) ≤ 1048576 - ((n : Int) + (m : Int)) - ((q0 : Nat) : Int)
  rotate_left
  · have hif2 := leftT_out (n := q1) (L := 1048576 - ((n : Int) + (m : Int)) - ((q0 : Nat) : Int)) (by omega)
    go_enter Try.func7, Try.ntmps7
    go_wp2_with fail
    refine (szKept_gen A n c B m d _ hc0 hc1 (by omega) (by omega) _).mono ?_
    rintro e V1 ⟨rfl, j1⟩
    rw [hif0]
    clear hif0
    go_wp2_with fail
    refine (szSlotS_gen I0 q0 f0 _ hd0 (by omega) (by omega) _).mono ?_
    rintro e w' ⟨rfl, rfl⟩
    rw [hif1]
    clear hif1
    go_wp2_with fail
    refine (szSlotS_gen I1 q1 f1 _ hd1 (by omega) (by omega) _).mono ?_
    rintro e w' ⟨rfl, rfl⟩
    rw [hif2]
    clear hif2
    go_wp2
    go_ret
    exact ⟨rfl, (KK.tr0 j1).below⟩
  have hif2 : leftT (1048576 - ((n : Int) + (m : Int)) - ((q0 : Nat) : Int)) q1 = 1048576 - ((n : Int) + (m : Int)) - ((q0 : Nat) : Int) - ((q1 : Nat) : Int) := (leftT_in (by omega)).trans (by omega)
  obtain ⟨RK, RL, hR⟩ : ∃ RK RL, fillT ks l l0 l1 p = (RK, RL) := ⟨_, _, rfl⟩
  have hRl : RK.length ≤ 1048576 ∧ RL.length ≤ 1048576 := by have := fillT_length ks l l0 l1 p; rw [hR] at this; simp only at this; omega
  have HR := Lib.hid hR
  clear hR
  obtain ⟨NX, hNX⟩ : ∃ N, (bols ks).length = N := ⟨_, rfl⟩
  have bNX : NX ≤ 2097152 := by rw [← hNX, bols_length]; omega
  have HNX := Lib.hid hNX
  obtain ⟨MX, hMX⟩ : ∃ N, (ints (twosI l)).length = N := ⟨_, rfl⟩
  have bMX : MX ≤ 2097152 := by rw [← hMX, ints_length, twosI_length]; omega
  have HMX := Lib.hid hMX
  obtain ⟨NG, hNG⟩ : ∃ N, (bols RK).length = N := ⟨_, rfl⟩
  have bNG : NG ≤ 2097152 := by rw [← hNG, bols_length]; omega
  have HNG := Lib.hid hNG
  obtain ⟨MG, hMG⟩ : ∃ N, (ints (twosI RL)).length = N := ⟨_, rfl⟩
  have bMG : MG ≤ 2097152 := by rw [← hMG, ints_length, twosI_length]; omega
  have HMG := Lib.hid hMG
  obtain ⟨NZ0, hNZ0⟩ : ∃ N, (ints (twosI l0)).length = N := ⟨_, rfl⟩
  have bNZ0 : NZ0 ≤ 2097152 := by rw [← hNZ0, ints_length, twosI_length]; omega
  have HNZ0 := Lib.hid hNZ0
  obtain ⟨NZ1, hNZ1⟩ : ∃ N, (ints (twosI l1)).length = N := ⟨_, rfl⟩
  have bNZ1 : NZ1 ≤ 2097152 := by rw [← hNZ1, ints_length, twosI_length]; omega
  have HNZ1 := Lib.hid hNZ1
  clear hNX hMX hNG hMG hNZ0 hNZ1 hRl
  have hx0 := Lib.hid (show ks.length ≤ 1048576 from by omega)
  have hx1 := Lib.hid (show (twosI l).length ≤ 2097152 from by rw [twosI_length]; omega)
  have hy0 := Lib.hid (show (twosI l0).length ≤ 2097152 from by rw [twosI_length]; omega)
  have hy1 := Lib.hid (show (twosI l1).length ≤ 2097152 from by rw [twosI_length]; omega)
  have hw0 := Lib.hid (show l0.length ≤ 1048576 from by omega)
  have hw1 := Lib.hid (show l1.length ≤ 1048576 from by omega)
  have HN := Lib.hid hl0
  have HM := Lib.hid hm
  clear hl0 hm
  have HQ0 := Lib.hid hq0
  clear hq0
  have HQ1 := Lib.hid hq1
  clear hq1
  have K0 := Keep.refl 0 0 (w.alloc (.cells #[.slice A n c, .slice B m d] 25))
  have bx0 : w.heap.size < (w.alloc (.cells #[.slice A n c, .slice B m d] 25)).heap.size := by simp
  have c0_0 : (w.alloc (.cells #[.slice A n c, .slice B m d] 25)).cell? ⟨w.heap.size, 0, none⟩ = some (.slice A n c) := by go_cell
  have c0_1 : (w.alloc (.cells #[.slice A n c, .slice B m d] 25)).cell? ⟨w.heap.size, 1, none⟩ = some (.slice B m d) := by go_cell
  have hbs := bx0
  go_enter Try.func7, Try.ntmps7
  go_wp2_with fail
  refine (szKept_gen A n c B m d _ hc0 hc1 (by omega) (by omega) _).mono ?_
  rintro e W1 ⟨rfl, k1⟩
  have s1 := k1.size
  replace c0_0 : W1.cell? ⟨w.heap.size, 0, none⟩ = some (.slice A n c) := k1.cells bx0 c0_0
  replace c0_1 : W1.cell? ⟨w.heap.size, 1, none⟩ = some (.slice B m d) := k1.cells bx0 c0_1
  replace bx0 : w.heap.size < W1.heap.size := Nat.lt_of_lt_of_le bx0 k1.size
  have K1 := K0.tr0 k1
  clear K0 k1
  rw [hif0]
  clear hif0
  go_wp2_with fail
  refine (szSlotS_gen I0 q0 f0 _ hd0 (by omega) (by omega) _).mono ?_
  rintro e w' ⟨rfl, rfl⟩
  rw [hif1]
  clear hif1
  go_wp2_with fail
  refine (szSlotS_gen I1 q1 f1 _ hd1 (by omega) (by omega) _).mono ?_
  rintro e w' ⟨rfl, rfl⟩
  rw [hif2]
  clear hif2
  go_wp2_with fail
  refine (toKept_any _ _ _ _ _ ks _ (ra.keep K1 (Nat.le_refl _) (.inr (Nat.le_refl 0))) (rb.keep K1 (Nat.le_refl _) (.inr (Nat.le_refl 0))) K1.size K1.size hx0.out hx1.out).mono ?_
  rintro e W2 ⟨pa, pb, rfl, rp, k2⟩
  have s2 := k2.size
  replace c0_0 : W2.cell? ⟨w.heap.size, 0, none⟩ = some (.slice A n c) := k2.cells bx0 c0_0
  replace c0_1 : W2.cell? ⟨w.heap.size, 1, none⟩ = some (.slice B m d) := k2.cells bx0 c0_1
  replace bx0 : w.heap.size < W2.heap.size := Nat.lt_of_lt_of_le bx0 k2.size
  have K2 := K1.tr0 k2
  clear K1 k2
  obtain ⟨pA, pn, pc, rfl⟩ := rp.a.slice
  obtain ⟨pB, pm, pd, rfl⟩ := rp.b.slice
  go_wp2_with fail
  refine (toSlotS_any _ _ _ _ (ri0.keep K2 (Nat.le_refl _) (.inr (Nat.le_refl 0))) hy0.out).mono ?_
  rintro e W3 ⟨ps0, rfl, rps0, k3⟩
  have s3 := k3.size
  replace c0_0 : W3.cell? ⟨w.heap.size, 0, none⟩ = some (.slice A n c) := k3.cells bx0 c0_0
  replace c0_1 : W3.cell? ⟨w.heap.size, 1, none⟩ = some (.slice B m d) := k3.cells bx0 c0_1
  replace bx0 : w.heap.size < W3.heap.size := Nat.lt_of_lt_of_le bx0 k3.size
  replace rp := rp.keep k3 (.inr (.inr (Nat.le_refl 0)))
  have K3 := K2.tr0 k3
  clear K2 k3
  obtain ⟨ps0A, ps0n, ps0c, rfl⟩ := rps0.slice
  go_wp2_with fail
  refine (toSlotS_any _ _ _ _ (ri1.keep K3 (Nat.le_refl _) (.inr (Nat.le_refl 0))) hy1.out).mono ?_
  rintro e W4 ⟨ps1, rfl, rps1, k4⟩
  have s4 := k4.size
  replace c0_0 : W4.cell? ⟨w.heap.size, 0, none⟩ = some (.slice A n c) := k4.cells bx0 c0_0
  replace c0_1 : W4.cell? ⟨w.heap.size, 1, none⟩ = some (.slice B m d) := k4.cells bx0 c0_1
  replace bx0 : w.heap.size < W4.heap.size := Nat.lt_of_lt_of_le bx0 k4.size
  replace rp := rp.keep k4 (.inr (.inr (Nat.le_refl 0)))
  replace rps0 := rps0.keep k4 (.inr (.inr (Nat.le_refl 0)))
  have K4 := K3.tr0 k4
  clear K3 k4
  obtain ⟨ps1A, ps1n, ps1c, rfl⟩ := rps1.slice
  go_wp2_with fail
  refine (specFill_any _ _ _ _ _ _ _ _ _ ks l l0 l1 p rp.a.rd rp.b.rd rps0.rd rps1.rd (by omega) (by omega) (by omega) hx0.out hx1.out).mono ?_
  rintro e W5 ⟨w0, w1, rfl, rw, k5⟩
  have s5 := k5.size
  replace c0_0 : W5.cell? ⟨w.heap.size, 0, none⟩ = some (.slice A n c) := k5.cells bx0 c0_0
  replace c0_1 : W5.cell? ⟨w.heap.size, 1, none⟩ = some (.slice B m d) := k5.cells bx0 c0_1
  replace bx0 : w.heap.size < W5.heap.size := Nat.lt_of_lt_of_le bx0 k5.size
  replace rp := rp.keep k5 (.inr (.inr (Nat.le_refl 0)))
  replace rps0 := rps0.keep k5 (.inr (.inr (Nat.le_refl 0)))
  replace rps1 := rps1.keep k5 (.inr (.inr (Nat.le_refl 0)))
  have K5 := K4.tr0 k5
  clear K4 k5
  obtain ⟨wA, wn, wc, rfl⟩ := rw.a.slice
  obtain ⟨wB, wm, wd, rfl⟩ := rw.b.slice
  replace rw := rw.cast HR.out
  clear rp
  clear rps0
  clear rps1
  have ka1 := keep_1 W5 (.cells #[.slice wA wn wc, .slice wB wm wd] 31)
  replace c0_0 : (W5.alloc (.cells #[.slice wA wn wc, .slice wB wm wd] 31)).cell? ⟨w.heap.size, 0, none⟩ = some (.slice A n c) := ka1.cells bx0 c0_0
  replace c0_1 : (W5.alloc (.cells #[.slice wA wn wc, .slice wB wm wd] 31)).cell? ⟨w.heap.size, 1, none⟩ = some (.slice B m d) := ka1.cells bx0 c0_1
  replace bx0 : w.heap.size < (W5.alloc (.cells #[.slice wA wn wc, .slice wB wm wd] 31)).heap.size := Nat.lt_of_lt_of_le bx0 ka1.size
  replace rw := rw.keep ka1 (.inr (.inr (Nat.le_refl 0)))
  have K5a := K5.tr0 ka1
  clear K5 ka1
  have sa1 : W5.heap.size + 1 = (W5.alloc (.cells #[.slice wA wn wc, .slice wB wm wd] 31)).heap.size := by simp
  have HA1 := Lib.hid sa1
  replace sa1 : W5.heap.size < (W5.alloc (.cells #[.slice wA wn wc, .slice wB wm wd] 31)).heap.size := by omega
  have bx1 : W5.heap.size < (W5.alloc (.cells #[.slice wA wn wc, .slice wB wm wd] 31)).heap.size := by simp
  have c1_0 : (W5.alloc (.cells #[.slice wA wn wc, .slice wB wm wd] 31)).cell? ⟨W5.heap.size, 0, none⟩ = some (.slice wA wn wc) := by go_cell
  have c1_1 : (W5.alloc (.cells #[.slice wA wn wc, .slice wB wm wd] 31)).cell? ⟨W5.heap.size, 1, none⟩ = some (.slice wB wm wd) := by go_cell
  go_wp2_with fail
  refine (toKept_any _ _ _ _ _ ks _ (ra.keep K5a (Nat.le_refl _) (.inr (Nat.le_refl 0))) (rb.keep K5a (Nat.le_refl _) (.inr (Nat.le_refl 0))) K5a.size K5a.size hx0.out hx1.out).mono ?_
  rintro e W6 ⟨xa, xb, rfl, rx, k6⟩
  have s6 := k6.size
  replace c0_0 : W6.cell? ⟨w.heap.size, 0, none⟩ = some (.slice A n c) := k6.cells bx0 c0_0
  replace c0_1 : W6.cell? ⟨w.heap.size, 1, none⟩ = some (.slice B m d) := k6.cells bx0 c0_1
  replace c1_0 : W6.cell? ⟨W5.heap.size, 0, none⟩ = some (.slice wA wn wc) := k6.cells bx1 c1_0
  replace c1_1 : W6.cell? ⟨W5.heap.size, 1, none⟩ = some (.slice wB wm wd) := k6.cells bx1 c1_1
  replace bx0 : w.heap.size < W6.heap.size := Nat.lt_of_lt_of_le bx0 k6.size
  replace bx1 : W5.heap.size < W6.heap.size := Nat.lt_of_lt_of_le bx1 k6.size
  replace rw := rw.keep k6 (.inr (.inr (Nat.le_refl 0)))
  have K6 := K5a.tr0 k6
  clear K5a k6
  obtain ⟨xA, xn, xc, rfl⟩ := rx.a.slice
  obtain ⟨xB, xm, xd, rfl⟩ := rx.b.slice
  have ka2 := keep_1 W6 (.cells #[.slice xA xn xc, .slice xB xm xd] 31)
  replace c0_0 : (W6.alloc (.cells #[.slice xA xn xc, .slice xB xm xd] 31)).cell? ⟨w.heap.size, 0, none⟩ = some (.slice A n c) := ka2.cells bx0 c0_0
  replace c0_1 : (W6.alloc (.cells #[.slice xA xn xc, .slice xB xm xd] 31)).cell? ⟨w.heap.size, 1, none⟩ = some (.slice B m d) := ka2.cells bx0 c0_1
  replace c1_0 : (W6.alloc (.cells #[.slice xA xn xc, .slice xB xm xd] 31)).cell? ⟨W5.heap.size, 0, none⟩ = some (.slice wA wn wc) := ka2.cells bx1 c1_0
  replace c1_1 : (W6.alloc (.cells #[.slice xA xn xc, .slice xB xm xd] 31)).cell? ⟨W5.heap.size, 1, none⟩ = some (.slice wB wm wd) := ka2.cells bx1 c1_1
  replace bx0 : w.heap.size < (W6.alloc (.cells #[.slice xA xn xc, .slice xB xm xd] 31)).heap.size := Nat.lt_of_lt_of_le bx0 ka2.size
  replace bx1 : W5.heap.size < (W6.alloc (.cells #[.slice xA xn xc, .slice xB xm xd] 31)).heap.size := Nat.lt_of_lt_of_le bx1 ka2.size
  replace rw := rw.keep ka2 (.inr (.inr (Nat.le_refl 0)))
  replace rx := rx.keep ka2 (.inr (.inr (Nat.le_refl 0)))
  have K6a := K6.tr0 ka2
  clear K6 ka2
  have sa2 : W6.heap.size + 1 = (W6.alloc (.cells #[.slice xA xn xc, .slice xB xm xd] 31)).heap.size := by simp
  have HA2 := Lib.hid sa2
  replace sa2 : W6.heap.size < (W6.alloc (.cells #[.slice xA xn xc, .slice xB xm xd] 31)).heap.size := by omega
  have bx2 : W6.heap.size < (W6.alloc (.cells #[.slice xA xn xc, .slice xB xm xd] 31)).heap.size := by simp
  have c2_0 : (W6.alloc (.cells #[.slice xA xn xc, .slice xB xm xd] 31)).cell? ⟨W6.heap.size, 0, none⟩ = some (.slice xA xn xc) := by go_cell
  have c2_1 : (W6.alloc (.cells #[.slice xA xn xc, .slice xB xm xd] 31)).cell? ⟨W6.heap.size, 1, none⟩ = some (.slice xB xm xd) := by go_cell
  go_wp2_with fail
  refine (toSlotS_any _ _ _ _ (ri0.keep K6a (Nat.le_refl _) (.inr (Nat.le_refl 0))) hy0.out).mono ?_
  rintro e W7 ⟨xs0, rfl, rxs0, k7⟩
  have s7 := k7.size
  replace c0_0 : W7.cell? ⟨w.heap.size, 0, none⟩ = some (.slice A n c) := k7.cells bx0 c0_0
  replace c0_1 : W7.cell? ⟨w.heap.size, 1, none⟩ = some (.slice B m d) := k7.cells bx0 c0_1
  replace c1_0 : W7.cell? ⟨W5.heap.size, 0, none⟩ = some (.slice wA wn wc) := k7.cells bx1 c1_0
  replace c1_1 : W7.cell? ⟨W5.heap.size, 1, none⟩ = some (.slice wB wm wd) := k7.cells bx1 c1_1
  replace c2_0 : W7.cell? ⟨W6.heap.size, 0, none⟩ = some (.slice xA xn xc) := k7.cells bx2 c2_0
  replace c2_1 : W7.cell? ⟨W6.heap.size, 1, none⟩ = some (.slice xB xm xd) := k7.cells bx2 c2_1
  replace bx0 : w.heap.size < W7.heap.size := Nat.lt_of_lt_of_le bx0 k7.size
  replace bx1 : W5.heap.size < W7.heap.size := Nat.lt_of_lt_of_le bx1 k7.size
  replace bx2 : W6.heap.size < W7.heap.size := Nat.lt_of_lt_of_le bx2 k7.size
  replace rw := rw.keep k7 (.inr (.inr (Nat.le_refl 0)))
  replace rx := rx.keep k7 (.inr (.inr (Nat.le_refl 0)))
  have K7 := K6a.tr0 k7
  clear K6a k7
  obtain ⟨xs0A, xs0n, xs0c, rfl⟩ := rxs0.slice
  go_wp2_with fail
  refine (toSlotS_any _ _ _ _ (ri1.keep K7 (Nat.le_refl _) (.inr (Nat.le_refl 0))) hy1.out).mono ?_
  rintro e W8 ⟨xs1, rfl, rxs1, k8⟩
  have s8 := k8.size
  replace c0_0 : W8.cell? ⟨w.heap.size, 0, none⟩ = some (.slice A n c) := k8.cells bx0 c0_0
  replace c0_1 : W8.cell? ⟨w.heap.size, 1, none⟩ = some (.slice B m d) := k8.cells bx0 c0_1
  replace c1_0 : W8.cell? ⟨W5.heap.size, 0, none⟩ = some (.slice wA wn wc) := k8.cells bx1 c1_0
  replace c1_1 : W8.cell? ⟨W5.heap.size, 1, none⟩ = some (.slice wB wm wd) := k8.cells bx1 c1_1
  replace c2_0 : W8.cell? ⟨W6.heap.size, 0, none⟩ = some (.slice xA xn xc) := k8.cells bx2 c2_0
  replace c2_1 : W8.cell? ⟨W6.heap.size, 1, none⟩ = some (.slice xB xm xd) := k8.cells bx2 c2_1
  replace bx0 : w.heap.size < W8.heap.size := Nat.lt_of_lt_of_le bx0 k8.size
  replace bx1 : W5.heap.size < W8.heap.size := Nat.lt_of_lt_of_le bx1 k8.size
  replace bx2 : W6.heap.size < W8.heap.size := Nat.lt_of_lt_of_le bx2 k8.size
  replace rw := rw.keep k8 (.inr (.inr (Nat.le_refl 0)))
  replace rx := rx.keep k8 (.inr (.inr (Nat.le_refl 0)))
  replace rxs0 := rxs0.keep k8 (.inr (.inr (Nat.le_refl 0)))
  have K8 := K7.tr0 k8
  clear K7 k8
  obtain ⟨xs1A, xs1n, xs1c, rfl⟩ := rxs1.slice
  go_wp2_with fail
  refine (implFill_any _ _ _ _ _ _ _ _ _ ks l l0 l1 p rx.a.rd rx.b.rd rxs0.rd rxs1.rd (by omega) (by omega) (by omega) hx0.out hx1.out).mono ?_
  rintro e W9 ⟨g0, g1, rfl, rg, k9⟩
  have s9 := k9.size
  replace c0_0 : W9.cell? ⟨w.heap.size, 0, none⟩ = some (.slice A n c) := k9.cells bx0 c0_0
  replace c0_1 : W9.cell? ⟨w.heap.size, 1, none⟩ = some (.slice B m d) := k9.cells bx0 c0_1
  replace c1_0 : W9.cell? ⟨W5.heap.size, 0, none⟩ = some (.slice wA wn wc) := k9.cells bx1 c1_0
  replace c1_1 : W9.cell? ⟨W5.heap.size, 1, none⟩ = some (.slice wB wm wd) := k9.cells bx1 c1_1
  replace c2_0 : W9.cell? ⟨W6.heap.size, 0, none⟩ = some (.slice xA xn xc) := k9.cells bx2 c2_0
  replace c2_1 : W9.cell? ⟨W6.heap.size, 1, none⟩ = some (.slice xB xm xd) := k9.cells bx2 c2_1
  replace bx0 : w.heap.size < W9.heap.size := Nat.lt_of_lt_of_le bx0 k9.size
  replace bx1 : W5.heap.size < W9.heap.size := Nat.lt_of_lt_of_le bx1 k9.size
  replace bx2 : W6.heap.size < W9.heap.size := Nat.lt_of_lt_of_le bx2 k9.size
  replace rw := rw.keep k9 (.inr (.inr (Nat.le_refl 0)))
  replace rx := rx.keep k9 (.inr (.inr (Nat.le_refl 0)))
  replace rxs0 := rxs0.keep k9 (.inr (.inr (Nat.le_refl 0)))
  replace rxs1 := rxs1.keep k9 (.inr (.inr (Nat.le_refl 0)))
  have K9 := K8.tr0 k9
  clear K8 k9
  obtain ⟨gA, gn, gc, rfl⟩ := rg.a.slice
  obtain ⟨gB, gm, gd, rfl⟩ := rg.b.slice
  replace rg := rg.cast HR.out
  have ka3 := keep_1 W9 (.cells #[.slice gA gn gc, .slice gB gm gd] 31)
  replace c0_0 : (W9.alloc (.cells #[.slice gA gn gc, .slice gB gm gd] 31)).cell? ⟨w.heap.size, 0, none⟩ = some (.slice A n c) := ka3.cells bx0 c0_0
  replace c0_1 : (W9.alloc (.cells #[.slice gA gn gc, .slice gB gm gd] 31)).cell? ⟨w.heap.size, 1, none⟩ = some (.slice B m d) := ka3.cells bx0 c0_1
  replace c1_0 : (W9.alloc (.cells #[.slice gA gn gc, .slice gB gm gd] 31)).cell? ⟨W5.heap.size, 0, none⟩ = some (.slice wA wn wc) := ka3.cells bx1 c1_0
  replace c1_1 : (W9.alloc (.cells #[.slice gA gn gc, .slice gB gm gd] 31)).cell? ⟨W5.heap.size, 1, none⟩ = some (.slice wB wm wd) := ka3.cells bx1 c1_1
  replace c2_0 : (W9.alloc (.cells #[.slice gA gn gc, .slice gB gm gd] 31)).cell? ⟨W6.heap.size, 0, none⟩ = some (.slice xA xn xc) := ka3.cells bx2 c2_0
  replace c2_1 : (W9.alloc (.cells #[.slice gA gn gc, .slice gB gm gd] 31)).cell? ⟨W6.heap.size, 1, none⟩ = some (.slice xB xm xd) := ka3.cells bx2 c2_1
  replace bx0 : w.heap.size < (W9.alloc (.cells #[.slice gA gn gc, .slice gB gm gd] 31)).heap.size := Nat.lt_of_lt_of_le bx0 ka3.size
  replace bx1 : W5.heap.size < (W9.alloc (.cells #[.slice gA gn gc, .slice gB gm gd] 31)).heap.size := Nat.lt_of_lt_of_le bx1 ka3.size
  replace bx2 : W6.heap.size < (W9.alloc (.cells #[.slice gA gn gc, .slice gB gm gd] 31)).heap.size := Nat.lt_of_lt_of_le bx2 ka3.size
  replace rw := rw.keep ka3 (.inr (.inr (Nat.le_refl 0)))
  replace rx := rx.keep ka3 (.inr (.inr (Nat.le_refl 0)))
  replace rxs0 := rxs0.keep ka3 (.inr (.inr (Nat.le_refl 0)))
  replace rxs1 := rxs1.keep ka3 (.inr (.inr (Nat.le_refl 0)))
  replace rg := rg.keep ka3 (.inr (.inr (Nat.le_refl 0)))
  have K9a := K9.tr0 ka3
  clear K9 ka3
  have sa3 : W9.heap.size + 1 = (W9.alloc (.cells #[.slice gA gn gc, .slice gB gm gd] 31)).heap.size := by simp
  have HA3 := Lib.hid sa3
  replace sa3 : W9.heap.size < (W9.alloc (.cells #[.slice gA gn gc, .slice gB gm gd] 31)).heap.size := by omega
  have bx3 : W9.heap.size < (W9.alloc (.cells #[.slice gA gn gc, .slice gB gm gd] 31)).heap.size := by simp
  have c3_0 : (W9.alloc (.cells #[.slice gA gn gc, .slice gB gm gd] 31)).cell? ⟨W9.heap.size, 0, none⟩ = some (.slice gA gn gc) := by go_cell
  have c3_1 : (W9.alloc (.cells #[.slice gA gn gc, .slice gB gm gd] 31)).cell? ⟨W9.heap.size, 1, none⟩ = some (.slice gB gm gd) := by go_cell
  go_wp2_with fail
  refine (eqKept_any _ _ _ _ _ _ _ _ _ _ _ _ _ rg.a.rd rg.b.rd rw.a.rd rw.b.rd (by omega) (by omega) (by omega) (by omega)).mono ?_
  rintro e W10 ⟨rfl, k10⟩
  have s10 := k10.size
  replace c0_0 : W10.cell? ⟨w.heap.size, 0, none⟩ = some (.slice A n c) := k10.cells bx0 c0_0
  replace c0_1 : W10.cell? ⟨w.heap.size, 1, none⟩ = some (.slice B m d) := k10.cells bx0 c0_1
  replace c1_0 : W10.cell? ⟨W5.heap.size, 0, none⟩ = some (.slice wA wn wc) := k10.cells bx1 c1_0
  replace c1_1 : W10.cell? ⟨W5.heap.size, 1, none⟩ = some (.slice wB wm wd) := k10.cells bx1 c1_1
  replace c2_0 : W10.cell? ⟨W6.heap.size, 0, none⟩ = some (.slice xA xn xc) := k10.cells bx2 c2_0
  replace c2_1 : W10.cell? ⟨W6.heap.size, 1, none⟩ = some (.slice xB xm xd) := k10.cells bx2 c2_1
  replace c3_0 : W10.cell? ⟨W9.heap.size, 0, none⟩ = some (.slice gA gn gc) := k10.cells bx3 c3_0
  replace c3_1 : W10.cell? ⟨W9.heap.size, 1, none⟩ = some (.slice gB gm gd) := k10.cells bx3 c3_1
  replace bx0 : w.heap.size < W10.heap.size := Nat.lt_of_lt_of_le bx0 k10.size
  replace bx1 : W5.heap.size < W10.heap.size := Nat.lt_of_lt_of_le bx1 k10.size
  replace bx2 : W6.heap.size < W10.heap.size := Nat.lt_of_lt_of_le bx2 k10.size
  replace bx3 : W9.heap.size < W10.heap.size := Nat.lt_of_lt_of_le bx3 k10.size
  replace rw := rw.keep k10 (.inr (.inr (Nat.le_refl 0)))
  replace rx := rx.keep k10 (.inr (.inr (Nat.le_refl 0)))
  replace rxs0 := rxs0.keep k10 (.inr (.inr (Nat.le_refl 0)))
  replace rxs1 := rxs1.keep k10 (.inr (.inr (Nat.le_refl 0)))
  replace rg := rg.keep k10 (.inr (.inr (Nat.le_refl 0)))
  have K10 := K9a.tr0 k10
  clear K9a k10
  simp only [decide_true, Bool.and_self]
  have HS10 := Lib.hid (show ∀ w' : World, Keep 0 0 W10 w' → w'.cell? ⟨w.heap.size, 0, none⟩ = some (.slice A n c) ∧ w'.cell? ⟨w.heap.size, 1, none⟩ = some (.slice B m d) ∧ w'.cell? ⟨W6.heap.size, 0, none⟩ = some (.slice xA xn xc) ∧ w'.cell? ⟨W6.heap.size, 1, none⟩ = some (.slice xB xm xd) ∧ Keep 0 0 W10 w' from fun w' h => ⟨h.cells bx0 c0_0, h.cells bx0 c0_1, h.cells bx2 c2_0, h.cells bx2 c2_1, h⟩)
  have HT10 := Lib.hid (show ∀ w1 w2 : World, (w1.cell? ⟨w.heap.size, 0, none⟩ = some (.slice A n c) ∧ w1.cell? ⟨w.heap.size, 1, none⟩ = some (.slice B m d) ∧ w1.cell? ⟨W6.heap.size, 0, none⟩ = some (.slice xA xn xc) ∧ w1.cell? ⟨W6.heap.size, 1, none⟩ = some (.slice xB xm xd) ∧ Keep 0 0 W10 w1) → Keep 0 0 w1 w2 → w2.cell? ⟨w.heap.size, 0, none⟩ = some (.slice A n c) ∧ w2.cell? ⟨w.heap.size, 1, none⟩ = some (.slice B m d) ∧ w2.cell? ⟨W6.heap.size, 0, none⟩ = some (.slice xA xn xc) ∧ w2.cell? ⟨W6.heap.size, 1, none⟩ = some (.slice xB xm xd) ∧ Keep 0 0 W10 w2 from fun w1 w2 h k => HS10.out _ (h.2.2.2.2.tr0 k))
  have KD := (Keep.refl 0 0 W10).drew
  have raD := (ra.keep K10 (Nat.le_refl _) (.inr (Nat.le_refl 0))).keep KD K10.size (.inr (Nat.le_refl 0))
  have rbD := (rb.keep K10 (Nat.le_refl _) (.inr (Nat.le_refl 0))).keep KD K10.size (.inr (Nat.le_refl 0))
  have zD : (w.alloc (.cells #[.slice A n c, .slice B m d] 25)).heap.size ≤ W10.drew.heap.size := K10.size
  go_wp2_with fail
  go_region_held3 (fun w' => w'.cell? ⟨w.heap.size, 0, none⟩ = some (.slice A n c) ∧ w'.cell? ⟨w.heap.size, 1, none⟩ = some (.slice B m d) ∧ w'.cell? ⟨W6.heap.size, 0, none⟩ = some (.slice xA xn xc) ∧ w'.cell? ⟨W6.heap.size, 1, none⟩ = some (.slice xB xm xd) ∧ Keep 0 0 W10 w')
    (first | (with_reducible exact HS10.out _ KD) | (refine HT10.out ?_ _ ?_ ?_; rotate_right; (with_reducible assumption); (with_reducible assumption)) | fail)
    (first
      | (go_at_call 11; refine (toKept_any _ _ _ _ _ ks _ raD rbD zD zD hx0.out hx1.out).mono ?_; rintro e W11 ⟨va11, vb11, rfl, rt11, k11⟩)
      | (go_at_call 14; refine (eqKept_any _ _ _ _ _ _ _ _ _ _ _ _ _ ((rx.keep (KD.tr0 k11) (.inr (.inr (Nat.le_refl 0)))).a.rd) ((rx.keep (KD.tr0 k11) (.inr (.inr (Nat.le_refl 0)))).b.rd) rt11.a.rd rt11.b.rd (by have := (KD.tr0 k11).size; omega) (by have := (KD.tr0 k11).size; omega) (Nat.le_refl _) (Nat.le_refl _)).mono ?_; rintro e W12 ⟨rfl, k12⟩)
      | fail)
  have kk12 := (KD.tr0 k11).tr0 k12
  have s12 := kk12.size
  replace c0_0 : W12.cell? ⟨w.heap.size, 0, none⟩ = some (.slice A n c) := kk12.cells bx0 c0_0
  replace c0_1 : W12.cell? ⟨w.heap.size, 1, none⟩ = some (.slice B m d) := kk12.cells bx0 c0_1
  replace c1_0 : W12.cell? ⟨W5.heap.size, 0, none⟩ = some (.slice wA wn wc) := kk12.cells bx1 c1_0
  replace c1_1 : W12.cell? ⟨W5.heap.size, 1, none⟩ = some (.slice wB wm wd) := kk12.cells bx1 c1_1
  replace c2_0 : W12.cell? ⟨W6.heap.size, 0, none⟩ = some (.slice xA xn xc) := kk12.cells bx2 c2_0
  replace c2_1 : W12.cell? ⟨W6.heap.size, 1, none⟩ = some (.slice xB xm xd) := kk12.cells bx2 c2_1
  replace c3_0 : W12.cell? ⟨W9.heap.size, 0, none⟩ = some (.slice gA gn gc) := kk12.cells bx3 c3_0
  replace c3_1 : W12.cell? ⟨W9.heap.size, 1, none⟩ = some (.slice gB gm gd) := kk12.cells bx3 c3_1
  replace bx0 : w.heap.size < W12.heap.size := Nat.lt_of_lt_of_le bx0 kk12.size
  replace bx1 : W5.heap.size < W12.heap.size := Nat.lt_of_lt_of_le bx1 kk12.size
  replace bx2 : W6.heap.size < W12.heap.size := Nat.lt_of_lt_of_le bx2 kk12.size
  replace bx3 : W9.heap.size < W12.heap.size := Nat.lt_of_lt_of_le bx3 kk12.size
  replace rw := rw.keep kk12 (.inr (.inr (Nat.le_refl 0)))
  replace rx := rx.keep kk12 (.inr (.inr (Nat.le_refl 0)))
  replace rxs0 := rxs0.keep kk12 (.inr (.inr (Nat.le_refl 0)))
  replace rxs1 := rxs1.keep kk12 (.inr (.inr (Nat.le_refl 0)))
  replace rg := rg.keep kk12 (.inr (.inr (Nat.le_refl 0)))
  have K12 := K10.tr0 kk12
  clear raD rbD zD KD rt11 k11 k12 kk12 K10 HS10 HT10
  go_wp2_with fail
  refine (toSlotS_any _ _ _ _ (ri0.keep K12 (Nat.le_refl _) (.inr (Nat.le_refl 0))) hy0.out).mono ?_
  rintro e W13 ⟨ts0, rfl, rts0, k13⟩
  have s13 := k13.size
  replace c0_0 : W13.cell? ⟨w.heap.size, 0, none⟩ = some (.slice A n c) := k13.cells bx0 c0_0
  replace c0_1 : W13.cell? ⟨w.heap.size, 1, none⟩ = some (.slice B m d) := k13.cells bx0 c0_1
  replace c1_0 : W13.cell? ⟨W5.heap.size, 0, none⟩ = some (.slice wA wn wc) := k13.cells bx1 c1_0
  replace c1_1 : W13.cell? ⟨W5.heap.size, 1, none⟩ = some (.slice wB wm wd) := k13.cells bx1 c1_1
  replace c2_0 : W13.cell? ⟨W6.heap.size, 0, none⟩ = some (.slice xA xn xc) := k13.cells bx2 c2_0
  replace c2_1 : W13.cell? ⟨W6.heap.size, 1, none⟩ = some (.slice xB xm xd) := k13.cells bx2 c2_1
  replace c3_0 : W13.cell? ⟨W9.heap.size, 0, none⟩ = some (.slice gA gn gc) := k13.cells bx3 c3_0
  replace c3_1 : W13.cell? ⟨W9.heap.size, 1, none⟩ = some (.slice gB gm gd) := k13.cells bx3 c3_1
  replace bx0 : w.heap.size < W13.heap.size := Nat.lt_of_lt_of_le bx0 k13.size
  replace bx1 : W5.heap.size < W13.heap.size := Nat.lt_of_lt_of_le bx1 k13.size
  replace bx2 : W6.heap.size < W13.heap.size := Nat.lt_of_lt_of_le bx2 k13.size
  replace bx3 : W9.heap.size < W13.heap.size := Nat.lt_of_lt_of_le bx3 k13.size
  replace rw := rw.keep k13 (.inr (.inr (Nat.le_refl 0)))
  replace rx := rx.keep k13 (.inr (.inr (Nat.le_refl 0)))
  replace rxs0 := rxs0.keep k13 (.inr (.inr (Nat.le_refl 0)))
  replace rxs1 := rxs1.keep k13 (.inr (.inr (Nat.le_refl 0)))
  replace rg := rg.keep k13 (.inr (.inr (Nat.le_refl 0)))
  have K13 := K12.tr0 k13
  clear K12 k13
  obtain ⟨ts0A, ts0n, ts0c, rfl⟩ := rts0.slice
  go_wp2_with fail
  refine (eqSlotS_any _ _ _ _ _ _ _ rxs0.rd rts0.rd).mono ?_
  rintro e W14 ⟨rfl, k14⟩
  have s14 := k14.size
  replace c0_0 : W14.cell? ⟨w.heap.size, 0, none⟩ = some (.slice A n c) := k14.cells bx0 c0_0
  replace c0_1 : W14.cell? ⟨w.heap.size, 1, none⟩ = some (.slice B m d) := k14.cells bx0 c0_1
  replace c1_0 : W14.cell? ⟨W5.heap.size, 0, none⟩ = some (.slice wA wn wc) := k14.cells bx1 c1_0
  replace c1_1 : W14.cell? ⟨W5.heap.size, 1, none⟩ = some (.slice wB wm wd) := k14.cells bx1 c1_1
  replace c2_0 : W14.cell? ⟨W6.heap.size, 0, none⟩ = some (.slice xA xn xc) := k14.cells bx2 c2_0
  replace c2_1 : W14.cell? ⟨W6.heap.size, 1, none⟩ = some (.slice xB xm xd) := k14.cells bx2 c2_1
  replace c3_0 : W14.cell? ⟨W9.heap.size, 0, none⟩ = some (.slice gA gn gc) := k14.cells bx3 c3_0
  replace c3_1 : W14.cell? ⟨W9.heap.size, 1, none⟩ = some (.slice gB gm gd) := k14.cells bx3 c3_1
  replace bx0 : w.heap.size < W14.heap.size := Nat.lt_of_lt_of_le bx0 k14.size
  replace bx1 : W5.heap.size < W14.heap.size := Nat.lt_of_lt_of_le bx1 k14.size
  replace bx2 : W6.heap.size < W14.heap.size := Nat.lt_of_lt_of_le bx2 k14.size
  replace bx3 : W9.heap.size < W14.heap.size := Nat.lt_of_lt_of_le bx3 k14.size
  replace rw := rw.keep k14 (.inr (.inr (Nat.le_refl 0)))
  replace rx := rx.keep k14 (.inr (.inr (Nat.le_refl 0)))
  replace rxs0 := rxs0.keep k14 (.inr (.inr (Nat.le_refl 0)))
  replace rxs1 := rxs1.keep k14 (.inr (.inr (Nat.le_refl 0)))
  replace rg := rg.keep k14 (.inr (.inr (Nat.le_refl 0)))
  replace rts0 := rts0.keep k14 (.inr (.inr (Nat.le_refl 0)))
  have K14 := K13.tr0 k14
  clear K13 k14
  simp only [decide_true]
  clear rts0
  go_wp2_with fail
  refine (toSlotS_any _ _ _ _ (ri1.keep K14 (Nat.le_refl _) (.inr (Nat.le_refl 0))) hy1.out).mono ?_
  rintro e W15 ⟨ts1, rfl, rts1, k15⟩
  have s15 := k15.size
  replace c0_0 : W15.cell? ⟨w.heap.size, 0, none⟩ = some (.slice A n c) := k15.cells bx0 c0_0
  replace c0_1 : W15.cell? ⟨w.heap.size, 1, none⟩ = some (.slice B m d) := k15.cells bx0 c0_1
  replace c1_0 : W15.cell? ⟨W5.heap.size, 0, none⟩ = some (.slice wA wn wc) := k15.cells bx1 c1_0
  replace c1_1 : W15.cell? ⟨W5.heap.size, 1, none⟩ = some (.slice wB wm wd) := k15.cells bx1 c1_1
  replace c2_0 : W15.cell? ⟨W6.heap.size, 0, none⟩ = some (.slice xA xn xc) := k15.cells bx2 c2_0
  replace c2_1 : W15.cell? ⟨W6.heap.size, 1, none⟩ = some (.slice xB xm xd) := k15.cells bx2 c2_1
  replace c3_0 : W15.cell? ⟨W9.heap.size, 0, none⟩ = some (.slice gA gn gc) := k15.cells bx3 c3_0
  replace c3_1 : W15.cell? ⟨W9.heap.size, 1, none⟩ = some (.slice gB gm gd) := k15.cells bx3 c3_1
  replace bx0 : w.heap.size < W15.heap.size := Nat.lt_of_lt_of_le bx0 k15.size
  replace bx1 : W5.heap.size < W15.heap.size := Nat.lt_of_lt_of_le bx1 k15.size
  replace bx2 : W6.heap.size < W15.heap.size := Nat.lt_of_lt_of_le bx2 k15.size
  replace bx3 : W9.heap.size < W15.heap.size := Nat.lt_of_lt_of_le bx3 k15.size
  replace rw := rw.keep k15 (.inr (.inr (Nat.le_refl 0)))
  replace rx := rx.keep k15 (.inr (.inr (Nat.le_refl 0)))
  replace rxs0 := rxs0.keep k15 (.inr (.inr (Nat.le_refl 0)))
  replace rxs1 := rxs1.keep k15 (.inr (.inr (Nat.le_refl 0)))
  replace rg := rg.keep k15 (.inr (.inr (Nat.le_refl 0)))
  have K15 := K14.tr0 k15
  clear K14 k15
  obtain ⟨ts1A, ts1n, ts1c, rfl⟩ := rts1.slice
  go_wp2_with fail
  refine (eqSlotS_any _ _ _ _ _ _ _ rxs1.rd rts1.rd).mono ?_
  rintro e W16 ⟨rfl, k16⟩
  have s16 := k16.size
  replace c0_0 : W16.cell? ⟨w.heap.size, 0, none⟩ = some (.slice A n c) := k16.cells bx0 c0_0
  replace c0_1 : W16.cell? ⟨w.heap.size, 1, none⟩ = some (.slice B m d) := k16.cells bx0 c0_1
  replace c1_0 : W16.cell? ⟨W5.heap.size, 0, none⟩ = some (.slice wA wn wc) := k16.cells bx1 c1_0
  replace c1_1 : W16.cell? ⟨W5.heap.size, 1, none⟩ = some (.slice wB wm wd) := k16.cells bx1 c1_1
  replace c2_0 : W16.cell? ⟨W6.heap.size, 0, none⟩ = some (.slice xA xn xc) := k16.cells bx2 c2_0
  replace c2_1 : W16.cell? ⟨W6.heap.size, 1, none⟩ = some (.slice xB xm xd) := k16.cells bx2 c2_1
  replace c3_0 : W16.cell? ⟨W9.heap.size, 0, none⟩ = some (.slice gA gn gc) := k16.cells bx3 c3_0
  replace c3_1 : W16.cell? ⟨W9.heap.size, 1, none⟩ = some (.slice gB gm gd) := k16.cells bx3 c3_1
  replace bx0 : w.heap.size < W16.heap.size := Nat.lt_of_lt_of_le bx0 k16.size
  replace bx1 : W5.heap.size < W16.heap.size := Nat.lt_of_lt_of_le bx1 k16.size
  replace bx2 : W6.heap.size < W16.heap.size := Nat.lt_of_lt_of_le bx2 k16.size
  replace bx3 : W9.heap.size < W16.heap.size := Nat.lt_of_lt_of_le bx3 k16.size
  replace rw := rw.keep k16 (.inr (.inr (Nat.le_refl 0)))
  replace rx := rx.keep k16 (.inr (.inr (Nat.le_refl 0)))
  replace rxs0 := rxs0.keep k16 (.inr (.inr (Nat.le_refl 0)))
  replace rxs1 := rxs1.keep k16 (.inr (.inr (Nat.le_refl 0)))
  replace rg := rg.keep k16 (.inr (.inr (Nat.le_refl 0)))
  replace rts1 := rts1.keep k16 (.inr (.inr (Nat.le_refl 0)))
  have K16 := K15.tr0 k16
  clear K15 k16
  simp only [decide_true]
  clear rts1
  go_wp2_with fail
  refine (markKept_any _ _ _ _ _ _ _ NX MX HNX.out HMX.out 1 rx (by omega) (by omega) (by omega)).mono ?_
  rintro e W17 ⟨rfl, rm, k17⟩
  have s17 := k17.size
  replace c0_0 : W17.cell? ⟨w.heap.size, 0, none⟩ = some (.slice A n c) := (k17.cell (p := ⟨w.heap.size, 0, none⟩) (by exact bx0) (by show w.heap.size < _ ∨ _ ≤ w.heap.size; omega)).trans c0_0
  replace c0_1 : W17.cell? ⟨w.heap.size, 1, none⟩ = some (.slice B m d) := (k17.cell (p := ⟨w.heap.size, 1, none⟩) (by exact bx0) (by show w.heap.size < _ ∨ _ ≤ w.heap.size; omega)).trans c0_1
  replace c1_0 : W17.cell? ⟨W5.heap.size, 0, none⟩ = some (.slice wA wn wc) := (k17.cell (p := ⟨W5.heap.size, 0, none⟩) (by exact bx1) (by show W5.heap.size < _ ∨ _ ≤ W5.heap.size; omega)).trans c1_0
  replace c1_1 : W17.cell? ⟨W5.heap.size, 1, none⟩ = some (.slice wB wm wd) := (k17.cell (p := ⟨W5.heap.size, 1, none⟩) (by exact bx1) (by show W5.heap.size < _ ∨ _ ≤ W5.heap.size; omega)).trans c1_1
  replace c2_0 : W17.cell? ⟨W6.heap.size, 0, none⟩ = some (.slice xA xn xc) := (k17.cell (p := ⟨W6.heap.size, 0, none⟩) (by exact bx2) (by show W6.heap.size < _ ∨ _ ≤ W6.heap.size; omega)).trans c2_0
  replace c2_1 : W17.cell? ⟨W6.heap.size, 1, none⟩ = some (.slice xB xm xd) := (k17.cell (p := ⟨W6.heap.size, 1, none⟩) (by exact bx2) (by show W6.heap.size < _ ∨ _ ≤ W6.heap.size; omega)).trans c2_1
  replace c3_0 : W17.cell? ⟨W9.heap.size, 0, none⟩ = some (.slice gA gn gc) := (k17.cell (p := ⟨W9.heap.size, 0, none⟩) (by exact bx3) (by show W9.heap.size < _ ∨ _ ≤ W9.heap.size; omega)).trans c3_0
  replace c3_1 : W17.cell? ⟨W9.heap.size, 1, none⟩ = some (.slice gB gm gd) := (k17.cell (p := ⟨W9.heap.size, 1, none⟩) (by exact bx3) (by show W9.heap.size < _ ∨ _ ≤ W9.heap.size; omega)).trans c3_1
  replace bx0 : w.heap.size < W17.heap.size := Nat.lt_of_lt_of_le bx0 k17.size
  replace bx1 : W5.heap.size < W17.heap.size := Nat.lt_of_lt_of_le bx1 k17.size
  replace bx2 : W6.heap.size < W17.heap.size := Nat.lt_of_lt_of_le bx2 k17.size
  replace bx3 : W9.heap.size < W17.heap.size := Nat.lt_of_lt_of_le bx3 k17.size
  replace rw := rw.keep k17 (by omega)
  replace rxs0 := rxs0.keep k17 (by omega)
  replace rxs1 := rxs1.keep k17 (by omega)
  replace rg := rg.keep k17 (by omega)
  have K17 := K16.trm k17 (by omega)
  clear K16 k17
  clear rx rm
  go_wp2_with fail
  refine (markSlotS_any _ _ _ _ _ NZ0 HNZ0.out _ rxs0 (by omega) (by omega)).mono ?_
  rintro e W18 ⟨rfl, rm, k18⟩
  have s18 := k18.size
  replace c0_0 : W18.cell? ⟨w.heap.size, 0, none⟩ = some (.slice A n c) := (k18.cell (p := ⟨w.heap.size, 0, none⟩) (by exact bx0) (by show w.heap.size < _ ∨ _ ≤ w.heap.size; omega)).trans c0_0
  replace c0_1 : W18.cell? ⟨w.heap.size, 1, none⟩ = some (.slice B m d) := (k18.cell (p := ⟨w.heap.size, 1, none⟩) (by exact bx0) (by show w.heap.size < _ ∨ _ ≤ w.heap.size; omega)).trans c0_1
  replace c1_0 : W18.cell? ⟨W5.heap.size, 0, none⟩ = some (.slice wA wn wc) := (k18.cell (p := ⟨W5.heap.size, 0, none⟩) (by exact bx1) (by show W5.heap.size < _ ∨ _ ≤ W5.heap.size; omega)).trans c1_0
  replace c1_1 : W18.cell? ⟨W5.heap.size, 1, none⟩ = some (.slice wB wm wd) := (k18.cell (p := ⟨W5.heap.size, 1, none⟩) (by exact bx1) (by show W5.heap.size < _ ∨ _ ≤ W5.heap.size; omega)).trans c1_1
  replace c2_0 : W18.cell? ⟨W6.heap.size, 0, none⟩ = some (.slice xA xn xc) := (k18.cell (p := ⟨W6.heap.size, 0, none⟩) (by exact bx2) (by show W6.heap.size < _ ∨ _ ≤ W6.heap.size; omega)).trans c2_0
  replace c2_1 : W18.cell? ⟨W6.heap.size, 1, none⟩ = some (.slice xB xm xd) := (k18.cell (p := ⟨W6.heap.size, 1, none⟩) (by exact bx2) (by show W6.heap.size < _ ∨ _ ≤ W6.heap.size; omega)).trans c2_1
  replace c3_0 : W18.cell? ⟨W9.heap.size, 0, none⟩ = some (.slice gA gn gc) := (k18.cell (p := ⟨W9.heap.size, 0, none⟩) (by exact bx3) (by show W9.heap.size < _ ∨ _ ≤ W9.heap.size; omega)).trans c3_0
  replace c3_1 : W18.cell? ⟨W9.heap.size, 1, none⟩ = some (.slice gB gm gd) := (k18.cell (p := ⟨W9.heap.size, 1, none⟩) (by exact bx3) (by show W9.heap.size < _ ∨ _ ≤ W9.heap.size; omega)).trans c3_1
  replace bx0 : w.heap.size < W18.heap.size := Nat.lt_of_lt_of_le bx0 k18.size
  replace bx1 : W5.heap.size < W18.heap.size := Nat.lt_of_lt_of_le bx1 k18.size
  replace bx2 : W6.heap.size < W18.heap.size := Nat.lt_of_lt_of_le bx2 k18.size
  replace bx3 : W9.heap.size < W18.heap.size := Nat.lt_of_lt_of_le bx3 k18.size
  replace rw := rw.keep k18 (by omega)
  replace rxs1 := rxs1.keep k18 (by omega)
  replace rg := rg.keep k18 (by omega)
  have K18 := K17.trm k18 (by omega)
  clear K17 k18
  clear rxs0 rm
  go_wp2_with fail
  refine (markSlotS_any _ _ _ _ _ NZ1 HNZ1.out _ rxs1 (by omega) (by omega)).mono ?_
  rintro e W19 ⟨rfl, rm, k19⟩
  have s19 := k19.size
  replace c0_0 : W19.cell? ⟨w.heap.size, 0, none⟩ = some (.slice A n c) := (k19.cell (p := ⟨w.heap.size, 0, none⟩) (by exact bx0) (by show w.heap.size < _ ∨ _ ≤ w.heap.size; omega)).trans c0_0
  replace c0_1 : W19.cell? ⟨w.heap.size, 1, none⟩ = some (.slice B m d) := (k19.cell (p := ⟨w.heap.size, 1, none⟩) (by exact bx0) (by show w.heap.size < _ ∨ _ ≤ w.heap.size; omega)).trans c0_1
  replace c1_0 : W19.cell? ⟨W5.heap.size, 0, none⟩ = some (.slice wA wn wc) := (k19.cell (p := ⟨W5.heap.size, 0, none⟩) (by exact bx1) (by show W5.heap.size < _ ∨ _ ≤ W5.heap.size; omega)).trans c1_0
  replace c1_1 : W19.cell? ⟨W5.heap.size, 1, none⟩ = some (.slice wB wm wd) := (k19.cell (p := ⟨W5.heap.size, 1, none⟩) (by exact bx1) (by show W5.heap.size < _ ∨ _ ≤ W5.heap.size; omega)).trans c1_1
  replace c2_0 : W19.cell? ⟨W6.heap.size, 0, none⟩ = some (.slice xA xn xc) := (k19.cell (p := ⟨W6.heap.size, 0, none⟩) (by exact bx2) (by show W6.heap.size < _ ∨ _ ≤ W6.heap.size; omega)).trans c2_0
  replace c2_1 : W19.cell? ⟨W6.heap.size, 1, none⟩ = some (.slice xB xm xd) := (k19.cell (p := ⟨W6.heap.size, 1, none⟩) (by exact bx2) (by show W6.heap.size < _ ∨ _ ≤ W6.heap.size; omega)).trans c2_1
  replace c3_0 : W19.cell? ⟨W9.heap.size, 0, none⟩ = some (.slice gA gn gc) := (k19.cell (p := ⟨W9.heap.size, 0, none⟩) (by exact bx3) (by show W9.heap.size < _ ∨ _ ≤ W9.heap.size; omega)).trans c3_0
  replace c3_1 : W19.cell? ⟨W9.heap.size, 1, none⟩ = some (.slice gB gm gd) := (k19.cell (p := ⟨W9.heap.size, 1, none⟩) (by exact bx3) (by show W9.heap.size < _ ∨ _ ≤ W9.heap.size; omega)).trans c3_1
  replace bx0 : w.heap.size < W19.heap.size := Nat.lt_of_lt_of_le bx0 k19.size
  replace bx1 : W5.heap.size < W19.heap.size := Nat.lt_of_lt_of_le bx1 k19.size
  replace bx2 : W6.heap.size < W19.heap.size := Nat.lt_of_lt_of_le bx2 k19.size
  replace bx3 : W9.heap.size < W19.heap.size := Nat.lt_of_lt_of_le bx3 k19.size
  replace rw := rw.keep k19 (by omega)
  replace rg := rg.keep k19 (by omega)
  have K19 := K18.trm k19 (by omega)
  clear K18 k19
  clear rxs1 rm
  go_wp2_with fail
  refine (eqKept_any _ _ _ _ _ _ _ _ _ _ _ _ _ rg.a.rd rg.b.rd rw.a.rd rw.b.rd (by omega) (by omega) (by omega) (by omega)).mono ?_
  rintro e W20 ⟨rfl, k20⟩
  have s20 := k20.size
  replace c0_0 : W20.cell? ⟨w.heap.size, 0, none⟩ = some (.slice A n c) := k20.cells bx0 c0_0
  replace c0_1 : W20.cell? ⟨w.heap.size, 1, none⟩ = some (.slice B m d) := k20.cells bx0 c0_1
  replace c1_0 : W20.cell? ⟨W5.heap.size, 0, none⟩ = some (.slice wA wn wc) := k20.cells bx1 c1_0
  replace c1_1 : W20.cell? ⟨W5.heap.size, 1, none⟩ = some (.slice wB wm wd) := k20.cells bx1 c1_1
  replace c2_0 : W20.cell? ⟨W6.heap.size, 0, none⟩ = some (.slice xA xn xc) := k20.cells bx2 c2_0
  replace c2_1 : W20.cell? ⟨W6.heap.size, 1, none⟩ = some (.slice xB xm xd) := k20.cells bx2 c2_1
  replace c3_0 : W20.cell? ⟨W9.heap.size, 0, none⟩ = some (.slice gA gn gc) := k20.cells bx3 c3_0
  replace c3_1 : W20.cell? ⟨W9.heap.size, 1, none⟩ = some (.slice gB gm gd) := k20.cells bx3 c3_1
  replace bx0 : w.heap.size < W20.heap.size := Nat.lt_of_lt_of_le bx0 k20.size
  replace bx1 : W5.heap.size < W20.heap.size := Nat.lt_of_lt_of_le bx1 k20.size
  replace bx2 : W6.heap.size < W20.heap.size := Nat.lt_of_lt_of_le bx2 k20.size
  replace bx3 : W9.heap.size < W20.heap.size := Nat.lt_of_lt_of_le bx3 k20.size
  replace rw := rw.keep k20 (.inr (.inr (Nat.le_refl 0)))
  replace rg := rg.keep k20 (.inr (.inr (Nat.le_refl 0)))
  have K20 := K19.tr0 k20
  clear K19 k20
  simp only [decide_true, Bool.and_self]
  go_wp2_with fail
  refine (markKept_any _ _ _ _ _ _ _ NG MG HNG.out HMG.out 1 rg (by omega) (by omega) (by omega)).mono ?_
  rintro e W21 ⟨rfl, rh, k21⟩
  have s21 := k21.size
  replace c0_0 : W21.cell? ⟨w.heap.size, 0, none⟩ = some (.slice A n c) := (k21.cell (p := ⟨w.heap.size, 0, none⟩) (by exact bx0) (by show w.heap.size < _ ∨ _ ≤ w.heap.size; omega)).trans c0_0
  replace c0_1 : W21.cell? ⟨w.heap.size, 1, none⟩ = some (.slice B m d) := (k21.cell (p := ⟨w.heap.size, 1, none⟩) (by exact bx0) (by show w.heap.size < _ ∨ _ ≤ w.heap.size; omega)).trans c0_1
  replace c1_0 : W21.cell? ⟨W5.heap.size, 0, none⟩ = some (.slice wA wn wc) := (k21.cell (p := ⟨W5.heap.size, 0, none⟩) (by exact bx1) (by show W5.heap.size < _ ∨ _ ≤ W5.heap.size; omega)).trans c1_0
  replace c1_1 : W21.cell? ⟨W5.heap.size, 1, none⟩ = some (.slice wB wm wd) := (k21.cell (p := ⟨W5.heap.size, 1, none⟩) (by exact bx1) (by show W5.heap.size < _ ∨ _ ≤ W5.heap.size; omega)).trans c1_1
  replace c2_0 : W21.cell? ⟨W6.heap.size, 0, none⟩ = some (.slice xA xn xc) := (k21.cell (p := ⟨W6.heap.size, 0, none⟩) (by exact bx2) (by show W6.heap.size < _ ∨ _ ≤ W6.heap.size; omega)).trans c2_0
  replace c2_1 : W21.cell? ⟨W6.heap.size, 1, none⟩ = some (.slice xB xm xd) := (k21.cell (p := ⟨W6.heap.size, 1, none⟩) (by exact bx2) (by show W6.heap.size < _ ∨ _ ≤ W6.heap.size; omega)).trans c2_1
  replace c3_0 : W21.cell? ⟨W9.heap.size, 0, none⟩ = some (.slice gA gn gc) := (k21.cell (p := ⟨W9.heap.size, 0, none⟩) (by exact bx3) (by show W9.heap.size < _ ∨ _ ≤ W9.heap.size; omega)).trans c3_0
  replace c3_1 : W21.cell? ⟨W9.heap.size, 1, none⟩ = some (.slice gB gm gd) := (k21.cell (p := ⟨W9.heap.size, 1, none⟩) (by exact bx3) (by show W9.heap.size < _ ∨ _ ≤ W9.heap.size; omega)).trans c3_1
  replace bx0 : w.heap.size < W21.heap.size := Nat.lt_of_lt_of_le bx0 k21.size
  replace bx1 : W5.heap.size < W21.heap.size := Nat.lt_of_lt_of_le bx1 k21.size
  replace bx2 : W6.heap.size < W21.heap.size := Nat.lt_of_lt_of_le bx2 k21.size
  replace bx3 : W9.heap.size < W21.heap.size := Nat.lt_of_lt_of_le bx3 k21.size
  replace rw := rw.keep k21 (by omega)
  have K21 := K20.trm k21 (by omega)
  clear K20 k21
  clear rg
  go_wp2_with fail
  refine (heldKept_any _ _ _ _ _ NG MG 1 rh.a.rd rh.b.rd (by omega) (by omega) (by omega) (by omega)).mono ?_
  rintro e W22 ⟨rfl, k22⟩
  have s22 := k22.size
  replace c0_0 : W22.cell? ⟨w.heap.size, 0, none⟩ = some (.slice A n c) := k22.cells bx0 c0_0
  replace c0_1 : W22.cell? ⟨w.heap.size, 1, none⟩ = some (.slice B m d) := k22.cells bx0 c0_1
  replace c1_0 : W22.cell? ⟨W5.heap.size, 0, none⟩ = some (.slice wA wn wc) := k22.cells bx1 c1_0
  replace c1_1 : W22.cell? ⟨W5.heap.size, 1, none⟩ = some (.slice wB wm wd) := k22.cells bx1 c1_1
  replace c2_0 : W22.cell? ⟨W6.heap.size, 0, none⟩ = some (.slice xA xn xc) := k22.cells bx2 c2_0
  replace c2_1 : W22.cell? ⟨W6.heap.size, 1, none⟩ = some (.slice xB xm xd) := k22.cells bx2 c2_1
  replace c3_0 : W22.cell? ⟨W9.heap.size, 0, none⟩ = some (.slice gA gn gc) := k22.cells bx3 c3_0
  replace c3_1 : W22.cell? ⟨W9.heap.size, 1, none⟩ = some (.slice gB gm gd) := k22.cells bx3 c3_1
  replace bx0 : w.heap.size < W22.heap.size := Nat.lt_of_lt_of_le bx0 k22.size
  replace bx1 : W5.heap.size < W22.heap.size := Nat.lt_of_lt_of_le bx1 k22.size
  replace bx2 : W6.heap.size < W22.heap.size := Nat.lt_of_lt_of_le bx2 k22.size
  replace bx3 : W9.heap.size < W22.heap.size := Nat.lt_of_lt_of_le bx3 k22.size
  replace rw := rw.keep k22 (.inr (.inr (Nat.le_refl 0)))
  replace rh := rh.keep k22 (.inr (.inr (Nat.le_refl 0)))
  have K22 := K21.tr0 k22
  clear K21 k22
  go_wp2_with fail
  refine (toKept_any _ _ _ _ _ ks _ (ra.keep K22 (Nat.le_refl _) (.inr (Nat.le_refl 0))) (rb.keep K22 (Nat.le_refl _) (.inr (Nat.le_refl 0))) K22.size K22.size hx0.out hx1.out).mono ?_
  rintro e W23 ⟨ya, yb, rfl, ry, k23⟩
  have s23 := k23.size
  replace c0_0 : W23.cell? ⟨w.heap.size, 0, none⟩ = some (.slice A n c) := k23.cells bx0 c0_0
  replace c0_1 : W23.cell? ⟨w.heap.size, 1, none⟩ = some (.slice B m d) := k23.cells bx0 c0_1
  replace c1_0 : W23.cell? ⟨W5.heap.size, 0, none⟩ = some (.slice wA wn wc) := k23.cells bx1 c1_0
  replace c1_1 : W23.cell? ⟨W5.heap.size, 1, none⟩ = some (.slice wB wm wd) := k23.cells bx1 c1_1
  replace c2_0 : W23.cell? ⟨W6.heap.size, 0, none⟩ = some (.slice xA xn xc) := k23.cells bx2 c2_0
  replace c2_1 : W23.cell? ⟨W6.heap.size, 1, none⟩ = some (.slice xB xm xd) := k23.cells bx2 c2_1
  replace c3_0 : W23.cell? ⟨W9.heap.size, 0, none⟩ = some (.slice gA gn gc) := k23.cells bx3 c3_0
  replace c3_1 : W23.cell? ⟨W9.heap.size, 1, none⟩ = some (.slice gB gm gd) := k23.cells bx3 c3_1
  replace bx0 : w.heap.size < W23.heap.size := Nat.lt_of_lt_of_le bx0 k23.size
  replace bx1 : W5.heap.size < W23.heap.size := Nat.lt_of_lt_of_le bx1 k23.size
  replace bx2 : W6.heap.size < W23.heap.size := Nat.lt_of_lt_of_le bx2 k23.size
  replace bx3 : W9.heap.size < W23.heap.size := Nat.lt_of_lt_of_le bx3 k23.size
  replace rw := rw.keep k23 (.inr (.inr (Nat.le_refl 0)))
  replace rh := rh.keep k23 (.inr (.inr (Nat.le_refl 0)))
  have K23 := K22.tr0 k23
  clear K22 k23
  obtain ⟨yA, yn, yc, rfl⟩ := ry.a.slice
  obtain ⟨yB, ym, yd, rfl⟩ := ry.b.slice
  go_wp2_with fail
  refine (toSlotS_any _ _ _ _ (ri0.keep K23 (Nat.le_refl _) (.inr (Nat.le_refl 0))) hy0.out).mono ?_
  rintro e W24 ⟨ys0, rfl, rys0, k24⟩
  have s24 := k24.size
  replace c0_0 : W24.cell? ⟨w.heap.size, 0, none⟩ = some (.slice A n c) := k24.cells bx0 c0_0
  replace c0_1 : W24.cell? ⟨w.heap.size, 1, none⟩ = some (.slice B m d) := k24.cells bx0 c0_1
  replace c1_0 : W24.cell? ⟨W5.heap.size, 0, none⟩ = some (.slice wA wn wc) := k24.cells bx1 c1_0
  replace c1_1 : W24.cell? ⟨W5.heap.size, 1, none⟩ = some (.slice wB wm wd) := k24.cells bx1 c1_1
  replace c2_0 : W24.cell? ⟨W6.heap.size, 0, none⟩ = some (.slice xA xn xc) := k24.cells bx2 c2_0
  replace c2_1 : W24.cell? ⟨W6.heap.size, 1, none⟩ = some (.slice xB xm xd) := k24.cells bx2 c2_1
  replace c3_0 : W24.cell? ⟨W9.heap.size, 0, none⟩ = some (.slice gA gn gc) := k24.cells bx3 c3_0
  replace c3_1 : W24.cell? ⟨W9.heap.size, 1, none⟩ = some (.slice gB gm gd) := k24.cells bx3 c3_1
  replace bx0 : w.heap.size < W24.heap.size := Nat.lt_of_lt_of_le bx0 k24.size
  replace bx1 : W5.heap.size < W24.heap.size := Nat.lt_of_lt_of_le bx1 k24.size
  replace bx2 : W6.heap.size < W24.heap.size := Nat.lt_of_lt_of_le bx2 k24.size
  replace bx3 : W9.heap.size < W24.heap.size := Nat.lt_of_lt_of_le bx3 k24.size
  replace rw := rw.keep k24 (.inr (.inr (Nat.le_refl 0)))
  replace rh := rh.keep k24 (.inr (.inr (Nat.le_refl 0)))
  replace ry := ry.keep k24 (.inr (.inr (Nat.le_refl 0)))
  have K24 := K23.tr0 k24
  clear K23 k24
  obtain ⟨ys0A, ys0n, ys0c, rfl⟩ := rys0.slice
  go_wp2_with fail
  refine (toSlotS_any _ _ _ _ (ri1.keep K24 (Nat.le_refl _) (.inr (Nat.le_refl 0))) hy1.out).mono ?_
  rintro e W25 ⟨ys1, rfl, rys1, k25⟩
  have s25 := k25.size
  replace c0_0 : W25.cell? ⟨w.heap.size, 0, none⟩ = some (.slice A n c) := k25.cells bx0 c0_0
  replace c0_1 : W25.cell? ⟨w.heap.size, 1, none⟩ = some (.slice B m d) := k25.cells bx0 c0_1
  replace c1_0 : W25.cell? ⟨W5.heap.size, 0, none⟩ = some (.slice wA wn wc) := k25.cells bx1 c1_0
  replace c1_1 : W25.cell? ⟨W5.heap.size, 1, none⟩ = some (.slice wB wm wd) := k25.cells bx1 c1_1
  replace c2_0 : W25.cell? ⟨W6.heap.size, 0, none⟩ = some (.slice xA xn xc) := k25.cells bx2 c2_0
  replace c2_1 : W25.cell? ⟨W6.heap.size, 1, none⟩ = some (.slice xB xm xd) := k25.cells bx2 c2_1
  replace c3_0 : W25.cell? ⟨W9.heap.size, 0, none⟩ = some (.slice gA gn gc) := k25.cells bx3 c3_0
  replace c3_1 : W25.cell? ⟨W9.heap.size, 1, none⟩ = some (.slice gB gm gd) := k25.cells bx3 c3_1
  replace bx0 : w.heap.size < W25.heap.size := Nat.lt_of_lt_of_le bx0 k25.size
  replace bx1 : W5.heap.size < W25.heap.size := Nat.lt_of_lt_of_le bx1 k25.size
  replace bx2 : W6.heap.size < W25.heap.size := Nat.lt_of_lt_of_le bx2 k25.size
  replace bx3 : W9.heap.size < W25.heap.size := Nat.lt_of_lt_of_le bx3 k25.size
  replace rw := rw.keep k25 (.inr (.inr (Nat.le_refl 0)))
  replace rh := rh.keep k25 (.inr (.inr (Nat.le_refl 0)))
  replace ry := ry.keep k25 (.inr (.inr (Nat.le_refl 0)))
  replace rys0 := rys0.keep k25 (.inr (.inr (Nat.le_refl 0)))
  have K25 := K24.tr0 k25
  clear K24 k25
  obtain ⟨ys1A, ys1n, ys1c, rfl⟩ := rys1.slice
  go_wp2_with fail
  refine (implFill_any _ _ _ _ _ _ _ _ _ ks l l0 l1 p ry.a.rd ry.b.rd rys0.rd rys1.rd (by omega) (by omega) (by omega) hx0.out hx1.out).mono ?_
  rintro e W26 ⟨u0, u1, rfl, ru, k26⟩
  have s26 := k26.size
  replace c0_0 : W26.cell? ⟨w.heap.size, 0, none⟩ = some (.slice A n c) := k26.cells bx0 c0_0
  replace c0_1 : W26.cell? ⟨w.heap.size, 1, none⟩ = some (.slice B m d) := k26.cells bx0 c0_1
  replace c1_0 : W26.cell? ⟨W5.heap.size, 0, none⟩ = some (.slice wA wn wc) := k26.cells bx1 c1_0
  replace c1_1 : W26.cell? ⟨W5.heap.size, 1, none⟩ = some (.slice wB wm wd) := k26.cells bx1 c1_1
  replace c2_0 : W26.cell? ⟨W6.heap.size, 0, none⟩ = some (.slice xA xn xc) := k26.cells bx2 c2_0
  replace c2_1 : W26.cell? ⟨W6.heap.size, 1, none⟩ = some (.slice xB xm xd) := k26.cells bx2 c2_1
  replace c3_0 : W26.cell? ⟨W9.heap.size, 0, none⟩ = some (.slice gA gn gc) := k26.cells bx3 c3_0
  replace c3_1 : W26.cell? ⟨W9.heap.size, 1, none⟩ = some (.slice gB gm gd) := k26.cells bx3 c3_1
  replace bx0 : w.heap.size < W26.heap.size := Nat.lt_of_lt_of_le bx0 k26.size
  replace bx1 : W5.heap.size < W26.heap.size := Nat.lt_of_lt_of_le bx1 k26.size
  replace bx2 : W6.heap.size < W26.heap.size := Nat.lt_of_lt_of_le bx2 k26.size
  replace bx3 : W9.heap.size < W26.heap.size := Nat.lt_of_lt_of_le bx3 k26.size
  replace rw := rw.keep k26 (.inr (.inr (Nat.le_refl 0)))
  replace rh := rh.keep k26 (.inr (.inr (Nat.le_refl 0)))
  replace ry := ry.keep k26 (.inr (.inr (Nat.le_refl 0)))
  replace rys0 := rys0.keep k26 (.inr (.inr (Nat.le_refl 0)))
  replace rys1 := rys1.keep k26 (.inr (.inr (Nat.le_refl 0)))
  have K26 := K25.tr0 k26
  clear K25 k26
  obtain ⟨uA, un, uc, rfl⟩ := ru.a.slice
  obtain ⟨uB, um, ud, rfl⟩ := ru.b.slice
  replace ru := ru.cast HR.out
  clear ry
  clear rys0
  clear rys1
  have ka4 := keep_1 W26 (.cells #[.slice uA un uc, .slice uB um ud] 31)
  replace c0_0 : (W26.alloc (.cells #[.slice uA un uc, .slice uB um ud] 31)).cell? ⟨w.heap.size, 0, none⟩ = some (.slice A n c) := ka4.cells bx0 c0_0
  replace c0_1 : (W26.alloc (.cells #[.slice uA un uc, .slice uB um ud] 31)).cell? ⟨w.heap.size, 1, none⟩ = some (.slice B m d) := ka4.cells bx0 c0_1
  replace c1_0 : (W26.alloc (.cells #[.slice uA un uc, .slice uB um ud] 31)).cell? ⟨W5.heap.size, 0, none⟩ = some (.slice wA wn wc) := ka4.cells bx1 c1_0
  replace c1_1 : (W26.alloc (.cells #[.slice uA un uc, .slice uB um ud] 31)).cell? ⟨W5.heap.size, 1, none⟩ = some (.slice wB wm wd) := ka4.cells bx1 c1_1
  replace c2_0 : (W26.alloc (.cells #[.slice uA un uc, .slice uB um ud] 31)).cell? ⟨W6.heap.size, 0, none⟩ = some (.slice xA xn xc) := ka4.cells bx2 c2_0
  replace c2_1 : (W26.alloc (.cells #[.slice uA un uc, .slice uB um ud] 31)).cell? ⟨W6.heap.size, 1, none⟩ = some (.slice xB xm xd) := ka4.cells bx2 c2_1
  replace c3_0 : (W26.alloc (.cells #[.slice uA un uc, .slice uB um ud] 31)).cell? ⟨W9.heap.size, 0, none⟩ = some (.slice gA gn gc) := ka4.cells bx3 c3_0
  replace c3_1 : (W26.alloc (.cells #[.slice uA un uc, .slice uB um ud] 31)).cell? ⟨W9.heap.size, 1, none⟩ = some (.slice gB gm gd) := ka4.cells bx3 c3_1
  replace bx0 : w.heap.size < (W26.alloc (.cells #[.slice uA un uc, .slice uB um ud] 31)).heap.size := Nat.lt_of_lt_of_le bx0 ka4.size
  replace bx1 : W5.heap.size < (W26.alloc (.cells #[.slice uA un uc, .slice uB um ud] 31)).heap.size := Nat.lt_of_lt_of_le bx1 ka4.size
  replace bx2 : W6.heap.size < (W26.alloc (.cells #[.slice uA un uc, .slice uB um ud] 31)).heap.size := Nat.lt_of_lt_of_le bx2 ka4.size
  replace bx3 : W9.heap.size < (W26.alloc (.cells #[.slice uA un uc, .slice uB um ud] 31)).heap.size := Nat.lt_of_lt_of_le bx3 ka4.size
  replace rw := rw.keep ka4 (.inr (.inr (Nat.le_refl 0)))
  replace rh := rh.keep ka4 (.inr (.inr (Nat.le_refl 0)))
  replace ru := ru.keep ka4 (.inr (.inr (Nat.le_refl 0)))
  have K26a := K26.tr0 ka4
  clear K26 ka4
  have sa4 : W26.heap.size + 1 = (W26.alloc (.cells #[.slice uA un uc, .slice uB um ud] 31)).heap.size := by simp
  have HA4 := Lib.hid sa4
  replace sa4 : W26.heap.size < (W26.alloc (.cells #[.slice uA un uc, .slice uB um ud] 31)).heap.size := by omega
  have bx4 : W26.heap.size < (W26.alloc (.cells #[.slice uA un uc, .slice uB um ud] 31)).heap.size := by simp
  have c4_0 : (W26.alloc (.cells #[.slice uA un uc, .slice uB um ud] 31)).cell? ⟨W26.heap.size, 0, none⟩ = some (.slice uA un uc) := by go_cell
  have c4_1 : (W26.alloc (.cells #[.slice uA un uc, .slice uB um ud] 31)).cell? ⟨W26.heap.size, 1, none⟩ = some (.slice uB um ud) := by go_cell
  go_wp2_with fail
  refine (eqKept_any _ _ _ _ _ _ _ _ _ _ _ _ _ ru.a.rd ru.b.rd rw.a.rd rw.b.rd (by omega) (by omega) (by omega) (by omega)).mono ?_
  rintro e W27 ⟨rfl, k27⟩
  have s27 := k27.size
  replace c0_0 : W27.cell? ⟨w.heap.size, 0, none⟩ = some (.slice A n c) := k27.cells bx0 c0_0
  replace c0_1 : W27.cell? ⟨w.heap.size, 1, none⟩ = some (.slice B m d) := k27.cells bx0 c0_1
  replace c1_0 : W27.cell? ⟨W5.heap.size, 0, none⟩ = some (.slice wA wn wc) := k27.cells bx1 c1_0
  replace c1_1 : W27.cell? ⟨W5.heap.size, 1, none⟩ = some (.slice wB wm wd) := k27.cells bx1 c1_1
  replace c2_0 : W27.cell? ⟨W6.heap.size, 0, none⟩ = some (.slice xA xn xc) := k27.cells bx2 c2_0
  replace c2_1 : W27.cell? ⟨W6.heap.size, 1, none⟩ = some (.slice xB xm xd) := k27.cells bx2 c2_1
  replace c3_0 : W27.cell? ⟨W9.heap.size, 0, none⟩ = some (.slice gA gn gc) := k27.cells bx3 c3_0
  replace c3_1 : W27.cell? ⟨W9.heap.size, 1, none⟩ = some (.slice gB gm gd) := k27.cells bx3 c3_1
  replace c4_0 : W27.cell? ⟨W26.heap.size, 0, none⟩ = some (.slice uA un uc) := k27.cells bx4 c4_0
  replace c4_1 : W27.cell? ⟨W26.heap.size, 1, none⟩ = some (.slice uB um ud) := k27.cells bx4 c4_1
  replace bx0 : w.heap.size < W27.heap.size := Nat.lt_of_lt_of_le bx0 k27.size
  replace bx1 : W5.heap.size < W27.heap.size := Nat.lt_of_lt_of_le bx1 k27.size
  replace bx2 : W6.heap.size < W27.heap.size := Nat.lt_of_lt_of_le bx2 k27.size
  replace bx3 : W9.heap.size < W27.heap.size := Nat.lt_of_lt_of_le bx3 k27.size
  replace bx4 : W26.heap.size < W27.heap.size := Nat.lt_of_lt_of_le bx4 k27.size
  replace rw := rw.keep k27 (.inr (.inr (Nat.le_refl 0)))
  replace rh := rh.keep k27 (.inr (.inr (Nat.le_refl 0)))
  replace ru := ru.keep k27 (.inr (.inr (Nat.le_refl 0)))
  have K27 := K26a.tr0 k27
  clear K26a k27
  simp only [decide_true, Bool.and_self]
  go_wp2_with fail
  refine (heldKept_any _ _ _ _ _ NG MG 1 rh.a.rd rh.b.rd (by omega) (by omega) (by omega) (by omega)).mono ?_
  rintro e W28 ⟨rfl, k28⟩
  have s28 := k28.size
  replace c0_0 : W28.cell? ⟨w.heap.size, 0, none⟩ = some (.slice A n c) := k28.cells bx0 c0_0
  replace c0_1 : W28.cell? ⟨w.heap.size, 1, none⟩ = some (.slice B m d) := k28.cells bx0 c0_1
  replace c1_0 : W28.cell? ⟨W5.heap.size, 0, none⟩ = some (.slice wA wn wc) := k28.cells bx1 c1_0
  replace c1_1 : W28.cell? ⟨W5.heap.size, 1, none⟩ = some (.slice wB wm wd) := k28.cells bx1 c1_1
  replace c2_0 : W28.cell? ⟨W6.heap.size, 0, none⟩ = some (.slice xA xn xc) := k28.cells bx2 c2_0
  replace c2_1 : W28.cell? ⟨W6.heap.size, 1, none⟩ = some (.slice xB xm xd) := k28.cells bx2 c2_1
  replace c3_0 : W28.cell? ⟨W9.heap.size, 0, none⟩ = some (.slice gA gn gc) := k28.cells bx3 c3_0
  replace c3_1 : W28.cell? ⟨W9.heap.size, 1, none⟩ = some (.slice gB gm gd) := k28.cells bx3 c3_1
  replace c4_0 : W28.cell? ⟨W26.heap.size, 0, none⟩ = some (.slice uA un uc) := k28.cells bx4 c4_0
  replace c4_1 : W28.cell? ⟨W26.heap.size, 1, none⟩ = some (.slice uB um ud) := k28.cells bx4 c4_1
  replace bx0 : w.heap.size < W28.heap.size := Nat.lt_of_lt_of_le bx0 k28.size
  replace bx1 : W5.heap.size < W28.heap.size := Nat.lt_of_lt_of_le bx1 k28.size
  replace bx2 : W6.heap.size < W28.heap.size := Nat.lt_of_lt_of_le bx2 k28.size
  replace bx3 : W9.heap.size < W28.heap.size := Nat.lt_of_lt_of_le bx3 k28.size
  replace bx4 : W26.heap.size < W28.heap.size := Nat.lt_of_lt_of_le bx4 k28.size
  replace rw := rw.keep k28 (.inr (.inr (Nat.le_refl 0)))
  replace rh := rh.keep k28 (.inr (.inr (Nat.le_refl 0)))
  replace ru := ru.keep k28 (.inr (.inr (Nat.le_refl 0)))
  have K28 := K27.tr0 k28
  clear K27 k28
  go_wp2
  go_ret
  exact ⟨rfl, (KK.tr0 K28).below⟩

set_option maxRecDepth 100000 in
theorem lifted (os : Os) (started : os.Started) (H : Type) (enc : TypeId × Value → H) :
    ReturnsInHanded {} Try.checked os 7 .any (Rows.fnExactFillSpec.pre6 enc Try.prog Try.f7 Rows.fnExactFillRow.domain false) (Rows.fnExactFillSpec.post enc Try.prog Try.f7 false true false false) := by
  refine returnsInHanded_of_change (C := Try.checked) own started (by kernel_rfl) Try.func7
    (ChangeSpec.witness6 (enc := enc) (C := Try.checked) false ⟨#[], #[.agg #[.slice none 0 0, .slice none 0 0], .slice none 0 0, .slice none 0 0, .int .i64 0], []⟩ 8 (by kernel_rfl) (by kernel_rfl) (by kernel_rfl) (by kernel_rfl)) ?_
  intro W base args ds gs before hval0 hW hcnd _
  have hval : ∀ (j : Nat) t v, Try.f7.params[j]? = some t → args[j]? = some v → Value.okWide Try.prog W .any base t v := hval0
  have hW' := hW
  obtain ⟨p, q, hA0, hV, rfl, hfz, hnd⟩ := hW
  have hA : DataW.TrodAll enc Try.prog W 0 (fun _ => true) true Try.f7.params.toList args.toList ds p := hA0
  rw [Try.params7] at hA hval
  obtain ⟨v0, vs0, d0, ds0, p0, q0, hargs, rfl, rfl, h0, r0⟩ := trodAll_cons hA
  obtain ⟨v1, vs1, d1, ds1, p1, q1, rfl, rfl, rfl, h1, r1⟩ := trodAll_cons r0
  obtain ⟨v2, vs2, d2, ds2, p2, q2, rfl, rfl, rfl, h2, r2⟩ := trodAll_cons r1
  obtain ⟨v3, vs3, d3, ds3, p3, q3, rfl, rfl, rfl, h3, r3⟩ := trodAll_cons r2
  obtain ⟨rfl, rfl, rfl⟩ := trodAll_nil r3
  obtain rfl : args = #[v0, v1, v2, v3] := by cases args; simp_all
  obtain ⟨rfl, rfl⟩ := trodVars_none hV
  have k0 := h0
  have lt0 : ∀ x ∈ p0, x.block < W.heap.size := by obtain ⟨m, hm⟩ := k0; exact DataW.trod_lt m _ _ _ hm
  obtain ⟨c00, c01, y00, y01, m0, rfl, _, _, g00, g01⟩ := Go.Joins.open_agg2 Try.underlying25 (by kernel_rfl) (show Try.prog.cellsOf 25 = 2 by kernel_rfl) (hval 0 25 v0 rfl rfl) h0
  obtain ⟨A00, n00, cap00, rfl⟩ := slice_field Try.underlying22 g00
  obtain ⟨xs00, rb00, hl00⟩ := open_bols Try.underlying22 Try.underlying4 (by kernel_rfl) g00
  obtain ⟨A01, n01, cap01, rfl⟩ := slice_field Try.underlying23 g01
  obtain ⟨xs01, rb01, hl01⟩ := open_flat_field Try.underlying23 Try.underlying54 (by kernel_rfl) (by kernel_rfl) (by intro j f hf; rcases j with _ | _ | j <;> simp at hf <;> subst hf <;> exact Try.underlying3) (by decide) g01
  have k1 := h1
  have lt1 : ∀ x ∈ p1, x.block < W.heap.size := by obtain ⟨m, hm⟩ := k1; exact DataW.trod_lt m _ _ _ hm
  obtain ⟨A1, n1, cap1, rfl⟩ := okWide_slice Try.underlying23 (hval 1 23 v1 rfl rfl)
  obtain ⟨xs1, rb1, hl1⟩ := open_flat Try.underlying23 Try.underlying54 (by kernel_rfl) (by kernel_rfl) (by intro j f hf; rcases j with _ | _ | j <;> simp at hf <;> subst hf <;> exact Try.underlying3) (by decide) h1
  have k2 := h2
  have lt2 : ∀ x ∈ p2, x.block < W.heap.size := by obtain ⟨m, hm⟩ := k2; exact DataW.trod_lt m _ _ _ hm
  obtain ⟨A2, n2, cap2, rfl⟩ := okWide_slice Try.underlying23 (hval 2 23 v2 rfl rfl)
  obtain ⟨xs2, rb2, hl2⟩ := open_flat Try.underlying23 Try.underlying54 (by kernel_rfl) (by kernel_rfl) (by intro j f hf; rcases j with _ | _ | j <;> simp at hf <;> subst hf <;> exact Try.underlying3) (by decide) h2
  have k3 := h3
  have lt3 : ∀ x ∈ p3, x.block < W.heap.size := by obtain ⟨m, hm⟩ := k3; exact DataW.trod_lt m _ _ _ hm
  obtain ⟨a3, rfl, _, _, w3⟩ := open_int Try.underlying3 (hval 3 3 v3 rfl rfl) h3
  clear hA0 hval0
  refine (walk W A00 n00 cap00 xs00 rb00 hl00 A01 n01 cap01 xs01 rb01 hl01 A1 n1 cap1 xs1 rb1 hl1 A2 n2 cap2 xs2 rb2 hl2 a3 w3).mono fun e W' ⟨he, bel⟩ => ?_
  subst he
  exact ⟨_, rfl, _, _, _, [], _, [], hW', trodAll_mk1 (shut_bool Try.underlying4 _), (trodAll_cons_mk (Below.trod laidOut (by kernel_rfl) (of_decide_eq_true (by kernel_rfl)) k0 bel lt0) (trodAll_cons_mk (Below.trod laidOut (by kernel_rfl) (of_decide_eq_true (by kernel_rfl)) k1 bel lt1) (trodAll_cons_mk (Below.trod laidOut (by kernel_rfl) (of_decide_eq_true (by kernel_rfl)) k2 bel lt2) (trodAll_cons_mk (Below.trod laidOut (by kernel_rfl) (of_decide_eq_true (by kernel_rfl)) k3 bel lt3) trodAll_mk0)))), rfl, bel.frame _, fun h => by cases h⟩

theorem over : Rows.fnExactFillRow.holds Try.pinned (OpenSpec.ofChange Rows.fnExactFillSpec) :=
  OpenClaim.holds_of_wide 7 Try.f7 rfl rfl rfl rfl rfl rfl rfl ⟨rfl, rfl, rfl, rfl, rfl⟩ rfl rfl rfl rfl rfl (by kernel_rfl) Try.func7 (by kernel_rfl)
    (of_decide_eq_true (by kernel_rfl)) (by unfold Func.isWrapper; first | (rw [if_pos (by decide +kernel)]; kernel_rfl) | (rw [if_neg (by decide +kernel)]; exact ⟨rfl, rfl⟩))
    (fun os started H enc _ => lifted os started H enc)

/-- The given statement. -/
theorem proved : Rows.FnExactFillSaid := over
end Go.Proofs.Ytignedkhklfonaa.fnExactFill
