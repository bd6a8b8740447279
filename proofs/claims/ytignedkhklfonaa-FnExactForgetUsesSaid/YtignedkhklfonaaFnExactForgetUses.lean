/-
  For every kept tables, table of slots and integer the program's ForgetUses returns what the reference's returns, leaves its arguments alone, and hands back memory of its own. No condition.
-/
import Derived.Test.YtignedkhklfonaaRows
import Derived.WalkKit
import Derived.ProofKit
import Derived.OpenShut
import Derived.ShutString
import Derived.ChangeOld
import Derived.Below
import Derived.Lib.SmallJoins
import Derived.WalkSpells
import Derived.Test.YtignedkhklfonaaFoldU
import Derived.Test.YtignedkhklfonaaOpen
import Derived.Test.YtignedkhklfonaaOne
import Derived.Handy
import Derived.Deep.RegionHeld3
import Derived.Deep.QuietTactic
import Derived.BigQuiet
namespace Go.Proofs.Ytignedkhklfonaa.fnExactForgetUses
open Go.ChangeShapes Go.WideShapes Go.ChangeAt Go.RowKit
set_option linter.unusedVariables false

theorem own : ownKnob Try.prog.godebug = none := by kernel_rfl
theorem laidOut : laidOutB Try.prog = true := by kernel_rfl

theorem cap_le {w : World} {hi sz n c : Nat} {A : Option Addr} {xs : List Value} (h : Rd w hi sz (.slice A n c) xs) : n ≤ 9223372036854775807 := by
  obtain ⟨_, _, _, e, h1, h2, _⟩ := h
  injection e with _ e2 e3
  unfold maxLen at h2
  omega
set_option maxRecDepth 100000 in
set_option maxHeartbeats 8000000 in
theorem walk (w : World) (A : Option Addr) (n c : Nat) (ks : List Bool) (ra0 : Rd w w.heap.size 1 (.slice A n c) (bols ks)) (hl0 : ks.length = n) (B : Option Addr) (m d : Nat) (xs : List Int) (rb0 : Rd w w.heap.size 2 (.slice B m d) (ints xs)) (hl1 : xs.length = m * 2) (I0 : Option Addr) (q0 f0 : Nat) (zs0 : List Int) (ri00 : Rd w w.heap.size 2 (.slice I0 q0 f0) (ints zs0)) (hz0 : zs0.length = q0 * 2) (p : Int) (wp : (Lit.int .i64 p).wf = true) :
    Calls Try.prog 6 #[.agg #[.slice A n c, .slice B m d], .slice I0 q0 f0, .int .i64 p] w fun e w' => e = .returned (.bool true) ∧ Below w.heap.size w w' := by
  clear wp
  have KK := keep_1 w (.cells #[.slice A n c, .slice B m d] 25)
  obtain ⟨l, rfl, hm⟩ := twos_of hl1
  obtain ⟨l0, rfl, hq0⟩ := twos_of hz0
  have ra := (ra0.keep KK (Nat.le_refl _) (.inr (Nat.le_refl 0))).mono KK.size
  have rb := (rb0.keep KK (Nat.le_refl _) (.inr (Nat.le_refl 0))).mono KK.size
  have ri0 := (ri00.keep KK (Nat.le_refl _) (.inr (Nat.le_refl 0))).mono KK.size
  have hc0 := cap_le ra
  have hc1 := cap_le rb
  have hd0 := cap_le ri0
  clear hl1 ra0 rb0 hz0 ri00
  by_cases hb0 : ((n : Int) + (m : Int)) ≤ 1048576
  rotate_left
  · have hif0 := leftT_out (n := (n + m)) (L := 1048576) (by omega)
    go_enter Try.func6, Try.ntmps6
    go_wp2_with fail
    refine (szKept_gen A n c B m d _ hc0 hc1 (by omega) (by omega) _).mono ?_
    rintro e V1 ⟨rfl, j1⟩
    rw [hif0]
    clear hif0
    go_wp2
    go_ret
    exact ⟨rfl, (KK.tr0 j1).below⟩
  have hif0 : leftT (1048576) (n + m) = 1048576 - ((n : Int) + (m : Int)) := (leftT_in (by omega)).trans (by omega)
  by_cases hb1 : ((q0 : Nat) : Int) ≤ 1048576 - ((n : Int) + (m : Int))
  rotate_left
  · have hif1 := leftT_out (n := q0) (L := 1048576 - ((n : Int) + (m : Int))) (by omega)
    go_enter Try.func6, Try.ntmps6
    go_wp2_with fail
    refine (szKept_gen A n c B m d _ hc0 hc1 (by omega) (by omega) _).mono ?_
    rintro e V1 ⟨rfl, j1⟩
    rw [hif0]
    clear hif0
    go_wp2_with fail
    refine (szSlotS_gen I0 q0 f0 _ hd0 (by omega) (by omega) _).mono ?_
    rintro e w' ⟨rfl, rfl⟩
    rw [hif1]
    clear hif1
    go_wp2
    go_ret
    exact ⟨rfl, (KK.tr0 j1).below⟩
  have hif1 : leftT (1048576 - ((n : Int) + (m : Int))) q0 = 1048576 - ((n : Int) + (m : Int)) - ((q0 : Nat) : Int) := (leftT_in (by omega)).trans (by omega)
  obtain ⟨RK, RL, hR⟩ : ∃ RK RL, forgetL ks l (usesT l0 p) = (RK, RL) := ⟨_, _, rfl⟩
  have hRl : RK.length ≤ 1048576 ∧ RL.length ≤ 1048576 := by have := forgetL_lengths ks l (usesT l0 p); rw [hR] at this; simp only at this; omega
  have HR := Lib.hid hR
  clear hR
  obtain ⟨NX, hNX⟩ : ∃ N, (bols ks).length = N := ⟨_, rfl⟩
  have bNX : NX ≤ 2097152 := by rw [← hNX, bols_length]; omega
  have HNX := Lib.hid hNX
  obtain ⟨MX, hMX⟩ : ∃ N, (ints (twosI l)).length = N := ⟨_, rfl⟩
  have bMX : MX ≤ 2097152 := by rw [← hMX, ints_length, twosI_length]; omega
  have HMX := Lib.hid hMX
  obtain ⟨NG, hNG⟩ : ∃ N, (bols RK).length = N := ⟨_, rfl⟩
  have bNG : NG ≤ 2097152 := by rw [← hNG, bols_length]; omega
  have HNG := Lib.hid hNG
  obtain ⟨MG, hMG⟩ : ∃ N, (ints (twosI RL)).length = N := ⟨_, rfl⟩
  have bMG : MG ≤ 2097152 := by rw [← hMG, ints_length, twosI_length]; omega
  have HMG := Lib.hid hMG
  obtain ⟨NZ0, hNZ0⟩ : ∃ N, (ints (twosI l0)).length = N := ⟨_, rfl⟩
  have bNZ0 : NZ0 ≤ 2097152 := by rw [← hNZ0, ints_length, twosI_length]; omega
  have HNZ0 := Lib.hid hNZ0
  clear hNX hMX hNG hMG hNZ0 hRl
  have hx0 := Lib.hid (show ks.length ≤ 1048576 from by omega)
  have hx1 := Lib.hid (show (twosI l).length ≤ 2097152 from by rw [twosI_length]; omega)
  have hy0 := Lib.hid (show (twosI l0).length ≤ 2097152 from by rw [twosI_length]; omega)
  have hw0 := Lib.hid (show l0.length ≤ 1048576 from by omega)
  have HN := Lib.hid hl0
  have HM := Lib.hid hm
  clear hl0 hm
  have HQ0 := Lib.hid hq0
  clear hq0
  have K0 := Keep.refl 0 0 (w.alloc (.cells #[.slice A n c, .slice B m d] 25))
  have bx0 : w.heap.size < (w.alloc (.cells #[.slice A n c, .slice B m d] 25)).heap.size := by simp
  have c0_0 : (w.alloc (.cells #[.slice A n c, .slice B m d] 25)).cell? ⟨w.heap.size, 0, none⟩ = some (.slice A n c) := by go_cell
  have c0_1 : (w.alloc (.cells #[.slice A n c, .slice B m d] 25)).cell? ⟨w.heap.size, 1, none⟩ = some (.slice B m d) := by go_cell
  have hbs := bx0
  go_enter Try.func6, Try.ntmps6
  go_wp2_with fail
  refine (szKept_gen A n c B m d _ hc0 hc1 (by omega) (by omega) _).mono ?_
  rintro e W1 ⟨rfl, k1⟩
  have s1 := k1.size
  replace c0_0 : W1.cell? ⟨w.heap.size, 0, none⟩ = some (.slice A n c) := k1.cells bx0 c0_0
  replace c0_1 : W1.cell? ⟨w.heap.size, 1, none⟩ = some (.slice B m d) := k1.cells bx0 c0_1
  replace bx0 : w.heap.size < W1.heap.size := Nat.lt_of_lt_of_le bx0 k1.size
  have K1 := K0.tr0 k1
  clear K0 k1
  rw [hif0]
  clear hif0
  go_wp2_with fail
  refine (szSlotS_gen I0 q0 f0 _ hd0 (by omega) (by omega) _).mono ?_
  rintro e w' ⟨rfl, rfl⟩
  rw [hif1]
  clear hif1
  go_wp2_with fail
  refine (toKept_any _ _ _ _ _ ks _ (ra.keep K1 (Nat.le_refl _) (.inr (Nat.le_refl 0))) (rb.keep K1 (Nat.le_refl _) (.inr (Nat.le_refl 0))) K1.size K1.size hx0.out hx1.out).mono ?_
  rintro e W2 ⟨pa, pb, rfl, rp, k2⟩
  have s2 := k2.size
  replace c0_0 : W2.cell? ⟨w.heap.size, 0, none⟩ = some (.slice A n c) := k2.cells bx0 c0_0
  replace c0_1 : W2.cell? ⟨w.heap.size, 1, none⟩ = some (.slice B m d) := k2.cells bx0 c0_1
  replace bx0 : w.heap.size < W2.heap.size := Nat.lt_of_lt_of_le bx0 k2.size
  have K2 := K1.tr0 k2
  clear K1 k2
  obtain ⟨pA, pn, pc, rfl⟩ := rp.a.slice
  obtain ⟨pB, pm, pd, rfl⟩ := rp.b.slice
  go_wp2_with fail
  refine (toSlotS_any _ _ _ _ (ri0.keep K2 (Nat.le_refl _) (.inr (Nat.le_refl 0))) hy0.out).mono ?_
  rintro e W3 ⟨ps0, rfl, rps0, k3⟩
  have s3 := k3.size
  replace c0_0 : W3.cell? ⟨w.heap.size, 0, none⟩ = some (.slice A n c) := k3.cells bx0 c0_0
  replace c0_1 : W3.cell? ⟨w.heap.size, 1, none⟩ = some (.slice B m d) := k3.cells bx0 c0_1
  replace bx0 : w.heap.size < W3.heap.size := Nat.lt_of_lt_of_le bx0 k3.size
  replace rp := rp.keep k3 (.inr (.inr (Nat.le_refl 0)))
  have K3 := K2.tr0 k3
  clear K2 k3
  obtain ⟨ps0A, ps0n, ps0c, rfl⟩ := rps0.slice
  go_wp2_with fail
  refine (specForgetUses_any _ _ _ _ _ _ _ ks l l0 p rp.a.rd rp.b.rd rps0.rd (by omega) (by omega) (by omega) hx0.out hx1.out hw0.out).mono ?_
  rintro e W4 ⟨w0, w1, rfl, rw, k4⟩
  have s4 := k4.size
  replace c0_0 : W4.cell? ⟨w.heap.size, 0, none⟩ = some (.slice A n c) := k4.cells bx0 c0_0
  replace c0_1 : W4.cell? ⟨w.heap.size, 1, none⟩ = some (.slice B m d) := k4.cells bx0 c0_1
  replace bx0 : w.heap.size < W4.heap.size := Nat.lt_of_lt_of_le bx0 k4.size
  replace rp := rp.keep k4 (.inr (.inr (Nat.le_refl 0)))
  replace rps0 := rps0.keep k4 (.inr (.inr (Nat.le_refl 0)))
  have K4 := K3.tr0 k4
  clear K3 k4
  obtain ⟨wA, wn, wc, rfl⟩ := rw.a.slice
  obtain ⟨wB, wm, wd, rfl⟩ := rw.b.slice
  replace rw := rw.cast HR.out
  clear rp
  clear rps0
  have ka1 := keep_1 W4 (.cells #[.slice wA wn wc, .slice wB wm wd] 31)
  replace c0_0 : (W4.alloc (.cells #[.slice wA wn wc, .slice wB wm wd] 31)).cell? ⟨w.heap.size, 0, none⟩ = some (.slice A n c) := ka1.cells bx0 c0_0
  replace c0_1 : (W4.alloc (.cells #[.slice wA wn wc, .slice wB wm wd] 31)).cell? ⟨w.heap.size, 1, none⟩ = some (.slice B m d) := ka1.cells bx0 c0_1
  replace bx0 : w.heap.size < (W4.alloc (.cells #[.slice wA wn wc, .slice wB wm wd] 31)).heap.size := Nat.lt_of_lt_of_le bx0 ka1.size
  replace rw := rw.keep ka1 (.inr (.inr (Nat.le_refl 0)))
  have K4a := K4.tr0 ka1
  clear K4 ka1
  have sa1 : W4.heap.size + 1 = (W4.alloc (.cells #[.slice wA wn wc, .slice wB wm wd] 31)).heap.size := by simp
  have HA1 := Lib.hid sa1
  replace sa1 : W4.heap.size < (W4.alloc (.cells #[.slice wA wn wc, .slice wB wm wd] 31)).heap.size := by omega
  have bx1 : W4.heap.size < (W4.alloc (.cells #[.slice wA wn wc, .slice wB wm wd] 31)).heap.size := by simp
  have c1_0 : (W4.alloc (.cells #[.slice wA wn wc, .slice wB wm wd] 31)).cell? ⟨W4.heap.size, 0, none⟩ = some (.slice wA wn wc) := by go_cell
  have c1_1 : (W4.alloc (.cells #[.slice wA wn wc, .slice wB wm wd] 31)).cell? ⟨W4.heap.size, 1, none⟩ = some (.slice wB wm wd) := by go_cell
  go_wp2_with fail
  refine (toKept_any _ _ _ _ _ ks _ (ra.keep K4a (Nat.le_refl _) (.inr (Nat.le_refl 0))) (rb.keep K4a (Nat.le_refl _) (.inr (Nat.le_refl 0))) K4a.size K4a.size hx0.out hx1.out).mono ?_
  rintro e W5 ⟨xa, xb, rfl, rx, k5⟩
  have s5 := k5.size
  replace c0_0 : W5.cell? ⟨w.heap.size, 0, none⟩ = some (.slice A n c) := k5.cells bx0 c0_0
  replace c0_1 : W5.cell? ⟨w.heap.size, 1, none⟩ = some (.slice B m d) := k5.cells bx0 c0_1
  replace c1_0 : W5.cell? ⟨W4.heap.size, 0, none⟩ = some (.slice wA wn wc) := k5.cells bx1 c1_0
  replace c1_1 : W5.cell? ⟨W4.heap.size, 1, none⟩ = some (.slice wB wm wd) := k5.cells bx1 c1_1
  replace bx0 : w.heap.size < W5.heap.size := Nat.lt_of_lt_of_le bx0 k5.size
  replace bx1 : W4.heap.size < W5.heap.size := Nat.lt_of_lt_of_le bx1 k5.size
  replace rw := rw.keep k5 (.inr (.inr (Nat.le_refl 0)))
  have K5 := K4a.tr0 k5
  clear K4a k5
  obtain ⟨xA, xn, xc, rfl⟩ := rx.a.slice
  obtain ⟨xB, xm, xd, rfl⟩ := rx.b.slice
  have ka2 := keep_1 W5 (.cells #[.slice xA xn xc, .slice xB xm xd] 31)
  replace c0_0 : (W5.alloc (.cells #[.slice xA xn xc, .slice xB xm xd] 31)).cell? ⟨w.heap.size, 0, none⟩ = some (.slice A n c) := ka2.cells bx0 c0_0
  replace c0_1 : (W5.alloc (.cells #[.slice xA xn xc, .slice xB xm xd] 31)).cell? ⟨w.heap.size, 1, none⟩ = some (.slice B m d) := ka2.cells bx0 c0_1
  replace c1_0 : (W5.alloc (.cells #[.slice xA xn xc, .slice xB xm xd] 31)).cell? ⟨W4.heap.size, 0, none⟩ = some (.slice wA wn wc) := ka2.cells bx1 c1_0
  replace c1_1 : (W5.alloc (.cells #[.slice xA xn xc, .slice xB xm xd] 31)).cell? ⟨W4.heap.size, 1, none⟩ = some (.slice wB wm wd) := ka2.cells bx1 c1_1
  replace bx0 : w.heap.size < (W5.alloc (.cells #[.slice xA xn xc, .slice xB xm xd] 31)).heap.size := Nat.lt_of_lt_of_le bx0 ka2.size
  replace bx1 : W4.heap.size < (W5.alloc (.cells #[.slice xA xn xc, .slice xB xm xd] 31)).heap.size := Nat.lt_of_lt_of_le bx1 ka2.size
  replace rw := rw.keep ka2 (.inr (.inr (Nat.le_refl 0)))
  replace rx := rx.keep ka2 (.inr (.inr (Nat.le_refl 0)))
  have K5a := K5.tr0 ka2
  clear K5 ka2
  have sa2 : W5.heap.size + 1 = (W5.alloc (.cells #[.slice xA xn xc, .slice xB xm xd] 31)).heap.size := by simp
  have HA2 := Lib.hid sa2
  replace sa2 : W5.heap.size < (W5.alloc (.cells #[.slice xA xn xc, .slice xB xm xd] 31)).heap.size := by omega
  have bx2 : W5.heap.size < (W5.alloc (.cells #[.slice xA xn xc, .slice xB xm xd] 31)).heap.size := by simp
  have c2_0 : (W5.alloc (.cells #[.slice xA xn xc, .slice xB xm xd] 31)).cell? ⟨W5.heap.size, 0, none⟩ = some (.slice xA xn xc) := by go_cell
  have c2_1 : (W5.alloc (.cells #[.slice xA xn xc, .slice xB xm xd] 31)).cell? ⟨W5.heap.size, 1, none⟩ = some (.slice xB xm xd) := by go_cell
  go_wp2_with fail
  refine (toSlotS_any _ _ _ _ (ri0.keep K5a (Nat.le_refl _) (.inr (Nat.le_refl 0))) hy0.out).mono ?_
  rintro e W6 ⟨xs0, rfl, rxs0, k6⟩
  have s6 := k6.size
  replace c0_0 : W6.cell? ⟨w.heap.size, 0, none⟩ = some (.slice A n c) := k6.cells bx0 c0_0
  replace c0_1 : W6.cell? ⟨w.heap.size, 1, none⟩ = some (.slice B m d) := k6.cells bx0 c0_1
  replace c1_0 : W6.cell? ⟨W4.heap.size, 0, none⟩ = some (.slice wA wn wc) := k6.cells bx1 c1_0
  replace c1_1 : W6.cell? ⟨W4.heap.size, 1, none⟩ = some (.slice wB wm wd) := k6.cells bx1 c1_1
  replace c2_0 : W6.cell? ⟨W5.heap.size, 0, none⟩ = some (.slice xA xn xc) := k6.cells bx2 c2_0
  replace c2_1 : W6.cell? ⟨W5.heap.size, 1, none⟩ = some (.slice xB xm xd) := k6.cells bx2 c2_1
  replace bx0 : w.heap.size < W6.heap.size := Nat.lt_of_lt_of_le bx0 k6.size
  replace bx1 : W4.heap.size < W6.heap.size := Nat.lt_of_lt_of_le bx1 k6.size
  replace bx2 : W5.heap.size < W6.heap.size := Nat.lt_of_lt_of_le bx2 k6.size
  replace rw := rw.keep k6 (.inr (.inr (Nat.le_refl 0)))
  replace rx := rx.keep k6 (.inr (.inr (Nat.le_refl 0)))
  have K6 := K5a.tr0 k6
  clear K5a k6
  obtain ⟨xs0A, xs0n, xs0c, rfl⟩ := rxs0.slice
  go_wp2_with fail
  refine (implForgetUses_any _ _ _ _ _ _ _ ks l l0 p rx.a.rd rx.b.rd rxs0.rd (by omega) (by omega) (by omega) hx0.out hx1.out hw0.out).mono ?_
  rintro e W7 ⟨g0, g1, rfl, rg, k7⟩
  have s7 := k7.size
  replace c0_0 : W7.cell? ⟨w.heap.size, 0, none⟩ = some (.slice A n c) := k7.cells bx0 c0_0
  replace c0_1 : W7.cell? ⟨w.heap.size, 1, none⟩ = some (.slice B m d) := k7.cells bx0 c0_1
  replace c1_0 : W7.cell? ⟨W4.heap.size, 0, none⟩ = some (.slice wA wn wc) := k7.cells bx1 c1_0
  replace c1_1 : W7.cell? ⟨W4.heap.size, 1, none⟩ = some (.slice wB wm wd) := k7.cells bx1 c1_1
  replace c2_0 : W7.cell? ⟨W5.heap.size, 0, none⟩ = some (.slice xA xn xc) := k7.cells bx2 c2_0
  replace c2_1 : W7.cell? ⟨W5.heap.size, 1, none⟩ = some (.slice xB xm xd) := k7.cells bx2 c2_1
  replace bx0 : w.heap.size < W7.heap.size := Nat.lt_of_lt_of_le bx0 k7.size
  replace bx1 : W4.heap.size < W7.heap.size := Nat.lt_of_lt_of_le bx1 k7.size
  replace bx2 : W5.heap.size < W7.heap.size := Nat.lt_of_lt_of_le bx2 k7.size
  replace rw := rw.keep k7 (.inr (.inr (Nat.le_refl 0)))
  replace rx := rx.keep k7 (.inr (.inr (Nat.le_refl 0)))
  replace rxs0 := rxs0.keep k7 (.inr (.inr (Nat.le_refl 0)))
  have K7 := K6.tr0 k7
  clear K6 k7
  obtain ⟨gA, gn, gc, rfl⟩ := rg.a.slice
  obtain ⟨gB, gm, gd, rfl⟩ := rg.b.slice
  replace rg := rg.cast HR.out
  have ka3 := keep_1 W7 (.cells #[.slice gA gn gc, .slice gB gm gd] 31)
  replace c0_0 : (W7.alloc (.cells #[.slice gA gn gc, .slice gB gm gd] 31)).cell? ⟨w.heap.size, 0, none⟩ = some (.slice A n c) := ka3.cells bx0 c0_0
  replace c0_1 : (W7.alloc (.cells #[.slice gA gn gc, .slice gB gm gd] 31)).cell? ⟨w.heap.size, 1, none⟩ = some (.slice B m d) := ka3.cells bx0 c0_1
  replace c1_0 : (W7.alloc (.cells #[.slice gA gn gc, .slice gB gm gd] 31)).cell? ⟨W4.heap.size, 0, none⟩ = some (.slice wA wn wc) := ka3.cells bx1 c1_0
  replace c1_1 : (W7.alloc (.cells #[.slice gA gn gc, .slice gB gm gd] 31)).cell? ⟨W4.heap.size, 1, none⟩ = some (.slice wB wm wd) := ka3.cells bx1 c1_1
  replace c2_0 : (W7.alloc (.cells #[.slice gA gn gc, .slice gB gm gd] 31)).cell? ⟨W5.heap.size, 0, none⟩ = some (.slice xA xn xc) := ka3.cells bx2 c2_0
  replace c2_1 : (W7.alloc (.cells #[.slice gA gn gc, .slice gB gm gd] 31)).cell? ⟨W5.heap.size, 1, none⟩ = some (.slice xB xm xd) := ka3.cells bx2 c2_1
  replace bx0 : w.heap.size < (W7.alloc (.cells #[.slice gA gn gc, .slice gB gm gd] 31)).heap.size := Nat.lt_of_lt_of_le bx0 ka3.size
  replace bx1 : W4.heap.size < (W7.alloc (.cells #[.slice gA gn gc, .slice gB gm gd] 31)).heap.size := Nat.lt_of_lt_of_le bx1 ka3.size
  replace bx2 : W5.heap.size < (W7.alloc (.cells #[.slice gA gn gc, .slice gB gm gd] 31)).heap.size := Nat.lt_of_lt_of_le bx2 ka3.size
  replace rw := rw.keep ka3 (.inr (.inr (Nat.le_refl 0)))
  replace rx := rx.keep ka3 (.inr (.inr (Nat.le_refl 0)))
  replace rxs0 := rxs0.keep ka3 (.inr (.inr (Nat.le_refl 0)))
  replace rg := rg.keep ka3 (.inr (.inr (Nat.le_refl 0)))
  have K7a := K7.tr0 ka3
  clear K7 ka3
  have sa3 : W7.heap.size + 1 = (W7.alloc (.cells #[.slice gA gn gc, .slice gB gm gd] 31)).heap.size := by simp
  have HA3 := Lib.hid sa3
  replace sa3 : W7.heap.size < (W7.alloc (.cells #[.slice gA gn gc, .slice gB gm gd] 31)).heap.size := by omega
  have bx3 : W7.heap.size < (W7.alloc (.cells #[.slice gA gn gc, .slice gB gm gd] 31)).heap.size := by simp
  have c3_0 : (W7.alloc (.cells #[.slice gA gn gc, .slice gB gm gd] 31)).cell? ⟨W7.heap.size, 0, none⟩ = some (.slice gA gn gc) := by go_cell
  have c3_1 : (W7.alloc (.cells #[.slice gA gn gc, .slice gB gm gd] 31)).cell? ⟨W7.heap.size, 1, none⟩ = some (.slice gB gm gd) := by go_cell
  go_wp2_with fail
  refine (eqKept_any _ _ _ _ _ _ _ _ _ _ _ _ _ rg.a.rd rg.b.rd rw.a.rd rw.b.rd (by omega) (by omega) (by omega) (by omega)).mono ?_
  rintro e W8 ⟨rfl, k8⟩
  have s8 := k8.size
  replace c0_0 : W8.cell? ⟨w.heap.size, 0, none⟩ = some (.slice A n c) := k8.cells bx0 c0_0
  replace c0_1 : W8.cell? ⟨w.heap.size, 1, none⟩ = some (.slice B m d) := k8.cells bx0 c0_1
  replace c1_0 : W8.cell? ⟨W4.heap.size, 0, none⟩ = some (.slice wA wn wc) := k8.cells bx1 c1_0
  replace c1_1 : W8.cell? ⟨W4.heap.size, 1, none⟩ = some (.slice wB wm wd) := k8.cells bx1 c1_1
  replace c2_0 : W8.cell? ⟨W5.heap.size, 0, none⟩ = some (.slice xA xn xc) := k8.cells bx2 c2_0
  replace c2_1 : W8.cell? ⟨W5.heap.size, 1, none⟩ = some (.slice xB xm xd) := k8.cells bx2 c2_1
  replace c3_0 : W8.cell? ⟨W7.heap.size, 0, none⟩ = some (.slice gA gn gc) := k8.cells bx3 c3_0
  replace c3_1 : W8.cell? ⟨W7.heap.size, 1, none⟩ = some (.slice gB gm gd) := k8.cells bx3 c3_1
  replace bx0 : w.heap.size < W8.heap.size := Nat.lt_of_lt_of_le bx0 k8.size
  replace bx1 : W4.heap.size < W8.heap.size := Nat.lt_of_lt_of_le bx1 k8.size
  replace bx2 : W5.heap.size < W8.heap.size := Nat.lt_of_lt_of_le bx2 k8.size
  replace bx3 : W7.heap.size < W8.heap.size := Nat.lt_of_lt_of_le bx3 k8.size
  replace rw := rw.keep k8 (.inr (.inr (Nat.le_refl 0)))
  replace rx := rx.keep k8 (.inr (.inr (Nat.le_refl 0)))
  replace rxs0 := rxs0.keep k8 (.inr (.inr (Nat.le_refl 0)))
  replace rg := rg.keep k8 (.inr (.inr (Nat.le_refl 0)))
  have K8 := K7a.tr0 k8
  clear K7a k8
  simp only [decide_true, Bool.and_self]
  have HS8 := Lib.hid (show ∀ w' : World, Keep 0 0 W8 w' → w'.cell? ⟨w.heap.size, 0, none⟩ = some (.slice A n c) ∧ w'.cell? ⟨w.heap.size, 1, none⟩ = some (.slice B m d) ∧ w'.cell? ⟨W5.heap.size, 0, none⟩ = some (.slice xA xn xc) ∧ w'.cell? ⟨W5.heap.size, 1, none⟩ = some (.slice xB xm xd) ∧ Keep 0 0 W8 w' from fun w' h => ⟨h.cells bx0 c0_0, h.cells bx0 c0_1, h.cells bx2 c2_0, h.cells bx2 c2_1, h⟩)
  have HT8 := Lib.hid (show ∀ w1 w2 : World, (w1.cell? ⟨w.heap.size, 0, none⟩ = some (.slice A n c) ∧ w1.cell? ⟨w.heap.size, 1, none⟩ = some (.slice B m d) ∧ w1.cell? ⟨W5.heap.size, 0, none⟩ = some (.slice xA xn xc) ∧ w1.cell? ⟨W5.heap.size, 1, none⟩ = some (.slice xB xm xd) ∧ Keep 0 0 W8 w1) → Keep 0 0 w1 w2 → w2.cell? ⟨w.heap.size, 0, none⟩ = some (.slice A n c) ∧ w2.cell? ⟨w.heap.size, 1, none⟩ = some (.slice B m d) ∧ w2.cell? ⟨W5.heap.size, 0, none⟩ = some (.slice xA xn xc) ∧ w2.cell? ⟨W5.heap.size, 1, none⟩ = some (.slice xB xm xd) ∧ Keep 0 0 W8 w2 from fun w1 w2 h k => HS8.out _ (h.2.2.2.2.tr0 k))
  have KD := (Keep.refl 0 0 W8).drew
  have raD := (ra.keep K8 (Nat.le_refl _) (.inr (Nat.le_refl 0))).keep KD K8.size (.inr (Nat.le_refl 0))
  have rbD := (rb.keep K8 (Nat.le_refl _) (.inr (Nat.le_refl 0))).keep KD K8.size (.inr (Nat.le_refl 0))
  have zD : (w.alloc (.cells #[.slice A n c, .slice B m d] 25)).heap.size ≤ W8.drew.heap.size := K8.size
  go_wp2_with fail
  go_region_held3 (fun w' => w'.cell? ⟨w.heap.size, 0, none⟩ = some (.slice A n c) ∧ w'.cell? ⟨w.heap.size, 1, none⟩ = some (.slice B m d) ∧ w'.cell? ⟨W5.heap.size, 0, none⟩ = some (.slice xA xn xc) ∧ w'.cell? ⟨W5.heap.size, 1, none⟩ = some (.slice xB xm xd) ∧ Keep 0 0 W8 w')
    (first | (with_reducible exact HS8.out _ KD) | (refine HT8.out ?_ _ ?_ ?_; rotate_right; (with_reducible assumption); (with_reducible assumption)) | fail)
    (first
      | (go_at_call 11; refine (toKept_any _ _ _ _ _ ks _ raD rbD zD zD hx0.out hx1.out).mono ?_; rintro e W9 ⟨va9, vb9, rfl, rt9, k9⟩)
      | (go_at_call 14; refine (eqKept_any _ _ _ _ _ _ _ _ _ _ _ _ _ ((rx.keep (KD.tr0 k9) (.inr (.inr (Nat.le_refl 0)))).a.rd) ((rx.keep (KD.tr0 k9) (.inr (.inr (Nat.le_refl 0)))).b.rd) rt9.a.rd rt9.b.rd (by have := (KD.tr0 k9).size; omega) (by have := (KD.tr0 k9).size; omega) (Nat.le_refl _) (Nat.le_refl _)).mono ?_; rintro e W10 ⟨rfl, k10⟩)
      | fail)
  have kk10 := (KD.tr0 k9).tr0 k10
  have s10 := kk10.size
  replace c0_0 : W10.cell? ⟨w.heap.size, 0, none⟩ = some (.slice A n c) := kk10.cells bx0 c0_0
  replace c0_1 : W10.cell? ⟨w.heap.size, 1, none⟩ = some (.slice B m d) := kk10.cells bx0 c0_1
  replace c1_0 : W10.cell? ⟨W4.heap.size, 0, none⟩ = some (.slice wA wn wc) := kk10.cells bx1 c1_0
  replace c1_1 : W10.cell? ⟨W4.heap.size, 1, none⟩ = some (.slice wB wm wd) := kk10.cells bx1 c1_1
  replace c2_0 : W10.cell? ⟨W5.heap.size, 0, none⟩ = some (.slice xA xn xc) := kk10.cells bx2 c2_0
  replace c2_1 : W10.cell? ⟨W5.heap.size, 1, none⟩ = some (.slice xB xm xd) := kk10.cells bx2 c2_1
  replace c3_0 : W10.cell? ⟨W7.heap.size, 0, none⟩ = some (.slice gA gn gc) := kk10.cells bx3 c3_0
  replace c3_1 : W10.cell? ⟨W7.heap.size, 1, none⟩ = some (.slice gB gm gd) := kk10.cells bx3 c3_1
  replace bx0 : w.heap.size < W10.heap.size := Nat.lt_of_lt_of_le bx0 kk10.size
  replace bx1 : W4.heap.size < W10.heap.size := Nat.lt_of_lt_of_le bx1 kk10.size
  replace bx2 : W5.heap.size < W10.heap.size := Nat.lt_of_lt_of_le bx2 kk10.size
  replace bx3 : W7.heap.size < W10.heap.size := Nat.lt_of_lt_of_le bx3 kk10.size
  replace rw := rw.keep kk10 (.inr (.inr (Nat.le_refl 0)))
  replace rx := rx.keep kk10 (.inr (.inr (Nat.le_refl 0)))
  replace rxs0 := rxs0.keep kk10 (.inr (.inr (Nat.le_refl 0)))
  replace rg := rg.keep kk10 (.inr (.inr (Nat.le_refl 0)))
  have K10 := K8.tr0 kk10
  clear raD rbD zD KD rt9 k9 k10 kk10 K8 HS8 HT8
  go_wp2_with fail
  refine (toSlotS_any _ _ _ _ (ri0.keep K10 (Nat.le_refl _) (.inr (Nat.le_refl 0))) hy0.out).mono ?_
  rintro e W11 ⟨ts0, rfl, rts0, k11⟩
  have s11 := k11.size
  replace c0_0 : W11.cell? ⟨w.heap.size, 0, none⟩ = some (.slice A n c) := k11.cells bx0 c0_0
  replace c0_1 : W11.cell? ⟨w.heap.size, 1, none⟩ = some (.slice B m d) := k11.cells bx0 c0_1
  replace c1_0 : W11.cell? ⟨W4.heap.size, 0, none⟩ = some (.slice wA wn wc) := k11.cells bx1 c1_0
  replace c1_1 : W11.cell? ⟨W4.heap.size, 1, none⟩ = some (.slice wB wm wd) := k11.cells bx1 c1_1
  replace c2_0 : W11.cell? ⟨W5.heap.size, 0, none⟩ = some (.slice xA xn xc) := k11.cells bx2 c2_0
  replace c2_1 : W11.cell? ⟨W5.heap.size, 1, none⟩ = some (.slice xB xm xd) := k11.cells bx2 c2_1
  replace c3_0 : W11.cell? ⟨W7.heap.size, 0, none⟩ = some (.slice gA gn gc) := k11.cells bx3 c3_0
  replace c3_1 : W11.cell? ⟨W7.heap.size, 1, none⟩ = some (.slice gB gm gd) := k11.cells bx3 c3_1
  replace bx0 : w.heap.size < W11.heap.size := Nat.lt_of_lt_of_le bx0 k11.size
  replace bx1 : W4.heap.size < W11.heap.size := Nat.lt_of_lt_of_le bx1 k11.size
  replace bx2 : W5.heap.size < W11.heap.size := Nat.lt_of_lt_of_le bx2 k11.size
  replace bx3 : W7.heap.size < W11.heap.size := Nat.lt_of_lt_of_le bx3 k11.size
  replace rw := rw.keep k11 (.inr (.inr (Nat.le_refl 0)))
  replace rx := rx.keep k11 (.inr (.inr (Nat.le_refl 0)))
  replace rxs0 := rxs0.keep k11 (.inr (.inr (Nat.le_refl 0)))
  replace rg := rg.keep k11 (.inr (.inr (Nat.le_refl 0)))
  have K11 := K10.tr0 k11
  clear K10 k11
  obtain ⟨ts0A, ts0n, ts0c, rfl⟩ := rts0.slice
  go_wp2_with fail
  refine (eqSlotS_any _ _ _ _ _ _ _ rxs0.rd rts0.rd).mono ?_
  rintro e W12 ⟨rfl, k12⟩
  have s12 := k12.size
  replace c0_0 : W12.cell? ⟨w.heap.size, 0, none⟩ = some (.slice A n c) := k12.cells bx0 c0_0
  replace c0_1 : W12.cell? ⟨w.heap.size, 1, none⟩ = some (.slice B m d) := k12.cells bx0 c0_1
  replace c1_0 : W12.cell? ⟨W4.heap.size, 0, none⟩ = some (.slice wA wn wc) := k12.cells bx1 c1_0
  replace c1_1 : W12.cell? ⟨W4.heap.size, 1, none⟩ = some (.slice wB wm wd) := k12.cells bx1 c1_1
  replace c2_0 : W12.cell? ⟨W5.heap.size, 0, none⟩ = some (.slice xA xn xc) := k12.cells bx2 c2_0
  replace c2_1 : W12.cell? ⟨W5.heap.size, 1, none⟩ = some (.slice xB xm xd) := k12.cells bx2 c2_1
  replace c3_0 : W12.cell? ⟨W7.heap.size, 0, none⟩ = some (.slice gA gn gc) := k12.cells bx3 c3_0
  replace c3_1 : W12.cell? ⟨W7.heap.size, 1, none⟩ = some (.slice gB gm gd) := k12.cells bx3 c3_1
  replace bx0 : w.heap.size < W12.heap.size := Nat.lt_of_lt_of_le bx0 k12.size
  replace bx1 : W4.heap.size < W12.heap.size := Nat.lt_of_lt_of_le bx1 k12.size
  replace bx2 : W5.heap.size < W12.heap.size := Nat.lt_of_lt_of_le bx2 k12.size
  replace bx3 : W7.heap.size < W12.heap.size := Nat.lt_of_lt_of_le bx3 k12.size
  replace rw := rw.keep k12 (.inr (.inr (Nat.le_refl 0)))
  replace rx := rx.keep k12 (.inr (.inr (Nat.le_refl 0)))
  replace rxs0 := rxs0.keep k12 (.inr (.inr (Nat.le_refl 0)))
  replace rg := rg.keep k12 (.inr (.inr (Nat.le_refl 0)))
  replace rts0 := rts0.keep k12 (.inr (.inr (Nat.le_refl 0)))
  have K12 := K11.tr0 k12
  clear K11 k12
  simp only [decide_true]
  clear rts0
  go_wp2_with fail
  refine (markKept_any _ _ _ _ _ _ _ NX MX HNX.out HMX.out 1 rx (by omega) (by omega) (by omega)).mono ?_
  rintro e W13 ⟨rfl, rm, k13⟩
  have s13 := k13.size
  replace c0_0 : W13.cell? ⟨w.heap.size, 0, none⟩ = some (.slice A n c) := (k13.cell (p := ⟨w.heap.size, 0, none⟩) (by exact bx0) (by show w.heap.size < _ ∨ _ ≤ w.heap.size; omega)).trans c0_0
  replace c0_1 : W13.cell? ⟨w.heap.size, 1, none⟩ = some (.slice B m d) := (k13.cell (p := ⟨w.heap.size, 1, none⟩) (by exact bx0) (by show w.heap.size < _ ∨ _ ≤ w.heap.size; omega)).trans c0_1
  replace c1_0 : W13.cell? ⟨W4.heap.size, 0, none⟩ = some (.slice wA wn wc) := (k13.cell (p := ⟨W4.heap.size, 0, none⟩) (by exact bx1) (by show W4.heap.size < _ ∨ _ ≤ W4.heap.size; omega)).trans c1_0
  replace c1_1 : W13.cell? ⟨W4.heap.size, 1, none⟩ = some (.slice wB wm wd) := (k13.cell (p := ⟨W4.heap.size, 1, none⟩) (by exact bx1) (by show W4.heap.size < _ ∨ _ ≤ W4.heap.size; omega)).trans c1_1
  replace c2_0 : W13.cell? ⟨W5.heap.size, 0, none⟩ = some (.slice xA xn xc) := (k13.cell (p := ⟨W5.heap.size, 0, none⟩) (by exact bx2) (by show W5.heap.size < _ ∨ _ ≤ W5.heap.size; omega)).trans c2_0
  replace c2_1 : W13.cell? ⟨W5.heap.size, 1, none⟩ = some (.slice xB xm xd) := (k13.cell (p := ⟨W5.heap.size, 1, none⟩) (by exact bx2) (by show W5.heap.size < _ ∨ _ ≤ W5.heap.size; omega)).trans c2_1
  replace c3_0 : W13.cell? ⟨W7.heap.size, 0, none⟩ = some (.slice gA gn gc) := (k13.cell (p := ⟨W7.heap.size, 0, none⟩) (by exact bx3) (by show W7.heap.size < _ ∨ _ ≤ W7.heap.size; omega)).trans c3_0
  replace c3_1 : W13.cell? ⟨W7.heap.size, 1, none⟩ = some (.slice gB gm gd) := (k13.cell (p := ⟨W7.heap.size, 1, none⟩) (by exact bx3) (by show W7.heap.size < _ ∨ _ ≤ W7.heap.size; omega)).trans c3_1
  replace bx0 : w.heap.size < W13.heap.size := Nat.lt_of_lt_of_le bx0 k13.size
  replace bx1 : W4.heap.size < W13.heap.size := Nat.lt_of_lt_of_le bx1 k13.size
  replace bx2 : W5.heap.size < W13.heap.size := Nat.lt_of_lt_of_le bx2 k13.size
  replace bx3 : W7.heap.size < W13.heap.size := Nat.lt_of_lt_of_le bx3 k13.size
  replace rw := rw.keep k13 (by omega)
  replace rxs0 := rxs0.keep k13 (by omega)
  replace rg := rg.keep k13 (by omega)
  have K13 := K12.trm k13 (by omega)
  clear K12 k13
  clear rx rm
  go_wp2_with fail
  refine (markSlotS_any _ _ _ _ _ NZ0 HNZ0.out _ rxs0 (by omega) (by omega)).mono ?_
  rintro e W14 ⟨rfl, rm, k14⟩
  have s14 := k14.size
  replace c0_0 : W14.cell? ⟨w.heap.size, 0, none⟩ = some (.slice A n c) := (k14.cell (p := ⟨w.heap.size, 0, none⟩) (by exact bx0) (by show w.heap.size < _ ∨ _ ≤ w.heap.size; omega)).trans c0_0
  replace c0_1 : W14.cell? ⟨w.heap.size, 1, none⟩ = some (.slice B m d) := (k14.cell (p := ⟨w.heap.size, 1, none⟩) (by exact bx0) (by show w.heap.size < _ ∨ _ ≤ w.heap.size; omega)).trans c0_1
  replace c1_0 : W14.cell? ⟨W4.heap.size, 0, none⟩ = some (.slice wA wn wc) := (k14.cell (p := ⟨W4.heap.size, 0, none⟩) (by exact bx1) (by show W4.heap.size < _ ∨ _ ≤ W4.heap.size; omega)).trans c1_0
  replace c1_1 : W14.cell? ⟨W4.heap.size, 1, none⟩ = some (.slice wB wm wd) := (k14.cell (p := ⟨W4.heap.size, 1, none⟩) (by exact bx1) (by show W4.heap.size < _ ∨ _ ≤ W4.heap.size; omega)).trans c1_1
  replace c2_0 : W14.cell? ⟨W5.heap.size, 0, none⟩ = some (.slice xA xn xc) := (k14.cell (p := ⟨W5.heap.size, 0, none⟩) (by exact bx2) (by show W5.heap.size < _ ∨ _ ≤ W5.heap.size; omega)).trans c2_0
  replace c2_1 : W14.cell? ⟨W5.heap.size, 1, none⟩ = some (.slice xB xm xd) := (k14.cell (p := ⟨W5.heap.size, 1, none⟩) (by exact bx2) (by show W5.heap.size < _ ∨ _ ≤ W5.heap.size; omega)).trans c2_1
  replace c3_0 : W14.cell? ⟨W7.heap.size, 0, none⟩ = some (.slice gA gn gc) := (k14.cell (p := ⟨W7.heap.size, 0, none⟩) (by exact bx3) (by show W7.heap.size < _ ∨ _ ≤ W7.heap.size; omega)).trans c3_0
  replace c3_1 : W14.cell? ⟨W7.heap.size, 1, none⟩ = some (.slice gB gm gd) := (k14.cell (p := ⟨W7.heap.size, 1, none⟩) (by exact bx3) (by show W7.heap.size < _ ∨ _ ≤ W7.heap.size; omega)).trans c3_1
  replace bx0 : w.heap.size < W14.heap.size := Nat.lt_of_lt_of_le bx0 k14.size
  replace bx1 : W4.heap.size < W14.heap.size := Nat.lt_of_lt_of_le bx1 k14.size
  replace bx2 : W5.heap.size < W14.heap.size := Nat.lt_of_lt_of_le bx2 k14.size
  replace bx3 : W7.heap.size < W14.heap.size := Nat.lt_of_lt_of_le bx3 k14.size
  replace rw := rw.keep k14 (by omega)
  replace rg := rg.keep k14 (by omega)
  have K14 := K13.trm k14 (by omega)
  clear K13 k14
  clear rxs0 rm
  go_wp2_with fail
  refine (eqKept_any _ _ _ _ _ _ _ _ _ _ _ _ _ rg.a.rd rg.b.rd rw.a.rd rw.b.rd (by omega) (by omega) (by omega) (by omega)).mono ?_
  rintro e W15 ⟨rfl, k15⟩
  have s15 := k15.size
  replace c0_0 : W15.cell? ⟨w.heap.size, 0, none⟩ = some (.slice A n c) := k15.cells bx0 c0_0
  replace c0_1 : W15.cell? ⟨w.heap.size, 1, none⟩ = some (.slice B m d) := k15.cells bx0 c0_1
  replace c1_0 : W15.cell? ⟨W4.heap.size, 0, none⟩ = some (.slice wA wn wc) := k15.cells bx1 c1_0
  replace c1_1 : W15.cell? ⟨W4.heap.size, 1, none⟩ = some (.slice wB wm wd) := k15.cells bx1 c1_1
  replace c2_0 : W15.cell? ⟨W5.heap.size, 0, none⟩ = some (.slice xA xn xc) := k15.cells bx2 c2_0
  replace c2_1 : W15.cell? ⟨W5.heap.size, 1, none⟩ = some (.slice xB xm xd) := k15.cells bx2 c2_1
  replace c3_0 : W15.cell? ⟨W7.heap.size, 0, none⟩ = some (.slice gA gn gc) := k15.cells bx3 c3_0
  replace c3_1 : W15.cell? ⟨W7.heap.size, 1, none⟩ = some (.slice gB gm gd) := k15.cells bx3 c3_1
  replace bx0 : w.heap.size < W15.heap.size := Nat.lt_of_lt_of_le bx0 k15.size
  replace bx1 : W4.heap.size < W15.heap.size := Nat.lt_of_lt_of_le bx1 k15.size
  replace bx2 : W5.heap.size < W15.heap.size := Nat.lt_of_lt_of_le bx2 k15.size
  replace bx3 : W7.heap.size < W15.heap.size := Nat.lt_of_lt_of_le bx3 k15.size
  replace rw := rw.keep k15 (.inr (.inr (Nat.le_refl 0)))
  replace rg := rg.keep k15 (.inr (.inr (Nat.le_refl 0)))
  have K15 := K14.tr0 k15
  clear K14 k15
  simp only [decide_true, Bool.and_self]
  go_wp2_with fail
  refine (markKept_any _ _ _ _ _ _ _ NG MG HNG.out HMG.out 1 rg (by omega) (by omega) (by omega)).mono ?_
  rintro e W16 ⟨rfl, rh, k16⟩
  have s16 := k16.size
  replace c0_0 : W16.cell? ⟨w.heap.size, 0, none⟩ = some (.slice A n c) := (k16.cell (p := ⟨w.heap.size, 0, none⟩) (by exact bx0) (by show w.heap.size < _ ∨ _ ≤ w.heap.size; omega)).trans c0_0
  replace c0_1 : W16.cell? ⟨w.heap.size, 1, none⟩ = some (.slice B m d) := (k16.cell (p := ⟨w.heap.size, 1, none⟩) (by exact bx0) (by show w.heap.size < _ ∨ _ ≤ w.heap.size; omega)).trans c0_1
  replace c1_0 : W16.cell? ⟨W4.heap.size, 0, none⟩ = some (.slice wA wn wc) := (k16.cell (p := ⟨W4.heap.size, 0, none⟩) (by exact bx1) (by show W4.heap.size < _ ∨ _ ≤ W4.heap.size; omega)).trans c1_0
  replace c1_1 : W16.cell? ⟨W4.heap.size, 1, none⟩ = some (.slice wB wm wd) := (k16.cell (p := ⟨W4.heap.size, 1, none⟩) (by exact bx1) (by show W4.heap.size < _ ∨ _ ≤ W4.heap.size; omega)).trans c1_1
  replace c2_0 : W16.cell? ⟨W5.heap.size, 0, none⟩ = some (.slice xA xn xc) := (k16.cell (p := ⟨W5.heap.size, 0, none⟩) (by exact bx2) (by show W5.heap.size < _ ∨ _ ≤ W5.heap.size; omega)).trans c2_0
  replace c2_1 : W16.cell? ⟨W5.heap.size, 1, none⟩ = some (.slice xB xm xd) := (k16.cell (p := ⟨W5.heap.size, 1, none⟩) (by exact bx2) (by show W5.heap.size < _ ∨ _ ≤ W5.heap.size; omega)).trans c2_1
  replace c3_0 : W16.cell? ⟨W7.heap.size, 0, none⟩ = some (.slice gA gn gc) := (k16.cell (p := ⟨W7.heap.size, 0, none⟩) (by exact bx3) (by show W7.heap.size < _ ∨ _ ≤ W7.heap.size; omega)).trans c3_0
  replace c3_1 : W16.cell? ⟨W7.heap.size, 1, none⟩ = some (.slice gB gm gd) := (k16.cell (p := ⟨W7.heap.size, 1, none⟩) (by exact bx3) (by show W7.heap.size < _ ∨ _ ≤ W7.heap.size; omega)).trans c3_1
  replace bx0 : w.heap.size < W16.heap.size := Nat.lt_of_lt_of_le bx0 k16.size
  replace bx1 : W4.heap.size < W16.heap.size := Nat.lt_of_lt_of_le bx1 k16.size
  replace bx2 : W5.heap.size < W16.heap.size := Nat.lt_of_lt_of_le bx2 k16.size
  replace bx3 : W7.heap.size < W16.heap.size := Nat.lt_of_lt_of_le bx3 k16.size
  replace rw := rw.keep k16 (by omega)
  have K16 := K15.trm k16 (by omega)
  clear K15 k16
  clear rg
  go_wp2_with fail
  refine (heldKept_any _ _ _ _ _ NG MG 1 rh.a.rd rh.b.rd (by omega) (by omega) (by omega) (by omega)).mono ?_
  rintro e W17 ⟨rfl, k17⟩
  have s17 := k17.size
  replace c0_0 : W17.cell? ⟨w.heap.size, 0, none⟩ = some (.slice A n c) := k17.cells bx0 c0_0
  replace c0_1 : W17.cell? ⟨w.heap.size, 1, none⟩ = some (.slice B m d) := k17.cells bx0 c0_1
  replace c1_0 : W17.cell? ⟨W4.heap.size, 0, none⟩ = some (.slice wA wn wc) := k17.cells bx1 c1_0
  replace c1_1 : W17.cell? ⟨W4.heap.size, 1, none⟩ = some (.slice wB wm wd) := k17.cells bx1 c1_1
  replace c2_0 : W17.cell? ⟨W5.heap.size, 0, none⟩ = some (.slice xA xn xc) := k17.cells bx2 c2_0
  replace c2_1 : W17.cell? ⟨W5.heap.size, 1, none⟩ = some (.slice xB xm xd) := k17.cells bx2 c2_1
  replace c3_0 : W17.cell? ⟨W7.heap.size, 0, none⟩ = some (.slice gA gn gc) := k17.cells bx3 c3_0
  replace c3_1 : W17.cell? ⟨W7.heap.size, 1, none⟩ = some (.slice gB gm gd) := k17.cells bx3 c3_1
  replace bx0 : w.heap.size < W17.heap.size := Nat.lt_of_lt_of_le bx0 k17.size
  replace bx1 : W4.heap.size < W17.heap.size := Nat.lt_of_lt_of_le bx1 k17.size
  replace bx2 : W5.heap.size < W17.heap.size := Nat.lt_of_lt_of_le bx2 k17.size
  replace bx3 : W7.heap.size < W17.heap.size := Nat.lt_of_lt_of_le bx3 k17.size
  replace rw := rw.keep k17 (.inr (.inr (Nat.le_refl 0)))
  replace rh := rh.keep k17 (.inr (.inr (Nat.le_refl 0)))
  have K17 := K16.tr0 k17
  clear K16 k17
  go_wp2_with fail
  refine (toKept_any _ _ _ _ _ ks _ (ra.keep K17 (Nat.le_refl _) (.inr (Nat.le_refl 0))) (rb.keep K17 (Nat.le_refl _) (.inr (Nat.le_refl 0))) K17.size K17.size hx0.out hx1.out).mono ?_
  rintro e W18 ⟨ya, yb, rfl, ry, k18⟩
  have s18 := k18.size
  replace c0_0 : W18.cell? ⟨w.heap.size, 0, none⟩ = some (.slice A n c) := k18.cells bx0 c0_0
  replace c0_1 : W18.cell? ⟨w.heap.size, 1, none⟩ = some (.slice B m d) := k18.cells bx0 c0_1
  replace c1_0 : W18.cell? ⟨W4.heap.size, 0, none⟩ = some (.slice wA wn wc) := k18.cells bx1 c1_0
  replace c1_1 : W18.cell? ⟨W4.heap.size, 1, none⟩ = some (.slice wB wm wd) := k18.cells bx1 c1_1
  replace c2_0 : W18.cell? ⟨W5.heap.size, 0, none⟩ = some (.slice xA xn xc) := k18.cells bx2 c2_0
  replace c2_1 : W18.cell? ⟨W5.heap.size, 1, none⟩ = some (.slice xB xm xd) := k18.cells bx2 c2_1
  replace c3_0 : W18.cell? ⟨W7.heap.size, 0, none⟩ = some (.slice gA gn gc) := k18.cells bx3 c3_0
  replace c3_1 : W18.cell? ⟨W7.heap.size, 1, none⟩ = some (.slice gB gm gd) := k18.cells bx3 c3_1
  replace bx0 : w.heap.size < W18.heap.size := Nat.lt_of_lt_of_le bx0 k18.size
  replace bx1 : W4.heap.size < W18.heap.size := Nat.lt_of_lt_of_le bx1 k18.size
  replace bx2 : W5.heap.size < W18.heap.size := Nat.lt_of_lt_of_le bx2 k18.size
  replace bx3 : W7.heap.size < W18.heap.size := Nat.lt_of_lt_of_le bx3 k18.size
  replace rw := rw.keep k18 (.inr (.inr (Nat.le_refl 0)))
  replace rh := rh.keep k18 (.inr (.inr (Nat.le_refl 0)))
  have K18 := K17.tr0 k18
  clear K17 k18
  obtain ⟨yA, yn, yc, rfl⟩ := ry.a.slice
  obtain ⟨yB, ym, yd, rfl⟩ := ry.b.slice
  go_wp2_with fail
  refine (toSlotS_any _ _ _ _ (ri0.keep K18 (Nat.le_refl _) (.inr (Nat.le_refl 0))) hy0.out).mono ?_
  rintro e W19 ⟨ys0, rfl, rys0, k19⟩
  have s19 := k19.size
  replace c0_0 : W19.cell? ⟨w.heap.size, 0, none⟩ = some (.slice A n c) := k19.cells bx0 c0_0
  replace c0_1 : W19.cell? ⟨w.heap.size, 1, none⟩ = some (.slice B m d) := k19.cells bx0 c0_1
  replace c1_0 : W19.cell? ⟨W4.heap.size, 0, none⟩ = some (.slice wA wn wc) := k19.cells bx1 c1_0
  replace c1_1 : W19.cell? ⟨W4.heap.size, 1, none⟩ = some (.slice wB wm wd) := k19.cells bx1 c1_1
  replace c2_0 : W19.cell? ⟨W5.heap.size, 0, none⟩ = some (.slice xA xn xc) := k19.cells bx2 c2_0
  replace c2_1 : W19.cell? ⟨W5.heap.size, 1, none⟩ = some (.slice xB xm xd) := k19.cells bx2 c2_1
  replace c3_0 : W19.cell? ⟨W7.heap.size, 0, none⟩ = some (.slice gA gn gc) := k19.cells bx3 c3_0
  replace c3_1 : W19.cell? ⟨W7.heap.size, 1, none⟩ = some (.slice gB gm gd) := k19.cells bx3 c3_1
  replace bx0 : w.heap.size < W19.heap.size := Nat.lt_of_lt_of_le bx0 k19.size
  replace bx1 : W4.heap.size < W19.heap.size := Nat.lt_of_lt_of_le bx1 k19.size
  replace bx2 : W5.heap.size < W19.heap.size := Nat.lt_of_lt_of_le bx2 k19.size
  replace bx3 : W7.heap.size < W19.heap.size := Nat.lt_of_lt_of_le bx3 k19.size
  replace rw := rw.keep k19 (.inr (.inr (Nat.le_refl 0)))
  replace rh := rh.keep k19 (.inr (.inr (Nat.le_refl 0)))
  replace ry := ry.keep k19 (.inr (.inr (Nat.le_refl 0)))
  have K19 := K18.tr0 k19
  clear K18 k19
  obtain ⟨ys0A, ys0n, ys0c, rfl⟩ := rys0.slice
  go_wp2_with fail
  refine (implForgetUses_any _ _ _ _ _ _ _ ks l l0 p ry.a.rd ry.b.rd rys0.rd (by omega) (by omega) (by omega) hx0.out hx1.out hw0.out).mono ?_
  rintro e W20 ⟨u0, u1, rfl, ru, k20⟩
  have s20 := k20.size
  replace c0_0 : W20.cell? ⟨w.heap.size, 0, none⟩ = some (.slice A n c) := k20.cells bx0 c0_0
  replace c0_1 : W20.cell? ⟨w.heap.size, 1, none⟩ = some (.slice B m d) := k20.cells bx0 c0_1
  replace c1_0 : W20.cell? ⟨W4.heap.size, 0, none⟩ = some (.slice wA wn wc) := k20.cells bx1 c1_0
  replace c1_1 : W20.cell? ⟨W4.heap.size, 1, none⟩ = some (.slice wB wm wd) := k20.cells bx1 c1_1
  replace c2_0 : W20.cell? ⟨W5.heap.size, 0, none⟩ = some (.slice xA xn xc) := k20.cells bx2 c2_0
  replace c2_1 : W20.cell? ⟨W5.heap.size, 1, none⟩ = some (.slice xB xm xd) := k20.cells bx2 c2_1
  replace c3_0 : W20.cell? ⟨W7.heap.size, 0, none⟩ = some (.slice gA gn gc) := k20.cells bx3 c3_0
  replace c3_1 : W20.cell? ⟨W7.heap.size, 1, none⟩ = some (.slice gB gm gd) := k20.cells bx3 c3_1
  replace bx0 : w.heap.size < W20.heap.size := Nat.lt_of_lt_of_le bx0 k20.size
  replace bx1 : W4.heap.size < W20.heap.size := Nat.lt_of_lt_of_le bx1 k20.size
  replace bx2 : W5.heap.size < W20.heap.size := Nat.lt_of_lt_of_le bx2 k20.size
  replace bx3 : W7.heap.size < W20.heap.size := Nat.lt_of_lt_of_le bx3 k20.size
  replace rw := rw.keep k20 (.inr (.inr (Nat.le_refl 0)))
  replace rh := rh.keep k20 (.inr (.inr (Nat.le_refl 0)))
  replace ry := ry.keep k20 (.inr (.inr (Nat.le_refl 0)))
  replace rys0 := rys0.keep k20 (.inr (.inr (Nat.le_refl 0)))
  have K20 := K19.tr0 k20
  clear K19 k20
  obtain ⟨uA, un, uc, rfl⟩ := ru.a.slice
  obtain ⟨uB, um, ud, rfl⟩ := ru.b.slice
  replace ru := ru.cast HR.out
  clear ry
  clear rys0
  have ka4 := keep_1 W20 (.cells #[.slice uA un uc, .slice uB um ud] 31)
  replace c0_0 : (W20.alloc (.cells #[.slice uA un uc, .slice uB um ud] 31)).cell? ⟨w.heap.size, 0, none⟩ = some (.slice A n c) := ka4.cells bx0 c0_0
  replace c0_1 : (W20.alloc (.cells #[.slice uA un uc, .slice uB um ud] 31)).cell? ⟨w.heap.size, 1, none⟩ = some (.slice B m d) := ka4.cells bx0 c0_1
  replace c1_0 : (W20.alloc (.cells #[.slice uA un uc, .slice uB um ud] 31)).cell? ⟨W4.heap.size, 0, none⟩ = some (.slice wA wn wc) := ka4.cells bx1 c1_0
  replace c1_1 : (W20.alloc (.cells #[.slice uA un uc, .slice uB um ud] 31)).cell? ⟨W4.heap.size, 1, none⟩ = some (.slice wB wm wd) := ka4.cells bx1 c1_1
  replace c2_0 : (W20.alloc (.cells #[.slice uA un uc, .slice uB um ud] 31)).cell? ⟨W5.heap.size, 0, none⟩ = some (.slice xA xn xc) := ka4.cells bx2 c2_0
  replace c2_1 : (W20.alloc (.cells #[.slice uA un uc, .slice uB um ud] 31)).cell? ⟨W5.heap.size, 1, none⟩ = some (.slice xB xm xd) := ka4.cells bx2 c2_1
  replace c3_0 : (W20.alloc (.cells #[.slice uA un uc, .slice uB um ud] 31)).cell? ⟨W7.heap.size, 0, none⟩ = some (.slice gA gn gc) := ka4.cells bx3 c3_0
  replace c3_1 : (W20.alloc (.cells #[.slice uA un uc, .slice uB um ud] 31)).cell? ⟨W7.heap.size, 1, none⟩ = some (.slice gB gm gd) := ka4.cells bx3 c3_1
  replace bx0 : w.heap.size < (W20.alloc (.cells #[.slice uA un uc, .slice uB um ud] 31)).heap.size := Nat.lt_of_lt_of_le bx0 ka4.size
  replace bx1 : W4.heap.size < (W20.alloc (.cells #[.slice uA un uc, .slice uB um ud] 31)).heap.size := Nat.lt_of_lt_of_le bx1 ka4.size
  replace bx2 : W5.heap.size < (W20.alloc (.cells #[.slice uA un uc, .slice uB um ud] 31)).heap.size := Nat.lt_of_lt_of_le bx2 ka4.size
  replace bx3 : W7.heap.size < (W20.alloc (.cells #[.slice uA un uc, .slice uB um ud] 31)).heap.size := Nat.lt_of_lt_of_le bx3 ka4.size
  replace rw := rw.keep ka4 (.inr (.inr (Nat.le_refl 0)))
  replace rh := rh.keep ka4 (.inr (.inr (Nat.le_refl 0)))
  replace ru := ru.keep ka4 (.inr (.inr (Nat.le_refl 0)))
  have K20a := K20.tr0 ka4
  clear K20 ka4
  have sa4 : W20.heap.size + 1 = (W20.alloc (.cells #[.slice uA un uc, .slice uB um ud] 31)).heap.size := by simp
  have HA4 := Lib.hid sa4
  replace sa4 : W20.heap.size < (W20.alloc (.cells #[.slice uA un uc, .slice uB um ud] 31)).heap.size := by omega
  have bx4 : W20.heap.size < (W20.alloc (.cells #[.slice uA un uc, .slice uB um ud] 31)).heap.size := by simp
  have c4_0 : (W20.alloc (.cells #[.slice uA un uc, .slice uB um ud] 31)).cell? ⟨W20.heap.size, 0, none⟩ = some (.slice uA un uc) := by go_cell
  have c4_1 : (W20.alloc (.cells #[.slice uA un uc, .slice uB um ud] 31)).cell? ⟨W20.heap.size, 1, none⟩ = some (.slice uB um ud) := by go_cell
  go_wp2_with fail
  refine (eqKept_any _ _ _ _ _ _ _ _ _ _ _ _ _ ru.a.rd ru.b.rd rw.a.rd rw.b.rd (by omega) (by omega) (by omega) (by omega)).mono ?_
  rintro e W21 ⟨rfl, k21⟩
  have s21 := k21.size
  replace c0_0 : W21.cell? ⟨w.heap.size, 0, none⟩ = some (.slice A n c) := k21.cells bx0 c0_0
  replace c0_1 : W21.cell? ⟨w.heap.size, 1, none⟩ = some (.slice B m d) := k21.cells bx0 c0_1
  replace c1_0 : W21.cell? ⟨W4.heap.size, 0, none⟩ = some (.slice wA wn wc) := k21.cells bx1 c1_0
  replace c1_1 : W21.cell? ⟨W4.heap.size, 1, none⟩ = some (.slice wB wm wd) := k21.cells bx1 c1_1
  replace c2_0 : W21.cell? ⟨W5.heap.size, 0, none⟩ = some (.slice xA xn xc) := k21.cells bx2 c2_0
  replace c2_1 : W21.cell? ⟨W5.heap.size, 1, none⟩ = some (.slice xB xm xd) := k21.cells bx2 c2_1
  replace c3_0 : W21.cell? ⟨W7.heap.size, 0, none⟩ = some (.slice gA gn gc) := k21.cells bx3 c3_0
  replace c3_1 : W21.cell? ⟨W7.heap.size, 1, none⟩ = some (.slice gB gm gd) := k21.cells bx3 c3_1
  replace c4_0 : W21.cell? ⟨W20.heap.size, 0, none⟩ = some (.slice uA un uc) := k21.cells bx4 c4_0
  replace c4_1 : W21.cell? ⟨W20.heap.size, 1, none⟩ = some (.slice uB um ud) := k21.cells bx4 c4_1
  replace bx0 : w.heap.size < W21.heap.size := Nat.lt_of_lt_of_le bx0 k21.size
  replace bx1 : W4.heap.size < W21.heap.size := Nat.lt_of_lt_of_le bx1 k21.size
  replace bx2 : W5.heap.size < W21.heap.size := Nat.lt_of_lt_of_le bx2 k21.size
  replace bx3 : W7.heap.size < W21.heap.size := Nat.lt_of_lt_of_le bx3 k21.size
  replace bx4 : W20.heap.size < W21.heap.size := Nat.lt_of_lt_of_le bx4 k21.size
  replace rw := rw.keep k21 (.inr (.inr (Nat.le_refl 0)))
  replace rh := rh.keep k21 (.inr (.inr (Nat.le_refl 0)))
  replace ru := ru.keep k21 (.inr (.inr (Nat.le_refl 0)))
  have K21 := K20a.tr0 k21
  clear K20a k21
  simp only [decide_true, Bool.and_self]
  go_wp2_with fail
  refine (heldKept_any _ _ _ _ _ NG MG 1 rh.a.rd rh.b.rd (by omega) (by omega) (by omega) (by omega)).mono ?_
  rintro e W22 ⟨rfl, k22⟩
  have s22 := k22.size
  replace c0_0 : W22.cell? ⟨w.heap.size, 0, none⟩ = some (.slice A n c) := k22.cells bx0 c0_0
  replace c0_1 : W22.cell? ⟨w.heap.size, 1, none⟩ = some (.slice B m d) := k22.cells bx0 c0_1
  replace c1_0 : W22.cell? ⟨W4.heap.size, 0, none⟩ = some (.slice wA wn wc) := k22.cells bx1 c1_0
  replace c1_1 : W22.cell? ⟨W4.heap.size, 1, none⟩ = some (.slice wB wm wd) := k22.cells bx1 c1_1
  replace c2_0 : W22.cell? ⟨W5.heap.size, 0, none⟩ = some (.slice xA xn xc) := k22.cells bx2 c2_0
  replace c2_1 : W22.cell? ⟨W5.heap.size, 1, none⟩ = some (.slice xB xm xd) := k22.cells bx2 c2_1
  replace c3_0 : W22.cell? ⟨W7.heap.size, 0, none⟩ = some (.slice gA gn gc) := k22.cells bx3 c3_0
  replace c3_1 : W22.cell? ⟨W7.heap.size, 1, none⟩ = some (.slice gB gm gd) := k22.cells bx3 c3_1
  replace c4_0 : W22.cell? ⟨W20.heap.size, 0, none⟩ = some (.slice uA un uc) := k22.cells bx4 c4_0
  replace c4_1 : W22.cell? ⟨W20.heap.size, 1, none⟩ = some (.slice uB um ud) := k22.cells bx4 c4_1
  replace bx0 : w.heap.size < W22.heap.size := Nat.lt_of_lt_of_le bx0 k22.size
  replace bx1 : W4.heap.size < W22.heap.size := Nat.lt_of_lt_of_le bx1 k22.size
  replace bx2 : W5.heap.size < W22.heap.size := Nat.lt_of_lt_of_le bx2 k22.size
  replace bx3 : W7.heap.size < W22.heap.size := Nat.lt_of_lt_of_le bx3 k22.size
  replace bx4 : W20.heap.size < W22.heap.size := Nat.lt_of_lt_of_le bx4 k22.size
  replace rw := rw.keep k22 (.inr (.inr (Nat.le_refl 0)))
  replace rh := rh.keep k22 (.inr (.inr (Nat.le_refl 0)))
  replace ru := ru.keep k22 (.inr (.inr (Nat.le_refl 0)))
  have K22 := K21.tr0 k22
  clear K21 k22
  go_wp2
  go_ret
  exact ⟨rfl, (KK.tr0 K22).below⟩

set_option maxRecDepth 100000 in
theorem lifted (os : Os) (started : os.Started) (H : Type) (enc : TypeId × Value → H) :
    ReturnsInHanded {} Try.checked os 6 .any (Rows.fnExactForgetUsesSpec.pre6 enc Try.prog Try.f6 Rows.fnExactForgetUsesRow.domain false) (Rows.fnExactForgetUsesSpec.post enc Try.prog Try.f6 false true false false) := by
  refine returnsInHanded_of_change (C := Try.checked) own started (by kernel_rfl) Try.func6
    (ChangeSpec.witness6 (enc := enc) (C := Try.checked) false ⟨#[], #[.agg #[.slice none 0 0, .slice none 0 0], .slice none 0 0, .int .i64 0], []⟩ 8 (by kernel_rfl) (by kernel_rfl) (by kernel_rfl) (by kernel_rfl)) ?_
  intro W base args ds gs before hval0 hW hcnd _
  have hval : ∀ (j : Nat) t v, Try.f6.params[j]? = some t → args[j]? = some v → Value.okWide Try.prog W .any base t v := hval0
  have hW' := hW
  obtain ⟨p, q, hA0, hV, rfl, hfz, hnd⟩ := hW
  have hA : DataW.TrodAll enc Try.prog W 0 (fun _ => true) true Try.f6.params.toList args.toList ds p := hA0
  rw [Try.params6] at hA hval
  obtain ⟨v0, vs0, d0, ds0, p0, q0, hargs, rfl, rfl, h0, r0⟩ := trodAll_cons hA
  obtain ⟨v1, vs1, d1, ds1, p1, q1, rfl, rfl, rfl, h1, r1⟩ := trodAll_cons r0
  obtain ⟨v2, vs2, d2, ds2, p2, q2, rfl, rfl, rfl, h2, r2⟩ := trodAll_cons r1
  obtain ⟨rfl, rfl, rfl⟩ := trodAll_nil r2
  obtain rfl : args = #[v0, v1, v2] := by cases args; simp_all
  obtain ⟨rfl, rfl⟩ := trodVars_none hV
  have k0 := h0
  have lt0 : ∀ x ∈ p0, x.block < W.heap.size := by obtain ⟨m, hm⟩ := k0; exact DataW.trod_lt m _ _ _ hm
  obtain ⟨c00, c01, y00, y01, m0, rfl, _, _, g00, g01⟩ := Go.Joins.open_agg2 Try.underlying25 (by kernel_rfl) (show Try.prog.cellsOf 25 = 2 by kernel_rfl) (hval 0 25 v0 rfl rfl) h0
  obtain ⟨A00, n00, cap00, rfl⟩ := slice_field Try.underlying22 g00
  obtain ⟨xs00, rb00, hl00⟩ := open_bols Try.underlying22 Try.underlying4 (by kernel_rfl) g00
  obtain ⟨A01, n01, cap01, rfl⟩ := slice_field Try.underlying23 g01
  obtain ⟨xs01, rb01, hl01⟩ := open_flat_field Try.underlying23 Try.underlying54 (by kernel_rfl) (by kernel_rfl) (by intro j f hf; rcases j with _ | _ | j <;> simp at hf <;> subst hf <;> exact Try.underlying3) (by decide) g01
  have k1 := h1
  have lt1 : ∀ x ∈ p1, x.block < W.heap.size := by obtain ⟨m, hm⟩ := k1; exact DataW.trod_lt m _ _ _ hm
  obtain ⟨A1, n1, cap1, rfl⟩ := okWide_slice Try.underlying23 (hval 1 23 v1 rfl rfl)
  obtain ⟨xs1, rb1, hl1⟩ := open_flat Try.underlying23 Try.underlying54 (by kernel_rfl) (by kernel_rfl) (by intro j f hf; rcases j with _ | _ | j <;> simp at hf <;> subst hf <;> exact Try.underlying3) (by decide) h1
  have k2 := h2
  have lt2 : ∀ x ∈ p2, x.block < W.heap.size := by obtain ⟨m, hm⟩ := k2; exact DataW.trod_lt m _ _ _ hm
  obtain ⟨a2, rfl, _, _, w2⟩ := open_int Try.underlying3 (hval 2 3 v2 rfl rfl) h2
  clear hA0 hval0
  refine (walk W A00 n00 cap00 xs00 rb00 hl00 A01 n01 cap01 xs01 rb01 hl01 A1 n1 cap1 xs1 rb1 hl1 a2 w2).mono fun e W' ⟨he, bel⟩ => ?_
  subst he
  exact ⟨_, rfl, _, _, _, [], _, [], hW', trodAll_mk1 (shut_bool Try.underlying4 _), (trodAll_cons_mk (Below.trod laidOut (by kernel_rfl) (of_decide_eq_true (by kernel_rfl)) k0 bel lt0) (trodAll_cons_mk (Below.trod laidOut (by kernel_rfl) (of_decide_eq_true (by kernel_rfl)) k1 bel lt1) (trodAll_cons_mk (Below.trod laidOut (by kernel_rfl) (of_decide_eq_true (by kernel_rfl)) k2 bel lt2) trodAll_mk0))), rfl, bel.frame _, fun h => by cases h⟩

theorem over : Rows.fnExactForgetUsesRow.holds Try.pinned (OpenSpec.ofChange Rows.fnExactForgetUsesSpec) :=
  OpenClaim.holds_of_wide 6 Try.f6 rfl rfl rfl rfl rfl rfl rfl ⟨rfl, rfl, rfl, rfl, rfl⟩ rfl rfl rfl rfl rfl (by kernel_rfl) Try.func6 (by kernel_rfl)
    (of_decide_eq_true (by kernel_rfl)) (by unfold Func.isWrapper; first | (rw [if_pos (by decide +kernel)]; kernel_rfl) | (rw [if_neg (by decide +kernel)]; exact ⟨rfl, rfl⟩))
    (fun os started H enc _ => lifted os started H enc)

/-- The given statement. -/
theorem proved : Rows.FnExactForgetUsesSaid := over
end Go.Proofs.Ytignedkhklfonaa.fnExactForgetUses
