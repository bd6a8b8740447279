/-
  For every kept tables the program's ForgetAll returns what the reference's returns, leaves its argument alone, and hands back memory of its own. No condition.
-/
import Derived.Test.YtignedkhklfonaaRows
import Derived.WalkKit
import Derived.ProofKit
import Derived.OpenShut
import Derived.ShutString
import Derived.ChangeOld
import Derived.Below
import Derived.Lib.SmallJoins
import Derived.WalkSpells
import Derived.Test.YtignedkhklfonaaFold
import Derived.Test.YtignedkhklfonaaOpen
import Derived.Test.YtignedkhklfonaaOne
import Derived.Handy
import Derived.Deep.RegionHeld3
import Derived.Deep.QuietTactic
import Derived.BigQuiet
namespace Go.Proofs.Ytignedkhklfonaa.fnExactForgetAll
open Go.ChangeShapes Go.WideShapes Go.ChangeAt Go.RowKit
set_option linter.unusedVariables false

theorem own : ownKnob Try.prog.godebug = none := by kernel_rfl
theorem laidOut : laidOutB Try.prog = true := by kernel_rfl

theorem cap_le {w : World} {hi sz n c : Nat} {A : Option Addr} {xs : List Value} (h : Rd w hi sz (.slice A n c) xs) : n ≤ 9223372036854775807 := by
  obtain ⟨_, _, _, e, h1, h2, _⟩ := h
  injection e with _ e2 e3
  unfold maxLen at h2
  omega
set_option maxRecDepth 100000 in
set_option maxHeartbeats 8000000 in
theorem walk (w : World) (A : Option Addr) (n c : Nat) (ks : List Bool) (ra0 : Rd w w.heap.size 1 (.slice A n c) (bols ks)) (hl0 : ks.length = n) (B : Option Addr) (m d : Nat) (xs : List Int) (rb0 : Rd w w.heap.size 2 (.slice B m d) (ints xs)) (hl1 : xs.length = m * 2) :
    Calls Try.prog 5 #[.agg #[.slice A n c, .slice B m d]] w fun e w' => e = .returned (.bool true) ∧ Below w.heap.size w w' := by
  have KK := keep_1 w (.cells #[.slice A n c, .slice B m d] 25)
  obtain ⟨l, rfl, hm⟩ := twos_of hl1
  have ra := (ra0.keep KK (Nat.le_refl _) (.inr (Nat.le_refl 0))).mono KK.size
  have rb := (rb0.keep KK (Nat.le_refl _) (.inr (Nat.le_refl 0))).mono KK.size
  have hc0 := cap_le ra
  have hc1 := cap_le rb
  clear hl1 ra0 rb0 
  by_cases hb0 : ((n : Int) + (m : Int)) ≤ 1048576
  rotate_left
  · have hif0 := leftT_out (n := (n + m)) (L := 1048576) (by omega)
    go_enter Try.func5, Try.ntmps5
    go_wp2_with fail
    refine (szKept_gen A n c B m d _ hc0 hc1 (by omega) (by omega) _).mono ?_
    rintro e V1 ⟨rfl, j1⟩
    rw [hif0]
    clear hif0
    go_wp2
    go_ret
    exact ⟨rfl, (KK.tr0 j1).below⟩
  have hif0 : leftT (1048576) (n + m) = 1048576 - ((n : Int) + (m : Int)) := (leftT_in (by omega)).trans (by omega)
  obtain ⟨RK, RL, hR⟩ : ∃ RK RL, forgetL ks l (pagesUpto ks.length) = (RK, RL) := ⟨_, _, rfl⟩
  have hRl : RK.length ≤ 1048576 ∧ RL.length ≤ 1048576 := by have := forgetL_lengths ks l (pagesUpto ks.length); rw [hR] at this; simp only at this; omega
  have HR := Lib.hid hR
  clear hR
  obtain ⟨NX, hNX⟩ : ∃ N, (bols ks).length = N := ⟨_, rfl⟩
  have bNX : NX ≤ 2097152 := by rw [← hNX, bols_length]; omega
  have HNX := Lib.hid hNX
  obtain ⟨MX, hMX⟩ : ∃ N, (ints (twosI l)).length = N := ⟨_, rfl⟩
  have bMX : MX ≤ 2097152 := by rw [← hMX, ints_length, twosI_length]; omega
  have HMX := Lib.hid hMX
  obtain ⟨NG, hNG⟩ : ∃ N, (bols RK).length = N := ⟨_, rfl⟩
  have bNG : NG ≤ 2097152 := by rw [← hNG, bols_length]; omega
  have HNG := Lib.hid hNG
  obtain ⟨MG, hMG⟩ : ∃ N, (ints (twosI RL)).length = N := ⟨_, rfl⟩
  have bMG : MG ≤ 2097152 := by rw [← hMG, ints_length, twosI_length]; omega
  have HMG := Lib.hid hMG
  clear hNX hMX hNG hMG hRl
  have hx0 := Lib.hid (show ks.length ≤ 1048576 from by omega)
  have hx1 := Lib.hid (show (twosI l).length ≤ 2097152 from by rw [twosI_length]; omega)
  have HN := Lib.hid hl0
  have HM := Lib.hid hm
  clear hl0 hm
  have K0 := Keep.refl 0 0 (w.alloc (.cells #[.slice A n c, .slice B m d] 25))
  have bx0 : w.heap.size < (w.alloc (.cells #[.slice A n c, .slice B m d] 25)).heap.size := by simp
  have c0_0 : (w.alloc (.cells #[.slice A n c, .slice B m d] 25)).cell? ⟨w.heap.size, 0, none⟩ = some (.slice A n c) := by go_cell
  have c0_1 : (w.alloc (.cells #[.slice A n c, .slice B m d] 25)).cell? ⟨w.heap.size, 1, none⟩ = some (.slice B m d) := by go_cell
  have hbs := bx0
  go_enter Try.func5, Try.ntmps5
  go_wp2_with fail
  refine (szKept_gen A n c B m d _ hc0 hc1 (by omega) (by omega) _).mono ?_
  rintro e W1 ⟨rfl, k1⟩
  have s1 := k1.size
  replace c0_0 : W1.cell? ⟨w.heap.size, 0, none⟩ = some (.slice A n c) := k1.cells bx0 c0_0
  replace c0_1 : W1.cell? ⟨w.heap.size, 1, none⟩ = some (.slice B m d) := k1.cells bx0 c0_1
  replace bx0 : w.heap.size < W1.heap.size := Nat.lt_of_lt_of_le bx0 k1.size
  have K1 := K0.tr0 k1
  clear K0 k1
  rw [hif0]
  clear hif0
  go_wp2_with fail
  refine (toKept_any _ _ _ _ _ ks _ (ra.keep K1 (Nat.le_refl _) (.inr (Nat.le_refl 0))) (rb.keep K1 (Nat.le_refl _) (.inr (Nat.le_refl 0))) K1.size K1.size hx0.out hx1.out).mono ?_
  rintro e W2 ⟨pa, pb, rfl, rp, k2⟩
  have s2 := k2.size
  replace c0_0 : W2.cell? ⟨w.heap.size, 0, none⟩ = some (.slice A n c) := k2.cells bx0 c0_0
  replace c0_1 : W2.cell? ⟨w.heap.size, 1, none⟩ = some (.slice B m d) := k2.cells bx0 c0_1
  replace bx0 : w.heap.size < W2.heap.size := Nat.lt_of_lt_of_le bx0 k2.size
  have K2 := K1.tr0 k2
  clear K1 k2
  obtain ⟨pA, pn, pc, rfl⟩ := rp.a.slice
  obtain ⟨pB, pm, pd, rfl⟩ := rp.b.slice
  go_wp2_with fail
  refine (specForgetAll_any _ _ _ _ _ ks l rp.a.rd rp.b.rd (by omega) (by omega) hx0.out hx1.out).mono ?_
  rintro e W3 ⟨w0, w1, rfl, rw, k3⟩
  have s3 := k3.size
  replace c0_0 : W3.cell? ⟨w.heap.size, 0, none⟩ = some (.slice A n c) := k3.cells bx0 c0_0
  replace c0_1 : W3.cell? ⟨w.heap.size, 1, none⟩ = some (.slice B m d) := k3.cells bx0 c0_1
  replace bx0 : w.heap.size < W3.heap.size := Nat.lt_of_lt_of_le bx0 k3.size
  replace rp := rp.keep k3 (.inr (.inr (Nat.le_refl 0)))
  have K3 := K2.tr0 k3
  clear K2 k3
  obtain ⟨wA, wn, wc, rfl⟩ := rw.a.slice
  obtain ⟨wB, wm, wd, rfl⟩ := rw.b.slice
  replace rw := rw.cast HR.out
  clear rp
  have ka1 := keep_1 W3 (.cells #[.slice wA wn wc, .slice wB wm wd] 31)
  replace c0_0 : (W3.alloc (.cells #[.slice wA wn wc, .slice wB wm wd] 31)).cell? ⟨w.heap.size, 0, none⟩ = some (.slice A n c) := ka1.cells bx0 c0_0
  replace c0_1 : (W3.alloc (.cells #[.slice wA wn wc, .slice wB wm wd] 31)).cell? ⟨w.heap.size, 1, none⟩ = some (.slice B m d) := ka1.cells bx0 c0_1
  replace bx0 : w.heap.size < (W3.alloc (.cells #[.slice wA wn wc, .slice wB wm wd] 31)).heap.size := Nat.lt_of_lt_of_le bx0 ka1.size
  replace rw := rw.keep ka1 (.inr (.inr (Nat.le_refl 0)))
  have K3a := K3.tr0 ka1
  clear K3 ka1
  have sa1 : W3.heap.size + 1 = (W3.alloc (.cells #[.slice wA wn wc, .slice wB wm wd] 31)).heap.size := by simp
  have HA1 := Lib.hid sa1
  replace sa1 : W3.heap.size < (W3.alloc (.cells #[.slice wA wn wc, .slice wB wm wd] 31)).heap.size := by omega
  have bx1 : W3.heap.size < (W3.alloc (.cells #[.slice wA wn wc, .slice wB wm wd] 31)).heap.size := by simp
  have c1_0 : (W3.alloc (.cells #[.slice wA wn wc, .slice wB wm wd] 31)).cell? ⟨W3.heap.size, 0, none⟩ = some (.slice wA wn wc) := by go_cell
  have c1_1 : (W3.alloc (.cells #[.slice wA wn wc, .slice wB wm wd] 31)).cell? ⟨W3.heap.size, 1, none⟩ = some (.slice wB wm wd) := by go_cell
  go_wp2_with fail
  refine (toKept_any _ _ _ _ _ ks _ (ra.keep K3a (Nat.le_refl _) (.inr (Nat.le_refl 0))) (rb.keep K3a (Nat.le_refl _) (.inr (Nat.le_refl 0))) K3a.size K3a.size hx0.out hx1.out).mono ?_
  rintro e W4 ⟨xa, xb, rfl, rx, k4⟩
  have s4 := k4.size
  replace c0_0 : W4.cell? ⟨w.heap.size, 0, none⟩ = some (.slice A n c) := k4.cells bx0 c0_0
  replace c0_1 : W4.cell? ⟨w.heap.size, 1, none⟩ = some (.slice B m d) := k4.cells bx0 c0_1
  replace c1_0 : W4.cell? ⟨W3.heap.size, 0, none⟩ = some (.slice wA wn wc) := k4.cells bx1 c1_0
  replace c1_1 : W4.cell? ⟨W3.heap.size, 1, none⟩ = some (.slice wB wm wd) := k4.cells bx1 c1_1
  replace bx0 : w.heap.size < W4.heap.size := Nat.lt_of_lt_of_le bx0 k4.size
  replace bx1 : W3.heap.size < W4.heap.size := Nat.lt_of_lt_of_le bx1 k4.size
  replace rw := rw.keep k4 (.inr (.inr (Nat.le_refl 0)))
  have K4 := K3a.tr0 k4
  clear K3a k4
  obtain ⟨xA, xn, xc, rfl⟩ := rx.a.slice
  obtain ⟨xB, xm, xd, rfl⟩ := rx.b.slice
  have ka2 := keep_1 W4 (.cells #[.slice xA xn xc, .slice xB xm xd] 31)
  replace c0_0 : (W4.alloc (.cells #[.slice xA xn xc, .slice xB xm xd] 31)).cell? ⟨w.heap.size, 0, none⟩ = some (.slice A n c) := ka2.cells bx0 c0_0
  replace c0_1 : (W4.alloc (.cells #[.slice xA xn xc, .slice xB xm xd] 31)).cell? ⟨w.heap.size, 1, none⟩ = some (.slice B m d) := ka2.cells bx0 c0_1
  replace c1_0 : (W4.alloc (.cells #[.slice xA xn xc, .slice xB xm xd] 31)).cell? ⟨W3.heap.size, 0, none⟩ = some (.slice wA wn wc) := ka2.cells bx1 c1_0
  replace c1_1 : (W4.alloc (.cells #[.slice xA xn xc, .slice xB xm xd] 31)).cell? ⟨W3.heap.size, 1, none⟩ = some (.slice wB wm wd) := ka2.cells bx1 c1_1
  replace bx0 : w.heap.size < (W4.alloc (.cells #[.slice xA xn xc, .slice xB xm xd] 31)).heap.size := Nat.lt_of_lt_of_le bx0 ka2.size
  replace bx1 : W3.heap.size < (W4.alloc (.cells #[.slice xA xn xc, .slice xB xm xd] 31)).heap.size := Nat.lt_of_lt_of_le bx1 ka2.size
  replace rw := rw.keep ka2 (.inr (.inr (Nat.le_refl 0)))
  replace rx := rx.keep ka2 (.inr (.inr (Nat.le_refl 0)))
  have K4a := K4.tr0 ka2
  clear K4 ka2
  have sa2 : W4.heap.size + 1 = (W4.alloc (.cells #[.slice xA xn xc, .slice xB xm xd] 31)).heap.size := by simp
  have HA2 := Lib.hid sa2
  replace sa2 : W4.heap.size < (W4.alloc (.cells #[.slice xA xn xc, .slice xB xm xd] 31)).heap.size := by omega
  have bx2 : W4.heap.size < (W4.alloc (.cells #[.slice xA xn xc, .slice xB xm xd] 31)).heap.size := by simp
  have c2_0 : (W4.alloc (.cells #[.slice xA xn xc, .slice xB xm xd] 31)).cell? ⟨W4.heap.size, 0, none⟩ = some (.slice xA xn xc) := by go_cell
  have c2_1 : (W4.alloc (.cells #[.slice xA xn xc, .slice xB xm xd] 31)).cell? ⟨W4.heap.size, 1, none⟩ = some (.slice xB xm xd) := by go_cell
  go_wp2_with fail
  refine (implForgetAll_any _ _ _ _ _ ks l rx.a.rd rx.b.rd (by omega) (by omega) hx0.out hx1.out).mono ?_
  rintro e W5 ⟨g0, g1, rfl, rg, k5⟩
  have s5 := k5.size
  replace c0_0 : W5.cell? ⟨w.heap.size, 0, none⟩ = some (.slice A n c) := k5.cells bx0 c0_0
  replace c0_1 : W5.cell? ⟨w.heap.size, 1, none⟩ = some (.slice B m d) := k5.cells bx0 c0_1
  replace c1_0 : W5.cell? ⟨W3.heap.size, 0, none⟩ = some (.slice wA wn wc) := k5.cells bx1 c1_0
  replace c1_1 : W5.cell? ⟨W3.heap.size, 1, none⟩ = some (.slice wB wm wd) := k5.cells bx1 c1_1
  replace c2_0 : W5.cell? ⟨W4.heap.size, 0, none⟩ = some (.slice xA xn xc) := k5.cells bx2 c2_0
  replace c2_1 : W5.cell? ⟨W4.heap.size, 1, none⟩ = some (.slice xB xm xd) := k5.cells bx2 c2_1
  replace bx0 : w.heap.size < W5.heap.size := Nat.lt_of_lt_of_le bx0 k5.size
  replace bx1 : W3.heap.size < W5.heap.size := Nat.lt_of_lt_of_le bx1 k5.size
  replace bx2 : W4.heap.size < W5.heap.size := Nat.lt_of_lt_of_le bx2 k5.size
  replace rw := rw.keep k5 (.inr (.inr (Nat.le_refl 0)))
  replace rx := rx.keep k5 (.inr (.inr (Nat.le_refl 0)))
  have K5 := K4a.tr0 k5
  clear K4a k5
  obtain ⟨gA, gn, gc, rfl⟩ := rg.a.slice
  obtain ⟨gB, gm, gd, rfl⟩ := rg.b.slice
  replace rg := rg.cast HR.out
  have ka3 := keep_1 W5 (.cells #[.slice gA gn gc, .slice gB gm gd] 31)
  replace c0_0 : (W5.alloc (.cells #[.slice gA gn gc, .slice gB gm gd] 31)).cell? ⟨w.heap.size, 0, none⟩ = some (.slice A n c) := ka3.cells bx0 c0_0
  replace c0_1 : (W5.alloc (.cells #[.slice gA gn gc, .slice gB gm gd] 31)).cell? ⟨w.heap.size, 1, none⟩ = some (.slice B m d) := ka3.cells bx0 c0_1
  replace c1_0 : (W5.alloc (.cells #[.slice gA gn gc, .slice gB gm gd] 31)).cell? ⟨W3.heap.size, 0, none⟩ = some (.slice wA wn wc) := ka3.cells bx1 c1_0
  replace c1_1 : (W5.alloc (.cells #[.slice gA gn gc, .slice gB gm gd] 31)).cell? ⟨W3.heap.size, 1, none⟩ = some (.slice wB wm wd) := ka3.cells bx1 c1_1
  replace c2_0 : (W5.alloc (.cells #[.slice gA gn gc, .slice gB gm gd] 31)).cell? ⟨W4.heap.size, 0, none⟩ = some (.slice xA xn xc) := ka3.cells bx2 c2_0
  replace c2_1 : (W5.alloc (.cells #[.slice gA gn gc, .slice gB gm gd] 31)).cell? ⟨W4.heap.size, 1, none⟩ = some (.slice xB xm xd) := ka3.cells bx2 c2_1
  replace bx0 : w.heap.size < (W5.alloc (.cells #[.slice gA gn gc, .slice gB gm gd] 31)).heap.size := Nat.lt_of_lt_of_le bx0 ka3.size
  replace bx1 : W3.heap.size < (W5.alloc (.cells #[.slice gA gn gc, .slice gB gm gd] 31)).heap.size := Nat.lt_of_lt_of_le bx1 ka3.size
  replace bx2 : W4.heap.size < (W5.alloc (.cells #[.slice gA gn gc, .slice gB gm gd] 31)).heap.size := Nat.lt_of_lt_of_le bx2 ka3.size
  replace rw := rw.keep ka3 (.inr (.inr (Nat.le_refl 0)))
  replace rx := rx.keep ka3 (.inr (.inr (Nat.le_refl 0)))
  replace rg := rg.keep ka3 (.inr (.inr (Nat.le_refl 0)))
  have K5a := K5.tr0 ka3
  clear K5 ka3
  have sa3 : W5.heap.size + 1 = (W5.alloc (.cells #[.slice gA gn gc, .slice gB gm gd] 31)).heap.size := by simp
  have HA3 := Lib.hid sa3
  replace sa3 : W5.heap.size < (W5.alloc (.cells #[.slice gA gn gc, .slice gB gm gd] 31)).heap.size := by omega
  have bx3 : W5.heap.size < (W5.alloc (.cells #[.slice gA gn gc, .slice gB gm gd] 31)).heap.size := by simp
  have c3_0 : (W5.alloc (.cells #[.slice gA gn gc, .slice gB gm gd] 31)).cell? ⟨W5.heap.size, 0, none⟩ = some (.slice gA gn gc) := by go_cell
  have c3_1 : (W5.alloc (.cells #[.slice gA gn gc, .slice gB gm gd] 31)).cell? ⟨W5.heap.size, 1, none⟩ = some (.slice gB gm gd) := by go_cell
  go_wp2_with fail
  refine (eqKept_any _ _ _ _ _ _ _ _ _ _ _ _ _ rg.a.rd rg.b.rd rw.a.rd rw.b.rd (by omega) (by omega) (by omega) (by omega)).mono ?_
  rintro e W6 ⟨rfl, k6⟩
  have s6 := k6.size
  replace c0_0 : W6.cell? ⟨w.heap.size, 0, none⟩ = some (.slice A n c) := k6.cells bx0 c0_0
  replace c0_1 : W6.cell? ⟨w.heap.size, 1, none⟩ = some (.slice B m d) := k6.cells bx0 c0_1
  replace c1_0 : W6.cell? ⟨W3.heap.size, 0, none⟩ = some (.slice wA wn wc) := k6.cells bx1 c1_0
  replace c1_1 : W6.cell? ⟨W3.heap.size, 1, none⟩ = some (.slice wB wm wd) := k6.cells bx1 c1_1
  replace c2_0 : W6.cell? ⟨W4.heap.size, 0, none⟩ = some (.slice xA xn xc) := k6.cells bx2 c2_0
  replace c2_1 : W6.cell? ⟨W4.heap.size, 1, none⟩ = some (.slice xB xm xd) := k6.cells bx2 c2_1
  replace c3_0 : W6.cell? ⟨W5.heap.size, 0, none⟩ = some (.slice gA gn gc) := k6.cells bx3 c3_0
  replace c3_1 : W6.cell? ⟨W5.heap.size, 1, none⟩ = some (.slice gB gm gd) := k6.cells bx3 c3_1
  replace bx0 : w.heap.size < W6.heap.size := Nat.lt_of_lt_of_le bx0 k6.size
  replace bx1 : W3.heap.size < W6.heap.size := Nat.lt_of_lt_of_le bx1 k6.size
  replace bx2 : W4.heap.size < W6.heap.size := Nat.lt_of_lt_of_le bx2 k6.size
  replace bx3 : W5.heap.size < W6.heap.size := Nat.lt_of_lt_of_le bx3 k6.size
  replace rw := rw.keep k6 (.inr (.inr (Nat.le_refl 0)))
  replace rx := rx.keep k6 (.inr (.inr (Nat.le_refl 0)))
  replace rg := rg.keep k6 (.inr (.inr (Nat.le_refl 0)))
  have K6 := K5a.tr0 k6
  clear K5a k6
  simp only [decide_true, Bool.and_self]
  have HS6 := Lib.hid (show ∀ w' : World, Keep 0 0 W6 w' → w'.cell? ⟨w.heap.size, 0, none⟩ = some (.slice A n c) ∧ w'.cell? ⟨w.heap.size, 1, none⟩ = some (.slice B m d) ∧ w'.cell? ⟨W4.heap.size, 0, none⟩ = some (.slice xA xn xc) ∧ w'.cell? ⟨W4.heap.size, 1, none⟩ = some (.slice xB xm xd) ∧ Keep 0 0 W6 w' from fun w' h => ⟨h.cells bx0 c0_0, h.cells bx0 c0_1, h.cells bx2 c2_0, h.cells bx2 c2_1, h⟩)
  have HT6 := Lib.hid (show ∀ w1 w2 : World, (w1.cell? ⟨w.heap.size, 0, none⟩ = some (.slice A n c) ∧ w1.cell? ⟨w.heap.size, 1, none⟩ = some (.slice B m d) ∧ w1.cell? ⟨W4.heap.size, 0, none⟩ = some (.slice xA xn xc) ∧ w1.cell? ⟨W4.heap.size, 1, none⟩ = some (.slice xB xm xd) ∧ Keep 0 0 W6 w1) → Keep 0 0 w1 w2 → w2.cell? ⟨w.heap.size, 0, none⟩ = some (.slice A n c) ∧ w2.cell? ⟨w.heap.size, 1, none⟩ = some (.slice B m d) ∧ w2.cell? ⟨W4.heap.size, 0, none⟩ = some (.slice xA xn xc) ∧ w2.cell? ⟨W4.heap.size, 1, none⟩ = some (.slice xB xm xd) ∧ Keep 0 0 W6 w2 from fun w1 w2 h k => HS6.out _ (h.2.2.2.2.tr0 k))
  have KD := (Keep.refl 0 0 W6).drew
  have raD := (ra.keep K6 (Nat.le_refl _) (.inr (Nat.le_refl 0))).keep KD K6.size (.inr (Nat.le_refl 0))
  have rbD := (rb.keep K6 (Nat.le_refl _) (.inr (Nat.le_refl 0))).keep KD K6.size (.inr (Nat.le_refl 0))
  have zD : (w.alloc (.cells #[.slice A n c, .slice B m d] 25)).heap.size ≤ W6.drew.heap.size := K6.size
  go_wp2_with fail
  go_region_held3 (fun w' => w'.cell? ⟨w.heap.size, 0, none⟩ = some (.slice A n c) ∧ w'.cell? ⟨w.heap.size, 1, none⟩ = some (.slice B m d) ∧ w'.cell? ⟨W4.heap.size, 0, none⟩ = some (.slice xA xn xc) ∧ w'.cell? ⟨W4.heap.size, 1, none⟩ = some (.slice xB xm xd) ∧ Keep 0 0 W6 w')
    (first | (with_reducible exact HS6.out _ KD) | (refine HT6.out ?_ _ ?_ ?_; rotate_right; (with_reducible assumption); (with_reducible assumption)) | fail)
    (first
      | (go_at_call 11; refine (toKept_any _ _ _ _ _ ks _ raD rbD zD zD hx0.out hx1.out).mono ?_; rintro e W7 ⟨va7, vb7, rfl, rt7, k7⟩)
      | (go_at_call 14; refine (eqKept_any _ _ _ _ _ _ _ _ _ _ _ _ _ ((rx.keep (KD.tr0 k7) (.inr (.inr (Nat.le_refl 0)))).a.rd) ((rx.keep (KD.tr0 k7) (.inr (.inr (Nat.le_refl 0)))).b.rd) rt7.a.rd rt7.b.rd (by have := (KD.tr0 k7).size; omega) (by have := (KD.tr0 k7).size; omega) (Nat.le_refl _) (Nat.le_refl _)).mono ?_; rintro e W8 ⟨rfl, k8⟩)
      | fail)
  have kk8 := (KD.tr0 k7).tr0 k8
  have s8 := kk8.size
  replace c0_0 : W8.cell? ⟨w.heap.size, 0, none⟩ = some (.slice A n c) := kk8.cells bx0 c0_0
  replace c0_1 : W8.cell? ⟨w.heap.size, 1, none⟩ = some (.slice B m d) := kk8.cells bx0 c0_1
  replace c1_0 : W8.cell? ⟨W3.heap.size, 0, none⟩ = some (.slice wA wn wc) := kk8.cells bx1 c1_0
  replace c1_1 : W8.cell? ⟨W3.heap.size, 1, none⟩ = some (.slice wB wm wd) := kk8.cells bx1 c1_1
  replace c2_0 : W8.cell? ⟨W4.heap.size, 0, none⟩ = some (.slice xA xn xc) := kk8.cells bx2 c2_0
  replace c2_1 : W8.cell? ⟨W4.heap.size, 1, none⟩ = some (.slice xB xm xd) := kk8.cells bx2 c2_1
  replace c3_0 : W8.cell? ⟨W5.heap.size, 0, none⟩ = some (.slice gA gn gc) := kk8.cells bx3 c3_0
  replace c3_1 : W8.cell? ⟨W5.heap.size, 1, none⟩ = some (.slice gB gm gd) := kk8.cells bx3 c3_1
  replace bx0 : w.heap.size < W8.heap.size := Nat.lt_of_lt_of_le bx0 kk8.size
  replace bx1 : W3.heap.size < W8.heap.size := Nat.lt_of_lt_of_le bx1 kk8.size
  replace bx2 : W4.heap.size < W8.heap.size := Nat.lt_of_lt_of_le bx2 kk8.size
  replace bx3 : W5.heap.size < W8.heap.size := Nat.lt_of_lt_of_le bx3 kk8.size
  replace rw := rw.keep kk8 (.inr (.inr (Nat.le_refl 0)))
  replace rx := rx.keep kk8 (.inr (.inr (Nat.le_refl 0)))
  replace rg := rg.keep kk8 (.inr (.inr (Nat.le_refl 0)))
  have K8 := K6.tr0 kk8
  clear raD rbD zD KD rt7 k7 k8 kk8 K6 HS6 HT6
  go_wp2_with fail
  refine (markKept_any _ _ _ _ _ _ _ NX MX HNX.out HMX.out 1 rx (by omega) (by omega) (by omega)).mono ?_
  rintro e W9 ⟨rfl, rm, k9⟩
  have s9 := k9.size
  replace c0_0 : W9.cell? ⟨w.heap.size, 0, none⟩ = some (.slice A n c) := (k9.cell (p := ⟨w.heap.size, 0, none⟩) (by exact bx0) (by show w.heap.size < _ ∨ _ ≤ w.heap.size; omega)).trans c0_0
  replace c0_1 : W9.cell? ⟨w.heap.size, 1, none⟩ = some (.slice B m d) := (k9.cell (p := ⟨w.heap.size, 1, none⟩) (by exact bx0) (by show w.heap.size < _ ∨ _ ≤ w.heap.size; omega)).trans c0_1
  replace c1_0 : W9.cell? ⟨W3.heap.size, 0, none⟩ = some (.slice wA wn wc) := (k9.cell (p := ⟨W3.heap.size, 0, none⟩) (by exact bx1) (by show W3.heap.size < _ ∨ _ ≤ W3.heap.size; omega)).trans c1_0
  replace c1_1 : W9.cell? ⟨W3.heap.size, 1, none⟩ = some (.slice wB wm wd) := (k9.cell (p := ⟨W3.heap.size, 1, none⟩) (by exact bx1) (by show W3.heap.size < _ ∨ _ ≤ W3.heap.size; omega)).trans c1_1
  replace c2_0 : W9.cell? ⟨W4.heap.size, 0, none⟩ = some (.slice xA xn xc) := (k9.cell (p := ⟨W4.heap.size, 0, none⟩) (by exact bx2) (by show W4.heap.size < _ ∨ _ ≤ W4.heap.size; omega)).trans c2_0
  replace c2_1 : W9.cell? ⟨W4.heap.size, 1, none⟩ = some (.slice xB xm xd) := (k9.cell (p := ⟨W4.heap.size, 1, none⟩) (by exact bx2) (by show W4.heap.size < _ ∨ _ ≤ W4.heap.size; omega)).trans c2_1
  replace c3_0 : W9.cell? ⟨W5.heap.size, 0, none⟩ = some (.slice gA gn gc) := (k9.cell (p := ⟨W5.heap.size, 0, none⟩) (by exact bx3) (by show W5.heap.size < _ ∨ _ ≤ W5.heap.size; omega)).trans c3_0
  replace c3_1 : W9.cell? ⟨W5.heap.size, 1, none⟩ = some (.slice gB gm gd) := (k9.cell (p := ⟨W5.heap.size, 1, none⟩) (by exact bx3) (by show W5.heap.size < _ ∨ _ ≤ W5.heap.size; omega)).trans c3_1
  replace bx0 : w.heap.size < W9.heap.size := Nat.lt_of_lt_of_le bx0 k9.size
  replace bx1 : W3.heap.size < W9.heap.size := Nat.lt_of_lt_of_le bx1 k9.size
  replace bx2 : W4.heap.size < W9.heap.size := Nat.lt_of_lt_of_le bx2 k9.size
  replace bx3 : W5.heap.size < W9.heap.size := Nat.lt_of_lt_of_le bx3 k9.size
  replace rw := rw.keep k9 (by omega)
  replace rg := rg.keep k9 (by omega)
  have K9 := K8.trm k9 (by omega)
  clear K8 k9
  clear rx rm
  go_wp2_with fail
  refine (eqKept_any _ _ _ _ _ _ _ _ _ _ _ _ _ rg.a.rd rg.b.rd rw.a.rd rw.b.rd (by omega) (by omega) (by omega) (by omega)).mono ?_
  rintro e W10 ⟨rfl, k10⟩
  have s10 := k10.size
  replace c0_0 : W10.cell? ⟨w.heap.size, 0, none⟩ = some (.slice A n c) := k10.cells bx0 c0_0
  replace c0_1 : W10.cell? ⟨w.heap.size, 1, none⟩ = some (.slice B m d) := k10.cells bx0 c0_1
  replace c1_0 : W10.cell? ⟨W3.heap.size, 0, none⟩ = some (.slice wA wn wc) := k10.cells bx1 c1_0
  replace c1_1 : W10.cell? ⟨W3.heap.size, 1, none⟩ = some (.slice wB wm wd) := k10.cells bx1 c1_1
  replace c2_0 : W10.cell? ⟨W4.heap.size, 0, none⟩ = some (.slice xA xn xc) := k10.cells bx2 c2_0
  replace c2_1 : W10.cell? ⟨W4.heap.size, 1, none⟩ = some (.slice xB xm xd) := k10.cells bx2 c2_1
  replace c3_0 : W10.cell? ⟨W5.heap.size, 0, none⟩ = some (.slice gA gn gc) := k10.cells bx3 c3_0
  replace c3_1 : W10.cell? ⟨W5.heap.size, 1, none⟩ = some (.slice gB gm gd) := k10.cells bx3 c3_1
  replace bx0 : w.heap.size < W10.heap.size := Nat.lt_of_lt_of_le bx0 k10.size
  replace bx1 : W3.heap.size < W10.heap.size := Nat.lt_of_lt_of_le bx1 k10.size
  replace bx2 : W4.heap.size < W10.heap.size := Nat.lt_of_lt_of_le bx2 k10.size
  replace bx3 : W5.heap.size < W10.heap.size := Nat.lt_of_lt_of_le bx3 k10.size
  replace rw := rw.keep k10 (.inr (.inr (Nat.le_refl 0)))
  replace rg := rg.keep k10 (.inr (.inr (Nat.le_refl 0)))
  have K10 := K9.tr0 k10
  clear K9 k10
  simp only [decide_true, Bool.and_self]
  go_wp2_with fail
  refine (markKept_any _ _ _ _ _ _ _ NG MG HNG.out HMG.out 1 rg (by omega) (by omega) (by omega)).mono ?_
  rintro e W11 ⟨rfl, rh, k11⟩
  have s11 := k11.size
  replace c0_0 : W11.cell? ⟨w.heap.size, 0, none⟩ = some (.slice A n c) := (k11.cell (p := ⟨w.heap.size, 0, none⟩) (by exact bx0) (by show w.heap.size < _ ∨ _ ≤ w.heap.size; omega)).trans c0_0
  replace c0_1 : W11.cell? ⟨w.heap.size, 1, none⟩ = some (.slice B m d) := (k11.cell (p := ⟨w.heap.size, 1, none⟩) (by exact bx0) (by show w.heap.size < _ ∨ _ ≤ w.heap.size; omega)).trans c0_1
  replace c1_0 : W11.cell? ⟨W3.heap.size, 0, none⟩ = some (.slice wA wn wc) := (k11.cell (p := ⟨W3.heap.size, 0, none⟩) (by exact bx1) (by show W3.heap.size < _ ∨ _ ≤ W3.heap.size; omega)).trans c1_0
  replace c1_1 : W11.cell? ⟨W3.heap.size, 1, none⟩ = some (.slice wB wm wd) := (k11.cell (p := ⟨W3.heap.size, 1, none⟩) (by exact bx1) (by show W3.heap.size < _ ∨ _ ≤ W3.heap.size; omega)).trans c1_1
  replace c2_0 : W11.cell? ⟨W4.heap.size, 0, none⟩ = some (.slice xA xn xc) := (k11.cell (p := ⟨W4.heap.size, 0, none⟩) (by exact bx2) (by show W4.heap.size < _ ∨ _ ≤ W4.heap.size; omega)).trans c2_0
  replace c2_1 : W11.cell? ⟨W4.heap.size, 1, none⟩ = some (.slice xB xm xd) := (k11.cell (p := ⟨W4.heap.size, 1, none⟩) (by exact bx2) (by show W4.heap.size < _ ∨ _ ≤ W4.heap.size; omega)).trans c2_1
  replace c3_0 : W11.cell? ⟨W5.heap.size, 0, none⟩ = some (.slice gA gn gc) := (k11.cell (p := ⟨W5.heap.size, 0, none⟩) (by exact bx3) (by show W5.heap.size < _ ∨ _ ≤ W5.heap.size; omega)).trans c3_0
  replace c3_1 : W11.cell? ⟨W5.heap.size, 1, none⟩ = some (.slice gB gm gd) := (k11.cell (p := ⟨W5.heap.size, 1, none⟩) (by exact bx3) (by show W5.heap.size < _ ∨ _ ≤ W5.heap.size; omega)).trans c3_1
  replace bx0 : w.heap.size < W11.heap.size := Nat.lt_of_lt_of_le bx0 k11.size
  replace bx1 : W3.heap.size < W11.heap.size := Nat.lt_of_lt_of_le bx1 k11.size
  replace bx2 : W4.heap.size < W11.heap.size := Nat.lt_of_lt_of_le bx2 k11.size
  replace bx3 : W5.heap.size < W11.heap.size := Nat.lt_of_lt_of_le bx3 k11.size
  replace rw := rw.keep k11 (by omega)
  have K11 := K10.trm k11 (by omega)
  clear K10 k11
  clear rg
  go_wp2_with fail
  refine (heldKept_any _ _ _ _ _ NG MG 1 rh.a.rd rh.b.rd (by omega) (by omega) (by omega) (by omega)).mono ?_
  rintro e W12 ⟨rfl, k12⟩
  have s12 := k12.size
  replace c0_0 : W12.cell? ⟨w.heap.size, 0, none⟩ = some (.slice A n c) := k12.cells bx0 c0_0
  replace c0_1 : W12.cell? ⟨w.heap.size, 1, none⟩ = some (.slice B m d) := k12.cells bx0 c0_1
  replace c1_0 : W12.cell? ⟨W3.heap.size, 0, none⟩ = some (.slice wA wn wc) := k12.cells bx1 c1_0
  replace c1_1 : W12.cell? ⟨W3.heap.size, 1, none⟩ = some (.slice wB wm wd) := k12.cells bx1 c1_1
  replace c2_0 : W12.cell? ⟨W4.heap.size, 0, none⟩ = some (.slice xA xn xc) := k12.cells bx2 c2_0
  replace c2_1 : W12.cell? ⟨W4.heap.size, 1, none⟩ = some (.slice xB xm xd) := k12.cells bx2 c2_1
  replace c3_0 : W12.cell? ⟨W5.heap.size, 0, none⟩ = some (.slice gA gn gc) := k12.cells bx3 c3_0
  replace c3_1 : W12.cell? ⟨W5.heap.size, 1, none⟩ = some (.slice gB gm gd) := k12.cells bx3 c3_1
  replace bx0 : w.heap.size < W12.heap.size := Nat.lt_of_lt_of_le bx0 k12.size
  replace bx1 : W3.heap.size < W12.heap.size := Nat.lt_of_lt_of_le bx1 k12.size
  replace bx2 : W4.heap.size < W12.heap.size := Nat.lt_of_lt_of_le bx2 k12.size
  replace bx3 : W5.heap.size < W12.heap.size := Nat.lt_of_lt_of_le bx3 k12.size
  replace rw := rw.keep k12 (.inr (.inr (Nat.le_refl 0)))
  replace rh := rh.keep k12 (.inr (.inr (Nat.le_refl 0)))
  have K12 := K11.tr0 k12
  clear K11 k12
  go_wp2_with fail
  refine (toKept_any _ _ _ _ _ ks _ (ra.keep K12 (Nat.le_refl _) (.inr (Nat.le_refl 0))) (rb.keep K12 (Nat.le_refl _) (.inr (Nat.le_refl 0))) K12.size K12.size hx0.out hx1.out).mono ?_
  rintro e W13 ⟨ya, yb, rfl, ry, k13⟩
  have s13 := k13.size
  replace c0_0 : W13.cell? ⟨w.heap.size, 0, none⟩ = some (.slice A n c) := k13.cells bx0 c0_0
  replace c0_1 : W13.cell? ⟨w.heap.size, 1, none⟩ = some (.slice B m d) := k13.cells bx0 c0_1
  replace c1_0 : W13.cell? ⟨W3.heap.size, 0, none⟩ = some (.slice wA wn wc) := k13.cells bx1 c1_0
  replace c1_1 : W13.cell? ⟨W3.heap.size, 1, none⟩ = some (.slice wB wm wd) := k13.cells bx1 c1_1
  replace c2_0 : W13.cell? ⟨W4.heap.size, 0, none⟩ = some (.slice xA xn xc) := k13.cells bx2 c2_0
  replace c2_1 : W13.cell? ⟨W4.heap.size, 1, none⟩ = some (.slice xB xm xd) := k13.cells bx2 c2_1
  replace c3_0 : W13.cell? ⟨W5.heap.size, 0, none⟩ = some (.slice gA gn gc) := k13.cells bx3 c3_0
  replace c3_1 : W13.cell? ⟨W5.heap.size, 1, none⟩ = some (.slice gB gm gd) := k13.cells bx3 c3_1
  replace bx0 : w.heap.size < W13.heap.size := Nat.lt_of_lt_of_le bx0 k13.size
  replace bx1 : W3.heap.size < W13.heap.size := Nat.lt_of_lt_of_le bx1 k13.size
  replace bx2 : W4.heap.size < W13.heap.size := Nat.lt_of_lt_of_le bx2 k13.size
  replace bx3 : W5.heap.size < W13.heap.size := Nat.lt_of_lt_of_le bx3 k13.size
  replace rw := rw.keep k13 (.inr (.inr (Nat.le_refl 0)))
  replace rh := rh.keep k13 (.inr (.inr (Nat.le_refl 0)))
  have K13 := K12.tr0 k13
  clear K12 k13
  obtain ⟨yA, yn, yc, rfl⟩ := ry.a.slice
  obtain ⟨yB, ym, yd, rfl⟩ := ry.b.slice
  go_wp2_with fail
  refine (implForgetAll_any _ _ _ _ _ ks l ry.a.rd ry.b.rd (by omega) (by omega) hx0.out hx1.out).mono ?_
  rintro e W14 ⟨u0, u1, rfl, ru, k14⟩
  have s14 := k14.size
  replace c0_0 : W14.cell? ⟨w.heap.size, 0, none⟩ = some (.slice A n c) := k14.cells bx0 c0_0
  replace c0_1 : W14.cell? ⟨w.heap.size, 1, none⟩ = some (.slice B m d) := k14.cells bx0 c0_1
  replace c1_0 : W14.cell? ⟨W3.heap.size, 0, none⟩ = some (.slice wA wn wc) := k14.cells bx1 c1_0
  replace c1_1 : W14.cell? ⟨W3.heap.size, 1, none⟩ = some (.slice wB wm wd) := k14.cells bx1 c1_1
  replace c2_0 : W14.cell? ⟨W4.heap.size, 0, none⟩ = some (.slice xA xn xc) := k14.cells bx2 c2_0
  replace c2_1 : W14.cell? ⟨W4.heap.size, 1, none⟩ = some (.slice xB xm xd) := k14.cells bx2 c2_1
  replace c3_0 : W14.cell? ⟨W5.heap.size, 0, none⟩ = some (.slice gA gn gc) := k14.cells bx3 c3_0
  replace c3_1 : W14.cell? ⟨W5.heap.size, 1, none⟩ = some (.slice gB gm gd) := k14.cells bx3 c3_1
  replace bx0 : w.heap.size < W14.heap.size := Nat.lt_of_lt_of_le bx0 k14.size
  replace bx1 : W3.heap.size < W14.heap.size := Nat.lt_of_lt_of_le bx1 k14.size
  replace bx2 : W4.heap.size < W14.heap.size := Nat.lt_of_lt_of_le bx2 k14.size
  replace bx3 : W5.heap.size < W14.heap.size := Nat.lt_of_lt_of_le bx3 k14.size
  replace rw := rw.keep k14 (.inr (.inr (Nat.le_refl 0)))
  replace rh := rh.keep k14 (.inr (.inr (Nat.le_refl 0)))
  replace ry := ry.keep k14 (.inr (.inr (Nat.le_refl 0)))
  have K14 := K13.tr0 k14
  clear K13 k14
  obtain ⟨uA, un, uc, rfl⟩ := ru.a.slice
  obtain ⟨uB, um, ud, rfl⟩ := ru.b.slice
  replace ru := ru.cast HR.out
  clear ry
  have ka4 := keep_1 W14 (.cells #[.slice uA un uc, .slice uB um ud] 31)
  replace c0_0 : (W14.alloc (.cells #[.slice uA un uc, .slice uB um ud] 31)).cell? ⟨w.heap.size, 0, none⟩ = some (.slice A n c) := ka4.cells bx0 c0_0
  replace c0_1 : (W14.alloc (.cells #[.slice uA un uc, .slice uB um ud] 31)).cell? ⟨w.heap.size, 1, none⟩ = some (.slice B m d) := ka4.cells bx0 c0_1
  replace c1_0 : (W14.alloc (.cells #[.slice uA un uc, .slice uB um ud] 31)).cell? ⟨W3.heap.size, 0, none⟩ = some (.slice wA wn wc) := ka4.cells bx1 c1_0
  replace c1_1 : (W14.alloc (.cells #[.slice uA un uc, .slice uB um ud] 31)).cell? ⟨W3.heap.size, 1, none⟩ = some (.slice wB wm wd) := ka4.cells bx1 c1_1
  replace c2_0 : (W14.alloc (.cells #[.slice uA un uc, .slice uB um ud] 31)).cell? ⟨W4.heap.size, 0, none⟩ = some (.slice xA xn xc) := ka4.cells bx2 c2_0
  replace c2_1 : (W14.alloc (.cells #[.slice uA un uc, .slice uB um ud] 31)).cell? ⟨W4.heap.size, 1, none⟩ = some (.slice xB xm xd) := ka4.cells bx2 c2_1
  replace c3_0 : (W14.alloc (.cells #[.slice uA un uc, .slice uB um ud] 31)).cell? ⟨W5.heap.size, 0, none⟩ = some (.slice gA gn gc) := ka4.cells bx3 c3_0
  replace c3_1 : (W14.alloc (.cells #[.slice uA un uc, .slice uB um ud] 31)).cell? ⟨W5.heap.size, 1, none⟩ = some (.slice gB gm gd) := ka4.cells bx3 c3_1
  replace bx0 : w.heap.size < (W14.alloc (.cells #[.slice uA un uc, .slice uB um ud] 31)).heap.size := Nat.lt_of_lt_of_le bx0 ka4.size
  replace bx1 : W3.heap.size < (W14.alloc (.cells #[.slice uA un uc, .slice uB um ud] 31)).heap.size := Nat.lt_of_lt_of_le bx1 ka4.size
  replace bx2 : W4.heap.size < (W14.alloc (.cells #[.slice uA un uc, .slice uB um ud] 31)).heap.size := Nat.lt_of_lt_of_le bx2 ka4.size
  replace bx3 : W5.heap.size < (W14.alloc (.cells #[.slice uA un uc, .slice uB um ud] 31)).heap.size := Nat.lt_of_lt_of_le bx3 ka4.size
  replace rw := rw.keep ka4 (.inr (.inr (Nat.le_refl 0)))
  replace rh := rh.keep ka4 (.inr (.inr (Nat.le_refl 0)))
  replace ru := ru.keep ka4 (.inr (.inr (Nat.le_refl 0)))
  have K14a := K14.tr0 ka4
  clear K14 ka4
  have sa4 : W14.heap.size + 1 = (W14.alloc (.cells #[.slice uA un uc, .slice uB um ud] 31)).heap.size := by simp
  have HA4 := Lib.hid sa4
  replace sa4 : W14.heap.size < (W14.alloc (.cells #[.slice uA un uc, .slice uB um ud] 31)).heap.size := by omega
  have bx4 : W14.heap.size < (W14.alloc (.cells #[.slice uA un uc, .slice uB um ud] 31)).heap.size := by simp
  have c4_0 : (W14.alloc (.cells #[.slice uA un uc, .slice uB um ud] 31)).cell? ⟨W14.heap.size, 0, none⟩ = some (.slice uA un uc) := by go_cell
  have c4_1 : (W14.alloc (.cells #[.slice uA un uc, .slice uB um ud] 31)).cell? ⟨W14.heap.size, 1, none⟩ = some (.slice uB um ud) := by go_cell
  go_wp2_with fail
  refine (eqKept_any _ _ _ _ _ _ _ _ _ _ _ _ _ ru.a.rd ru.b.rd rw.a.rd rw.b.rd (by omega) (by omega) (by omega) (by omega)).mono ?_
  rintro e W15 ⟨rfl, k15⟩
  have s15 := k15.size
  replace c0_0 : W15.cell? ⟨w.heap.size, 0, none⟩ = some (.slice A n c) := k15.cells bx0 c0_0
  replace c0_1 : W15.cell? ⟨w.heap.size, 1, none⟩ = some (.slice B m d) := k15.cells bx0 c0_1
  replace c1_0 : W15.cell? ⟨W3.heap.size, 0, none⟩ = some (.slice wA wn wc) := k15.cells bx1 c1_0
  replace c1_1 : W15.cell? ⟨W3.heap.size, 1, none⟩ = some (.slice wB wm wd) := k15.cells bx1 c1_1
  replace c2_0 : W15.cell? ⟨W4.heap.size, 0, none⟩ = some (.slice xA xn xc) := k15.cells bx2 c2_0
  replace c2_1 : W15.cell? ⟨W4.heap.size, 1, none⟩ = some (.slice xB xm xd) := k15.cells bx2 c2_1
  replace c3_0 : W15.cell? ⟨W5.heap.size, 0, none⟩ = some (.slice gA gn gc) := k15.cells bx3 c3_0
  replace c3_1 : W15.cell? ⟨W5.heap.size, 1, none⟩ = some (.slice gB gm gd) := k15.cells bx3 c3_1
  replace c4_0 : W15.cell? ⟨W14.heap.size, 0, none⟩ = some (.slice uA un uc) := k15.cells bx4 c4_0
  replace c4_1 : W15.cell? ⟨W14.heap.size, 1, none⟩ = some (.slice uB um ud) := k15.cells bx4 c4_1
  replace bx0 : w.heap.size < W15.heap.size := Nat.lt_of_lt_of_le bx0 k15.size
  replace bx1 : W3.heap.size < W15.heap.size := Nat.lt_of_lt_of_le bx1 k15.size
  replace bx2 : W4.heap.size < W15.heap.size := Nat.lt_of_lt_of_le bx2 k15.size
  replace bx3 : W5.heap.size < W15.heap.size := Nat.lt_of_lt_of_le bx3 k15.size
  replace bx4 : W14.heap.size < W15.heap.size := Nat.lt_of_lt_of_le bx4 k15.size
  replace rw := rw.keep k15 (.inr (.inr (Nat.le_refl 0)))
  replace rh := rh.keep k15 (.inr (.inr (Nat.le_refl 0)))
  replace ru := ru.keep k15 (.inr (.inr (Nat.le_refl 0)))
  have K15 := K14a.tr0 k15
  clear K14a k15
  simp only [decide_true, Bool.and_self]
  go_wp2_with fail
  refine (heldKept_any _ _ _ _ _ NG MG 1 rh.a.rd rh.b.rd (by omega) (by omega) (by omega) (by omega)).mono ?_
  rintro e W16 ⟨rfl, k16⟩
  have s16 := k16.size
  replace c0_0 : W16.cell? ⟨w.heap.size, 0, none⟩ = some (.slice A n c) := k16.cells bx0 c0_0
  replace c0_1 : W16.cell? ⟨w.heap.size, 1, none⟩ = some (.slice B m d) := k16.cells bx0 c0_1
  replace c1_0 : W16.cell? ⟨W3.heap.size, 0, none⟩ = some (.slice wA wn wc) := k16.cells bx1 c1_0
  replace c1_1 : W16.cell? ⟨W3.heap.size, 1, none⟩ = some (.slice wB wm wd) := k16.cells bx1 c1_1
  replace c2_0 : W16.cell? ⟨W4.heap.size, 0, none⟩ = some (.slice xA xn xc) := k16.cells bx2 c2_0
  replace c2_1 : W16.cell? ⟨W4.heap.size, 1, none⟩ = some (.slice xB xm xd) := k16.cells bx2 c2_1
  replace c3_0 : W16.cell? ⟨W5.heap.size, 0, none⟩ = some (.slice gA gn gc) := k16.cells bx3 c3_0
  replace c3_1 : W16.cell? ⟨W5.heap.size, 1, none⟩ = some (.slice gB gm gd) := k16.cells bx3 c3_1
  replace c4_0 : W16.cell? ⟨W14.heap.size, 0, none⟩ = some (.slice uA un uc) := k16.cells bx4 c4_0
  replace c4_1 : W16.cell? ⟨W14.heap.size, 1, none⟩ = some (.slice uB um ud) := k16.cells bx4 c4_1
  replace bx0 : w.heap.size < W16.heap.size := Nat.lt_of_lt_of_le bx0 k16.size
  replace bx1 : W3.heap.size < W16.heap.size := Nat.lt_of_lt_of_le bx1 k16.size
  replace bx2 : W4.heap.size < W16.heap.size := Nat.lt_of_lt_of_le bx2 k16.size
  replace bx3 : W5.heap.size < W16.heap.size := Nat.lt_of_lt_of_le bx3 k16.size
  replace bx4 : W14.heap.size < W16.heap.size := Nat.lt_of_lt_of_le bx4 k16.size
  replace rw := rw.keep k16 (.inr (.inr (Nat.le_refl 0)))
  replace rh := rh.keep k16 (.inr (.inr (Nat.le_refl 0)))
  replace ru := ru.keep k16 (.inr (.inr (Nat.le_refl 0)))
  have K16 := K15.tr0 k16
  clear K15 k16
  go_wp2
  go_ret
  exact ⟨rfl, (KK.tr0 K16).below⟩

set_option maxRecDepth 100000 in
theorem lifted (os : Os) (started : os.Started) (H : Type) (enc : TypeId × Value → H) :
    ReturnsInHanded {} Try.checked os 5 .any (Rows.fnExactForgetAllSpec.pre6 enc Try.prog Try.f5 Rows.fnExactForgetAllRow.domain false) (Rows.fnExactForgetAllSpec.post enc Try.prog Try.f5 false true false false) := by
  refine returnsInHanded_of_change (C := Try.checked) own started (by kernel_rfl) Try.func5
    (ChangeSpec.witness6 (enc := enc) (C := Try.checked) false ⟨#[], #[.agg #[.slice none 0 0, .slice none 0 0]], []⟩ 8 (by kernel_rfl) (by kernel_rfl) (by kernel_rfl) (by kernel_rfl)) ?_
  intro W base args ds gs before hval0 hW hcnd _
  have hval : ∀ (j : Nat) t v, Try.f5.params[j]? = some t → args[j]? = some v → Value.okWide Try.prog W .any base t v := hval0
  have hW' := hW
  obtain ⟨p, q, hA0, hV, rfl, hfz, hnd⟩ := hW
  have hA : DataW.TrodAll enc Try.prog W 0 (fun _ => true) true Try.f5.params.toList args.toList ds p := hA0
  rw [Try.params5] at hA hval
  obtain ⟨v0, vs0, d0, ds0, p0, q0, hargs, rfl, rfl, h0, r0⟩ := trodAll_cons hA
  obtain ⟨rfl, rfl, rfl⟩ := trodAll_nil r0
  obtain rfl : args = #[v0] := by cases args; simp_all
  obtain ⟨rfl, rfl⟩ := trodVars_none hV
  have k0 := h0
  have lt0 : ∀ x ∈ p0, x.block < W.heap.size := by obtain ⟨m, hm⟩ := k0; exact DataW.trod_lt m _ _ _ hm
  obtain ⟨c00, c01, y00, y01, m0, rfl, _, _, g00, g01⟩ := Go.Joins.open_agg2 Try.underlying25 (by kernel_rfl) (show Try.prog.cellsOf 25 = 2 by kernel_rfl) (hval 0 25 v0 rfl rfl) h0
  obtain ⟨A00, n00, cap00, rfl⟩ := slice_field Try.underlying22 g00
  obtain ⟨xs00, rb00, hl00⟩ := open_bols Try.underlying22 Try.underlying4 (by kernel_rfl) g00
  obtain ⟨A01, n01, cap01, rfl⟩ := slice_field Try.underlying23 g01
  obtain ⟨xs01, rb01, hl01⟩ := open_flat_field Try.underlying23 Try.underlying54 (by kernel_rfl) (by kernel_rfl) (by intro j f hf; rcases j with _ | _ | j <;> simp at hf <;> subst hf <;> exact Try.underlying3) (by decide) g01
  clear hA0 hval0
  refine (walk W A00 n00 cap00 xs00 rb00 hl00 A01 n01 cap01 xs01 rb01 hl01).mono fun e W' ⟨he, bel⟩ => ?_
  subst he
  exact ⟨_, rfl, _, _, _, [], _, [], hW', trodAll_mk1 (shut_bool Try.underlying4 _), (trodAll_cons_mk (Below.trod laidOut (by kernel_rfl) (of_decide_eq_true (by kernel_rfl)) k0 bel lt0) trodAll_mk0), rfl, bel.frame _, fun h => by cases h⟩

theorem over : Rows.fnExactForgetAllRow.holds Try.pinned (OpenSpec.ofChange Rows.fnExactForgetAllSpec) :=
  OpenClaim.holds_of_wide 5 Try.f5 rfl rfl rfl rfl rfl rfl rfl ⟨rfl, rfl, rfl, rfl, rfl⟩ rfl rfl rfl rfl rfl (by kernel_rfl) Try.func5 (by kernel_rfl)
    (of_decide_eq_true (by kernel_rfl)) (by unfold Func.isWrapper; first | (rw [if_pos (by decide +kernel)]; kernel_rfl) | (rw [if_neg (by decide +kernel)]; exact ⟨rfl, rfl⟩))
    (fun os started H enc _ => lifted os started H enc)

/-- The given statement. -/
theorem proved : Rows.FnExactForgetAllSaid := over
end Go.Proofs.Ytignedkhklfonaa.fnExactForgetAll
