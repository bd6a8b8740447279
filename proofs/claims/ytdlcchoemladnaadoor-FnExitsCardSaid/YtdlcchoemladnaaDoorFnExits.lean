/-
  For every draw: the constructors of exits set their fields, and an exit is valid if they are within their ranges. The card's condition alone: the library's table of powers of ten stands as its text lays it.
-/
import Derived.Test.YtdlcchoemladnaaDoorRows
import Derived.WalkKit
import Derived.ProofKit
import Derived.OpenShut
import Derived.ShutString
import Derived.ChangeOld
import Derived.Below
import Derived.Lib.SmallJoins
import Derived.WalkSpells
import Derived.Test.YtdlcchoemladnaaDoorCards
import Derived.Test.YtdlcchoemladnaaDoorTie
import Derived.Test.YtdlcchoemladnaaDoorDrX
import Derived.Test.YtdlcchoemladnaaDoorPlc
import Derived.Test.YtdlcchoemladnaaDoorLoc
import Derived.Test.YtdlcchoemladnaaDoorOpen
import Derived.Test.YtdlcchoemladnaaDoorOne
import Derived.LaidMore
import Derived.Stop.Joined
import Derived.Stop.LaidErr
import Derived.MakeChecks
import Derived.SevenTiedAt
import Derived.Handy
import Derived.Deep.RegionHeld3
import Derived.Deep.QuietTactic
import Derived.BigQuiet
import Derived.Deep.Cut
import Derived.Deep.DeepCutAuto
import Derived.Deep.RegionHeld
import Derived.Deep.DrawnRows
namespace Go.Proofs.YtdlcchoemladnaaDoor.fnExits
open Go.ChangeShapes Go.WideShapes Go.ChangeAt Go.RowKit
set_option linter.unusedVariables false

theorem own : ownKnob Tryd.prog.godebug = none := by kernel_rfl
theorem laidOut : laidOutB Tryd.prog = true := by kernel_rfl

theorem gPowType : (Tryd.prog.globals[0]?).map (·.type) = some 73 := by kernel_rfl
theorem cells20 : Tryd.prog.cellsOf 73 = 20 := by kernel_rfl
theorem cells1 : Tryd.prog.cellsOf 66 = 1 := by kernel_rfl
theorem pow10_data : (Rows.laid_internal_strconv_uint64pow10 : DataW Unit) = Lib.tabData .u64 Lib.pow10Tab := by kernel_rfl
theorem table {W : World} (h : laidMetH Tryd.prog Rows.fnExitsRow.laid W) : Tab W := by
  rw [MakeChecks.laidMetH_plain _ _ _ (by kernel_rfl)] at h
  have h2 : laidMet Tryd.prog [("internal/strconv.uint64pow10", (Rows.laid_internal_strconv_uint64pow10 : DataW Unit))] W := h.tail.tail
  rw [pow10_data] at h2
  exact Lib.tabIs_of_head (rest := []) gPow gPowType Tryd.underlying73 Tryd.underlying66 cells1 cells20 h2

attribute [local go_sem ↓] Go.wp_at_zero Go.wp_at_succ
theorem lapp_cons {α : Type} (a : α) (l k : List α) : List.append (a :: l) k = a :: List.append l k := rfl
theorem lapp_nil {α : Type} (k : List α) : List.append [] k = k := rfl
set_option maxRecDepth 100000 in
theorem walk_big (w : World) (A : Option Addr) (n c : Nat) (hc9 : n ≤ 9223372036854775807) (hbig : bigT n = true) :
    Calls Tryd.prog 3 #[.slice A n c] w fun e w' => e = .returned (.bool true) ∧ Below w.heap.size w w' := by
  go_enter Tryd.func3, Tryd.ntmps3
  go_wp2_with fail
  refine (big_any A n c hc9 _).mono ?_
  rintro e w' ⟨rfl, rfl⟩
  rw [hbig]
  go_wp2
  go_ret
  exact ⟨rfl, Below.refl _ _⟩
set_option maxRecDepth 100000 in
set_option maxHeartbeats 8000000 in
theorem walk (w : World) (A : Option Addr) (n c : Nat) (xs : List Int) (rb : Rd w w.heap.size 1 (.slice A n c) (byts xs)) (hl : xs.length = n) (ht : Tab w) :
    Calls Tryd.prog 3 #[.slice A n c] w fun e w' => e = .returned (.bool true) ∧ Below w.heap.size w w' := by
  have hc9 : n ≤ 9223372036854775807 := by obtain ⟨_, _, _, e, h1, h2, _⟩ := rb; injection e with _ e2 e3; unfold maxLen at h2; omega
  clear hl
  rcases Bool.eq_false_or_eq_true (bigT n) with hbig | hbig
  · exact walk_big w A n c hc9 hbig
  have HT := Lib.hid ht
  clear ht
  go_enter Tryd.func3, Tryd.ntmps3
  go_wp2_with fail
  refine (big_any A n c hc9 _).mono ?_
  rintro e w' ⟨rfl, rfl⟩
  rw [hbig]
  clear hbig
  go_wp2_with fail
  have K0 := Keep.refl 0 0 w
  have RB0 := rb
  refine (DrawFaultExit_any _ _ xs RB0).mono ?_
  rintro e W1 ⟨p, b, rfl, hp0, hp1, k1⟩
  have K1 := K0.tr0 k1
  have RB1 := (RB0.keep k1 (Nat.le_refl _) (.inr (Nat.le_refl 0))).mono k1.size
  clear K0 k1 RB0
  go_wp2_with fail
  refine (DrawCallExit_any _ _ xs RB1).mono ?_
  rintro e W2 ⟨n1, rfl, hn0, hn1, k2⟩
  have K2 := K1.tr0 k2
  have RB2 := (RB1.keep k2 (Nat.le_refl _) (.inr (Nat.le_refl 0))).mono k2.size
  clear K1 k2 RB1
  go_wp2_with fail
  refine (DrawOutExit_any _ _ xs RB2).mono ?_
  rintro e W3 ⟨n2, rfl, ho0, ho1, k3⟩
  have K3 := K2.tr0 k3
  have RB3 := (RB2.keep k3 (Nat.le_refl _) (.inr (Nat.le_refl 0))).mono k3.size
  clear K2 k3 RB2
  go_wp2_with fail
  refine (DrawExitOk_any _ _ xs RB3).mono ?_
  rintro e W4 ⟨ek, ep, eb, en, rfl, lp, ln, k4⟩
  have K4 := K3.tr0 k4
  have RB4 := (RB3.keep k4 (Nat.le_refl _) (.inr (Nat.le_refl 0))).mono k4.size
  clear K3 k4 RB3
  obtain ⟨W5, hW5⟩ : ∃ W5, W5 = W4.alloc (.cells #[.int .i64 ek, .int .i64 ep, .bool eb, .int .i64 en] 28) := ⟨_, rfl⟩
  have k5 : Keep 0 0 W4 W5 := by rw [hW5]; exact keep_1 W4 _
  have K5 := K4.tr0 k5
  have RB5 := (RB4.keep k5 (Nat.le_refl _) (.inr (Nat.le_refl 0))).mono k5.size
  clear K4 k5 RB4
  have BE := Lib.hid (show Lo W5 W4.heap.size 28 #[.int .i64 ek, .int .i64 ep, .bool eb, .int .i64 en] by rw [hW5]; exact Lo.new W4 28 #[.int .i64 ek, .int .i64 ep, .bool eb, .int .i64 en] rfl)
  go_wp2_with fail
  rw [← hW5]
  clear hW5
  generalize W4.heap.size = qE at BE ⊢
  refine (DrawExitName_any _ _ xs RB5).mono ?_
  rintro e W6 ⟨kk, rfl, _, _, k6⟩
  have K6 := K5.tr0 k6
  have RB6 := (RB5.keep k6 (Nat.le_refl _) (.inr (Nat.le_refl 0))).mono k6.size
  replace BE := Lib.hid (BE.out.keep0 k6)
  clear K5 k6 RB5
  clear RB6
  obtain ⟨xE0, xE1, xE2, xE3, _⟩ := BE.out.c4
  go_wp2_with fail
  clear xE0 xE1 xE2 xE3
  refine (implFaultExit_any _ _ _).mono ?_
  rintro e W7 ⟨rfl, k7⟩
  have K7 := K6.tr0 k7
  replace BE := Lib.hid (BE.out.keep0 k7)
  clear K6 k7
  obtain ⟨W8, hW8⟩ : ∃ W8, W8 = W7.alloc (.cells #[.int .i64 1, .int .i64 p, .bool b, .int .i64 0] 28) := ⟨_, rfl⟩
  have k8 : Keep 0 0 W7 W8 := by rw [hW8]; exact keep_1 W7 _
  have K8 := K7.tr0 k8
  replace BE := Lib.hid (BE.out.keep0 k8)
  clear K7 k8
  have BF := Lib.hid (show Lo W8 W7.heap.size 28 #[.int .i64 1, .int .i64 p, .bool b, .int .i64 0] by rw [hW8]; exact Lo.new W7 28 #[.int .i64 1, .int .i64 p, .bool b, .int .i64 0] rfl)
  obtain ⟨xE0, xE1, xE2, xE3, _⟩ := BE.out.c4
  rw [hW8] at xE0 xE1 xE2 xE3
  go_wp2_with fail
  clear xE0 xE1 xE2 xE3
  rw [← hW8]
  clear hW8
  generalize W7.heap.size = qF at BF ⊢
  refine (implCallExit_any _ _).mono ?_
  rintro e W9 ⟨rfl, k9⟩
  have K9 := K8.tr0 k9
  replace BE := Lib.hid (BE.out.keep0 k9)
  replace BF := Lib.hid (BF.out.keep0 k9)
  clear K8 k9
  obtain ⟨W10, hW10⟩ : ∃ W10, W10 = W9.alloc (.cells #[.int .i64 2, .int .i64 0, .bool false, .int .i64 n1] 28) := ⟨_, rfl⟩
  have k10 : Keep 0 0 W9 W10 := by rw [hW10]; exact keep_1 W9 _
  have K10 := K9.tr0 k10
  replace BE := Lib.hid (BE.out.keep0 k10)
  replace BF := Lib.hid (BF.out.keep0 k10)
  clear K9 k10
  have BC := Lib.hid (show Lo W10 W9.heap.size 28 #[.int .i64 2, .int .i64 0, .bool false, .int .i64 n1] by rw [hW10]; exact Lo.new W9 28 #[.int .i64 2, .int .i64 0, .bool false, .int .i64 n1] rfl)
  obtain ⟨xE0, xE1, xE2, xE3, _⟩ := BE.out.c4
  rw [hW10] at xE0 xE1 xE2 xE3
  obtain ⟨xF0, xF1, xF2, xF3, _⟩ := BF.out.c4
  rw [hW10] at xF0 xF1 xF2 xF3
  go_wp2_with fail
  clear xE0 xE1 xE2 xE3
  clear xF0 xF1 xF2 xF3
  rw [← hW10]
  clear hW10
  generalize W9.heap.size = qC at BC ⊢
  refine (implOutExit_any _ _).mono ?_
  rintro e W11 ⟨rfl, k11⟩
  have K11 := K10.tr0 k11
  replace BE := Lib.hid (BE.out.keep0 k11)
  replace BF := Lib.hid (BF.out.keep0 k11)
  replace BC := Lib.hid (BC.out.keep0 k11)
  clear K10 k11
  obtain ⟨W12, hW12⟩ : ∃ W12, W12 = W11.alloc (.cells #[.int .i64 3, .int .i64 0, .bool false, .int .i64 n2] 28) := ⟨_, rfl⟩
  have k12 : Keep 0 0 W11 W12 := by rw [hW12]; exact keep_1 W11 _
  have K12 := K11.tr0 k12
  replace BE := Lib.hid (BE.out.keep0 k12)
  replace BF := Lib.hid (BF.out.keep0 k12)
  replace BC := Lib.hid (BC.out.keep0 k12)
  clear K11 k12
  have BD := Lib.hid (show Lo W12 W11.heap.size 28 #[.int .i64 3, .int .i64 0, .bool false, .int .i64 n2] by rw [hW12]; exact Lo.new W11 28 #[.int .i64 3, .int .i64 0, .bool false, .int .i64 n2] rfl)
  obtain ⟨xE0, xE1, xE2, xE3, _⟩ := BE.out.c4
  rw [hW12] at xE0 xE1 xE2 xE3
  obtain ⟨xF0, xF1, xF2, xF3, _⟩ := BF.out.c4
  rw [hW12] at xF0 xF1 xF2 xF3
  obtain ⟨xC0, xC1, xC2, xC3, _⟩ := BC.out.c4
  rw [hW12] at xC0 xC1 xC2 xC3
  go_wp2_with fail
  clear xE0 xE1 xE2 xE3
  clear xF0 xF1 xF2 xF3
  clear xC0 xC1 xC2 xC3
  rw [← hW12]
  clear hW12
  generalize W11.heap.size = qD at BD ⊢
  obtain ⟨lp0, lp1⟩ := lp
  obtain ⟨ln0, ln1⟩ := ln
  have fl : exitS 1 2 true 0 = ⟨#[102, 97, 117, 108, 116, 32, 50, 32, 119]⟩ := fault_two
  have TV0 := Lib.hid (HT.out.keep K12)
  generalize W12 = V at TV0 K12 BE BF BC BD ⊢
  have KV := Lib.hid K12
  clear K12 HT
  obtain ⟨xE0, xE1, xE2, xE3, _⟩ := BE.out.c4
  obtain ⟨xF0, xF1, xF2, xF3, _⟩ := BF.out.c4
  obtain ⟨xC0, xC1, xC2, xC3, _⟩ := BC.out.c4
  obtain ⟨xD0, xD1, xD2, xD3, _⟩ := BD.out.c4
  have HS := Lib.hid (show ∀ w1 w2 : World, (w1.cell? ⟨qE, 0, none⟩ = some (.int .i64 ek) ∧ w1.cell? ⟨qE, 1, none⟩ = some (.int .i64 ep) ∧ w1.cell? ⟨qE, 2, none⟩ = some (.bool eb) ∧ w1.cell? ⟨qE, 3, none⟩ = some (.int .i64 en) ∧ w1.cell? ⟨qF, 0, none⟩ = some (.int .i64 1) ∧ w1.cell? ⟨qF, 1, none⟩ = some (.int .i64 p) ∧ w1.cell? ⟨qF, 2, none⟩ = some (.bool b) ∧ w1.cell? ⟨qF, 3, none⟩ = some (.int .i64 0) ∧ w1.cell? ⟨qC, 0, none⟩ = some (.int .i64 2) ∧ w1.cell? ⟨qC, 1, none⟩ = some (.int .i64 0) ∧ w1.cell? ⟨qC, 2, none⟩ = some (.bool false) ∧ w1.cell? ⟨qC, 3, none⟩ = some (.int .i64 n1) ∧ w1.cell? ⟨qD, 0, none⟩ = some (.int .i64 3) ∧ w1.cell? ⟨qD, 1, none⟩ = some (.int .i64 0) ∧ w1.cell? ⟨qD, 2, none⟩ = some (.bool false) ∧ w1.cell? ⟨qD, 3, none⟩ = some (.int .i64 n2) ∧ Keep 0 0 V w1) → Keep 0 0 w1 w2 → (w2.cell? ⟨qE, 0, none⟩ = some (.int .i64 ek) ∧ w2.cell? ⟨qE, 1, none⟩ = some (.int .i64 ep) ∧ w2.cell? ⟨qE, 2, none⟩ = some (.bool eb) ∧ w2.cell? ⟨qE, 3, none⟩ = some (.int .i64 en) ∧ w2.cell? ⟨qF, 0, none⟩ = some (.int .i64 1) ∧ w2.cell? ⟨qF, 1, none⟩ = some (.int .i64 p) ∧ w2.cell? ⟨qF, 2, none⟩ = some (.bool b) ∧ w2.cell? ⟨qF, 3, none⟩ = some (.int .i64 0) ∧ w2.cell? ⟨qC, 0, none⟩ = some (.int .i64 2) ∧ w2.cell? ⟨qC, 1, none⟩ = some (.int .i64 0) ∧ w2.cell? ⟨qC, 2, none⟩ = some (.bool false) ∧ w2.cell? ⟨qC, 3, none⟩ = some (.int .i64 n1) ∧ w2.cell? ⟨qD, 0, none⟩ = some (.int .i64 3) ∧ w2.cell? ⟨qD, 1, none⟩ = some (.int .i64 0) ∧ w2.cell? ⟨qD, 2, none⟩ = some (.bool false) ∧ w2.cell? ⟨qD, 3, none⟩ = some (.int .i64 n2) ∧ Keep 0 0 V w2) from fun w1 w2 ⟨h0, h1, h2, h3, h4, h5, h6, h7, h8, h9, h10, h11, h12, h13, h14, h15, h16⟩ k => ⟨(k.cell0 (p := ⟨qE, 0, none⟩) (World.block_lt_of_cell? _ _ h0)).trans h0, (k.cell0 (p := ⟨qE, 1, none⟩) (World.block_lt_of_cell? _ _ h1)).trans h1, (k.cell0 (p := ⟨qE, 2, none⟩) (World.block_lt_of_cell? _ _ h2)).trans h2, (k.cell0 (p := ⟨qE, 3, none⟩) (World.block_lt_of_cell? _ _ h3)).trans h3, (k.cell0 (p := ⟨qF, 0, none⟩) (World.block_lt_of_cell? _ _ h4)).trans h4, (k.cell0 (p := ⟨qF, 1, none⟩) (World.block_lt_of_cell? _ _ h5)).trans h5, (k.cell0 (p := ⟨qF, 2, none⟩) (World.block_lt_of_cell? _ _ h6)).trans h6, (k.cell0 (p := ⟨qF, 3, none⟩) (World.block_lt_of_cell? _ _ h7)).trans h7, (k.cell0 (p := ⟨qC, 0, none⟩) (World.block_lt_of_cell? _ _ h8)).trans h8, (k.cell0 (p := ⟨qC, 1, none⟩) (World.block_lt_of_cell? _ _ h9)).trans h9, (k.cell0 (p := ⟨qC, 2, none⟩) (World.block_lt_of_cell? _ _ h10)).trans h10, (k.cell0 (p := ⟨qC, 3, none⟩) (World.block_lt_of_cell? _ _ h11)).trans h11, (k.cell0 (p := ⟨qD, 0, none⟩) (World.block_lt_of_cell? _ _ h12)).trans h12, (k.cell0 (p := ⟨qD, 1, none⟩) (World.block_lt_of_cell? _ _ h13)).trans h13, (k.cell0 (p := ⟨qD, 2, none⟩) (World.block_lt_of_cell? _ _ h14)).trans h14, (k.cell0 (p := ⟨qD, 3, none⟩) (World.block_lt_of_cell? _ _ h15)).trans h15, h16.tr0 k⟩)
  have HV := Lib.hid (show ∀ w1 : World, (w1.cell? ⟨qE, 0, none⟩ = some (.int .i64 ek) ∧ w1.cell? ⟨qE, 1, none⟩ = some (.int .i64 ep) ∧ w1.cell? ⟨qE, 2, none⟩ = some (.bool eb) ∧ w1.cell? ⟨qE, 3, none⟩ = some (.int .i64 en) ∧ w1.cell? ⟨qF, 0, none⟩ = some (.int .i64 1) ∧ w1.cell? ⟨qF, 1, none⟩ = some (.int .i64 p) ∧ w1.cell? ⟨qF, 2, none⟩ = some (.bool b) ∧ w1.cell? ⟨qF, 3, none⟩ = some (.int .i64 0) ∧ w1.cell? ⟨qC, 0, none⟩ = some (.int .i64 2) ∧ w1.cell? ⟨qC, 1, none⟩ = some (.int .i64 0) ∧ w1.cell? ⟨qC, 2, none⟩ = some (.bool false) ∧ w1.cell? ⟨qC, 3, none⟩ = some (.int .i64 n1) ∧ w1.cell? ⟨qD, 0, none⟩ = some (.int .i64 3) ∧ w1.cell? ⟨qD, 1, none⟩ = some (.int .i64 0) ∧ w1.cell? ⟨qD, 2, none⟩ = some (.bool false) ∧ w1.cell? ⟨qD, 3, none⟩ = some (.int .i64 n2) ∧ Keep 0 0 V w1) → Tab w1 from fun w1 ⟨_, _, _, _, _, _, _, _, _, _, _, _, _, _, _, _, k⟩ => TV0.out.keep k)
  simp only [lapp_cons, lapp_nil]
  rcases (show p < 0 ∨ 0 ≤ p by omega) with hp | hp <;> rcases (show n1 < 0 ∨ 0 ≤ n1 by omega) with hn | hn
  · skip
    have g0 : decide (0 ≤ p) = false := by simp; omega
    have g2 : exitOkT 1 p b 0 = false := okf_low (by omega)
    have h0 : decide (0 ≤ n1) = false := by simp; omega
    have h2 : exitOkT 2 0 false n1 = false := okc_low (by omega)
    first | (go_region_held (fun w' => w'.cell? ⟨qE, 0, none⟩ = some (.int .i64 ek) ∧ w'.cell? ⟨qE, 1, none⟩ = some (.int .i64 ep) ∧ w'.cell? ⟨qE, 2, none⟩ = some (.bool eb) ∧ w'.cell? ⟨qE, 3, none⟩ = some (.int .i64 en) ∧ w'.cell? ⟨qF, 0, none⟩ = some (.int .i64 1) ∧ w'.cell? ⟨qF, 1, none⟩ = some (.int .i64 p) ∧ w'.cell? ⟨qF, 2, none⟩ = some (.bool b) ∧ w'.cell? ⟨qF, 3, none⟩ = some (.int .i64 0) ∧ w'.cell? ⟨qC, 0, none⟩ = some (.int .i64 2) ∧ w'.cell? ⟨qC, 1, none⟩ = some (.int .i64 0) ∧ w'.cell? ⟨qC, 2, none⟩ = some (.bool false) ∧ w'.cell? ⟨qC, 3, none⟩ = some (.int .i64 n1) ∧ w'.cell? ⟨qD, 0, none⟩ = some (.int .i64 3) ∧ w'.cell? ⟨qD, 1, none⟩ = some (.int .i64 0) ∧ w'.cell? ⟨qD, 2, none⟩ = some (.bool false) ∧ w'.cell? ⟨qD, 3, none⟩ = some (.int .i64 n2) ∧ Keep 0 0 V w')
      (first | (with_reducible assumption) | (refine HS.out ?_ _ ?_ ?_; rotate_right; (with_reducible assumption); (with_reducible assumption)) | (exact HS.out V _ ⟨xE0, xE1, xE2, xE3, xF0, xF1, xF2, xF3, xC0, xC1, xC2, xC3, xD0, xD1, xD2, xD3, Keep.refl 0 0 V⟩ (Keep.refl 0 0 V).drew) | fail)
      (first
        | (go_at_call 20; refine (implExitText_any _ _ _ _ (by omega) (by omega) (by omega) (by omega) _ ?_).mono ?_; (refine HV.out _ ?_; with_reducible assumption); (rintro e w2 ⟨rfl, k2⟩))
        | (go_at_call 21; refine (specExitText_any _ _ _ _ (by omega) (by omega) (by omega) (by omega) _).mono ?_; (rintro e w2 ⟨rfl, k2⟩))
        | (go_at_call 18; refine (implExitOk_any _ _ _ _ _).mono ?_; rintro e w2 ⟨rfl, k2⟩)
        | (go_at_call 19; refine (specExitOk_any _ _ _ _ _).mono ?_; rintro e w2 ⟨rfl, k2⟩)
        | (go_at_call 22; refine (implExitName_any _ _).mono ?_; rintro e w2 ⟨rfl, k2⟩)
        | (go_at_call 23; refine (specExitName_any _ _).mono ?_; rintro e w2 ⟨rfl, k2⟩)
        | (go_at_call 15; refine (specFaultExit_any _ _ _).mono ?_; rintro e w2 ⟨rfl, k2⟩)
        | (go_at_call 16; refine (specCallExit_any _ _).mono ?_; rintro e w2 ⟨rfl, k2⟩)
        | (go_at_call 17; refine (specOutExit_any _ _).mono ?_; rintro e w2 ⟨rfl, k2⟩)
        | fail)) | fail
    obtain ⟨_, _, _, _, _, _, _, _, _, _, _, _, _, _, _, _, K9⟩ : w2.cell? ⟨qE, 0, none⟩ = some (.int .i64 ek) ∧ w2.cell? ⟨qE, 1, none⟩ = some (.int .i64 ep) ∧ w2.cell? ⟨qE, 2, none⟩ = some (.bool eb) ∧ w2.cell? ⟨qE, 3, none⟩ = some (.int .i64 en) ∧ w2.cell? ⟨qF, 0, none⟩ = some (.int .i64 1) ∧ w2.cell? ⟨qF, 1, none⟩ = some (.int .i64 p) ∧ w2.cell? ⟨qF, 2, none⟩ = some (.bool b) ∧ w2.cell? ⟨qF, 3, none⟩ = some (.int .i64 0) ∧ w2.cell? ⟨qC, 0, none⟩ = some (.int .i64 2) ∧ w2.cell? ⟨qC, 1, none⟩ = some (.int .i64 0) ∧ w2.cell? ⟨qC, 2, none⟩ = some (.bool false) ∧ w2.cell? ⟨qC, 3, none⟩ = some (.int .i64 n1) ∧ w2.cell? ⟨qD, 0, none⟩ = some (.int .i64 3) ∧ w2.cell? ⟨qD, 1, none⟩ = some (.int .i64 0) ∧ w2.cell? ⟨qD, 2, none⟩ = some (.bool false) ∧ w2.cell? ⟨qD, 3, none⟩ = some (.int .i64 n2) ∧ Keep 0 0 V w2 := by with_reducible assumption
    go_wp2
    go_ret
    exact ⟨rfl, (KV.out.tr0 K9).below⟩
  · skip
    have g0 : decide (0 ≤ p) = false := by simp; omega
    have g2 : exitOkT 1 p b 0 = false := okf_low (by omega)
    have h0 : decide (0 ≤ n1) = true := by simp; omega
    have h2 : exitOkT 2 0 false n1 = decide (n1 ≤ 99) := okc_dec (by omega)
    first | (go_region_held (fun w' => w'.cell? ⟨qE, 0, none⟩ = some (.int .i64 ek) ∧ w'.cell? ⟨qE, 1, none⟩ = some (.int .i64 ep) ∧ w'.cell? ⟨qE, 2, none⟩ = some (.bool eb) ∧ w'.cell? ⟨qE, 3, none⟩ = some (.int .i64 en) ∧ w'.cell? ⟨qF, 0, none⟩ = some (.int .i64 1) ∧ w'.cell? ⟨qF, 1, none⟩ = some (.int .i64 p) ∧ w'.cell? ⟨qF, 2, none⟩ = some (.bool b) ∧ w'.cell? ⟨qF, 3, none⟩ = some (.int .i64 0) ∧ w'.cell? ⟨qC, 0, none⟩ = some (.int .i64 2) ∧ w'.cell? ⟨qC, 1, none⟩ = some (.int .i64 0) ∧ w'.cell? ⟨qC, 2, none⟩ = some (.bool false) ∧ w'.cell? ⟨qC, 3, none⟩ = some (.int .i64 n1) ∧ w'.cell? ⟨qD, 0, none⟩ = some (.int .i64 3) ∧ w'.cell? ⟨qD, 1, none⟩ = some (.int .i64 0) ∧ w'.cell? ⟨qD, 2, none⟩ = some (.bool false) ∧ w'.cell? ⟨qD, 3, none⟩ = some (.int .i64 n2) ∧ Keep 0 0 V w')
      (first | (with_reducible assumption) | (refine HS.out ?_ _ ?_ ?_; rotate_right; (with_reducible assumption); (with_reducible assumption)) | (exact HS.out V _ ⟨xE0, xE1, xE2, xE3, xF0, xF1, xF2, xF3, xC0, xC1, xC2, xC3, xD0, xD1, xD2, xD3, Keep.refl 0 0 V⟩ (Keep.refl 0 0 V).drew) | fail)
      (first
        | (go_at_call 20; refine (implExitText_any _ _ _ _ (by omega) (by omega) (by omega) (by omega) _ ?_).mono ?_; (refine HV.out _ ?_; with_reducible assumption); (rintro e w2 ⟨rfl, k2⟩))
        | (go_at_call 21; refine (specExitText_any _ _ _ _ (by omega) (by omega) (by omega) (by omega) _).mono ?_; (rintro e w2 ⟨rfl, k2⟩))
        | (go_at_call 18; refine (implExitOk_any _ _ _ _ _).mono ?_; rintro e w2 ⟨rfl, k2⟩)
        | (go_at_call 19; refine (specExitOk_any _ _ _ _ _).mono ?_; rintro e w2 ⟨rfl, k2⟩)
        | (go_at_call 22; refine (implExitName_any _ _).mono ?_; rintro e w2 ⟨rfl, k2⟩)
        | (go_at_call 23; refine (specExitName_any _ _).mono ?_; rintro e w2 ⟨rfl, k2⟩)
        | (go_at_call 15; refine (specFaultExit_any _ _ _).mono ?_; rintro e w2 ⟨rfl, k2⟩)
        | (go_at_call 16; refine (specCallExit_any _ _).mono ?_; rintro e w2 ⟨rfl, k2⟩)
        | (go_at_call 17; refine (specOutExit_any _ _).mono ?_; rintro e w2 ⟨rfl, k2⟩)
        | fail)) | fail
    obtain ⟨_, _, _, _, _, _, _, _, _, _, _, _, _, _, _, _, K9⟩ : w2.cell? ⟨qE, 0, none⟩ = some (.int .i64 ek) ∧ w2.cell? ⟨qE, 1, none⟩ = some (.int .i64 ep) ∧ w2.cell? ⟨qE, 2, none⟩ = some (.bool eb) ∧ w2.cell? ⟨qE, 3, none⟩ = some (.int .i64 en) ∧ w2.cell? ⟨qF, 0, none⟩ = some (.int .i64 1) ∧ w2.cell? ⟨qF, 1, none⟩ = some (.int .i64 p) ∧ w2.cell? ⟨qF, 2, none⟩ = some (.bool b) ∧ w2.cell? ⟨qF, 3, none⟩ = some (.int .i64 0) ∧ w2.cell? ⟨qC, 0, none⟩ = some (.int .i64 2) ∧ w2.cell? ⟨qC, 1, none⟩ = some (.int .i64 0) ∧ w2.cell? ⟨qC, 2, none⟩ = some (.bool false) ∧ w2.cell? ⟨qC, 3, none⟩ = some (.int .i64 n1) ∧ w2.cell? ⟨qD, 0, none⟩ = some (.int .i64 3) ∧ w2.cell? ⟨qD, 1, none⟩ = some (.int .i64 0) ∧ w2.cell? ⟨qD, 2, none⟩ = some (.bool false) ∧ w2.cell? ⟨qD, 3, none⟩ = some (.int .i64 n2) ∧ Keep 0 0 V w2 := by with_reducible assumption
    go_wp2
    go_ret
    exact ⟨rfl, (KV.out.tr0 K9).below⟩
  · skip
    have g0 : decide (0 ≤ p) = true := by simp; omega
    have g2 : exitOkT 1 p b 0 = decide (p ≤ 3) := okf_dec (by omega)
    have h0 : decide (0 ≤ n1) = false := by simp; omega
    have h2 : exitOkT 2 0 false n1 = false := okc_low (by omega)
    first | (go_region_held (fun w' => w'.cell? ⟨qE, 0, none⟩ = some (.int .i64 ek) ∧ w'.cell? ⟨qE, 1, none⟩ = some (.int .i64 ep) ∧ w'.cell? ⟨qE, 2, none⟩ = some (.bool eb) ∧ w'.cell? ⟨qE, 3, none⟩ = some (.int .i64 en) ∧ w'.cell? ⟨qF, 0, none⟩ = some (.int .i64 1) ∧ w'.cell? ⟨qF, 1, none⟩ = some (.int .i64 p) ∧ w'.cell? ⟨qF, 2, none⟩ = some (.bool b) ∧ w'.cell? ⟨qF, 3, none⟩ = some (.int .i64 0) ∧ w'.cell? ⟨qC, 0, none⟩ = some (.int .i64 2) ∧ w'.cell? ⟨qC, 1, none⟩ = some (.int .i64 0) ∧ w'.cell? ⟨qC, 2, none⟩ = some (.bool false) ∧ w'.cell? ⟨qC, 3, none⟩ = some (.int .i64 n1) ∧ w'.cell? ⟨qD, 0, none⟩ = some (.int .i64 3) ∧ w'.cell? ⟨qD, 1, none⟩ = some (.int .i64 0) ∧ w'.cell? ⟨qD, 2, none⟩ = some (.bool false) ∧ w'.cell? ⟨qD, 3, none⟩ = some (.int .i64 n2) ∧ Keep 0 0 V w')
      (first | (with_reducible assumption) | (refine HS.out ?_ _ ?_ ?_; rotate_right; (with_reducible assumption); (with_reducible assumption)) | (exact HS.out V _ ⟨xE0, xE1, xE2, xE3, xF0, xF1, xF2, xF3, xC0, xC1, xC2, xC3, xD0, xD1, xD2, xD3, Keep.refl 0 0 V⟩ (Keep.refl 0 0 V).drew) | fail)
      (first
        | (go_at_call 20; refine (implExitText_any _ _ _ _ (by omega) (by omega) (by omega) (by omega) _ ?_).mono ?_; (refine HV.out _ ?_; with_reducible assumption); (rintro e w2 ⟨rfl, k2⟩))
        | (go_at_call 21; refine (specExitText_any _ _ _ _ (by omega) (by omega) (by omega) (by omega) _).mono ?_; (rintro e w2 ⟨rfl, k2⟩))
        | (go_at_call 18; refine (implExitOk_any _ _ _ _ _).mono ?_; rintro e w2 ⟨rfl, k2⟩)
        | (go_at_call 19; refine (specExitOk_any _ _ _ _ _).mono ?_; rintro e w2 ⟨rfl, k2⟩)
        | (go_at_call 22; refine (implExitName_any _ _).mono ?_; rintro e w2 ⟨rfl, k2⟩)
        | (go_at_call 23; refine (specExitName_any _ _).mono ?_; rintro e w2 ⟨rfl, k2⟩)
        | (go_at_call 15; refine (specFaultExit_any _ _ _).mono ?_; rintro e w2 ⟨rfl, k2⟩)
        | (go_at_call 16; refine (specCallExit_any _ _).mono ?_; rintro e w2 ⟨rfl, k2⟩)
        | (go_at_call 17; refine (specOutExit_any _ _).mono ?_; rintro e w2 ⟨rfl, k2⟩)
        | fail)) | fail
    obtain ⟨_, _, _, _, _, _, _, _, _, _, _, _, _, _, _, _, K9⟩ : w2.cell? ⟨qE, 0, none⟩ = some (.int .i64 ek) ∧ w2.cell? ⟨qE, 1, none⟩ = some (.int .i64 ep) ∧ w2.cell? ⟨qE, 2, none⟩ = some (.bool eb) ∧ w2.cell? ⟨qE, 3, none⟩ = some (.int .i64 en) ∧ w2.cell? ⟨qF, 0, none⟩ = some (.int .i64 1) ∧ w2.cell? ⟨qF, 1, none⟩ = some (.int .i64 p) ∧ w2.cell? ⟨qF, 2, none⟩ = some (.bool b) ∧ w2.cell? ⟨qF, 3, none⟩ = some (.int .i64 0) ∧ w2.cell? ⟨qC, 0, none⟩ = some (.int .i64 2) ∧ w2.cell? ⟨qC, 1, none⟩ = some (.int .i64 0) ∧ w2.cell? ⟨qC, 2, none⟩ = some (.bool false) ∧ w2.cell? ⟨qC, 3, none⟩ = some (.int .i64 n1) ∧ w2.cell? ⟨qD, 0, none⟩ = some (.int .i64 3) ∧ w2.cell? ⟨qD, 1, none⟩ = some (.int .i64 0) ∧ w2.cell? ⟨qD, 2, none⟩ = some (.bool false) ∧ w2.cell? ⟨qD, 3, none⟩ = some (.int .i64 n2) ∧ Keep 0 0 V w2 := by with_reducible assumption
    go_wp2
    go_ret
    exact ⟨rfl, (KV.out.tr0 K9).below⟩
  · skip
    have g0 : decide (0 ≤ p) = true := by simp; omega
    have g2 : exitOkT 1 p b 0 = decide (p ≤ 3) := okf_dec (by omega)
    have h0 : decide (0 ≤ n1) = true := by simp; omega
    have h2 : exitOkT 2 0 false n1 = decide (n1 ≤ 99) := okc_dec (by omega)
    first | (go_region_held3 (fun w' => w'.cell? ⟨qE, 0, none⟩ = some (.int .i64 ek) ∧ w'.cell? ⟨qE, 1, none⟩ = some (.int .i64 ep) ∧ w'.cell? ⟨qE, 2, none⟩ = some (.bool eb) ∧ w'.cell? ⟨qE, 3, none⟩ = some (.int .i64 en) ∧ w'.cell? ⟨qF, 0, none⟩ = some (.int .i64 1) ∧ w'.cell? ⟨qF, 1, none⟩ = some (.int .i64 p) ∧ w'.cell? ⟨qF, 2, none⟩ = some (.bool b) ∧ w'.cell? ⟨qF, 3, none⟩ = some (.int .i64 0) ∧ w'.cell? ⟨qC, 0, none⟩ = some (.int .i64 2) ∧ w'.cell? ⟨qC, 1, none⟩ = some (.int .i64 0) ∧ w'.cell? ⟨qC, 2, none⟩ = some (.bool false) ∧ w'.cell? ⟨qC, 3, none⟩ = some (.int .i64 n1) ∧ w'.cell? ⟨qD, 0, none⟩ = some (.int .i64 3) ∧ w'.cell? ⟨qD, 1, none⟩ = some (.int .i64 0) ∧ w'.cell? ⟨qD, 2, none⟩ = some (.bool false) ∧ w'.cell? ⟨qD, 3, none⟩ = some (.int .i64 n2) ∧ Keep 0 0 V w')
      (first | (with_reducible assumption) | (refine HS.out ?_ _ ?_ ?_; rotate_right; (with_reducible assumption); (with_reducible assumption)) | (exact HS.out V _ ⟨xE0, xE1, xE2, xE3, xF0, xF1, xF2, xF3, xC0, xC1, xC2, xC3, xD0, xD1, xD2, xD3, Keep.refl 0 0 V⟩ (Keep.refl 0 0 V).drew) | fail)
      (first
        | (go_at_call 20; refine (implExitText_any _ _ _ _ (by omega) (by omega) (by omega) (by omega) _ ?_).mono ?_; (refine HV.out _ ?_; with_reducible assumption); (rintro e w2 ⟨rfl, k2⟩))
        | (go_at_call 21; refine (specExitText_any _ _ _ _ (by omega) (by omega) (by omega) (by omega) _).mono ?_; (rintro e w2 ⟨rfl, k2⟩))
        | (go_at_call 18; refine (implExitOk_any _ _ _ _ _).mono ?_; rintro e w2 ⟨rfl, k2⟩)
        | (go_at_call 19; refine (specExitOk_any _ _ _ _ _).mono ?_; rintro e w2 ⟨rfl, k2⟩)
        | (go_at_call 22; refine (implExitName_any _ _).mono ?_; rintro e w2 ⟨rfl, k2⟩)
        | (go_at_call 23; refine (specExitName_any _ _).mono ?_; rintro e w2 ⟨rfl, k2⟩)
        | (go_at_call 15; refine (specFaultExit_any _ _ _).mono ?_; rintro e w2 ⟨rfl, k2⟩)
        | (go_at_call 16; refine (specCallExit_any _ _).mono ?_; rintro e w2 ⟨rfl, k2⟩)
        | (go_at_call 17; refine (specOutExit_any _ _).mono ?_; rintro e w2 ⟨rfl, k2⟩)
        | fail)) | fail
    obtain ⟨_, _, _, _, _, _, _, _, _, _, _, _, _, _, _, _, K9⟩ : w2.cell? ⟨qE, 0, none⟩ = some (.int .i64 ek) ∧ w2.cell? ⟨qE, 1, none⟩ = some (.int .i64 ep) ∧ w2.cell? ⟨qE, 2, none⟩ = some (.bool eb) ∧ w2.cell? ⟨qE, 3, none⟩ = some (.int .i64 en) ∧ w2.cell? ⟨qF, 0, none⟩ = some (.int .i64 1) ∧ w2.cell? ⟨qF, 1, none⟩ = some (.int .i64 p) ∧ w2.cell? ⟨qF, 2, none⟩ = some (.bool b) ∧ w2.cell? ⟨qF, 3, none⟩ = some (.int .i64 0) ∧ w2.cell? ⟨qC, 0, none⟩ = some (.int .i64 2) ∧ w2.cell? ⟨qC, 1, none⟩ = some (.int .i64 0) ∧ w2.cell? ⟨qC, 2, none⟩ = some (.bool false) ∧ w2.cell? ⟨qC, 3, none⟩ = some (.int .i64 n1) ∧ w2.cell? ⟨qD, 0, none⟩ = some (.int .i64 3) ∧ w2.cell? ⟨qD, 1, none⟩ = some (.int .i64 0) ∧ w2.cell? ⟨qD, 2, none⟩ = some (.bool false) ∧ w2.cell? ⟨qD, 3, none⟩ = some (.int .i64 n2) ∧ Keep 0 0 V w2 := by with_reducible assumption
    go_wp2
    go_ret
    exact ⟨rfl, (KV.out.tr0 K9).below⟩

theorem door_met (os : Os) (args : Array Value) : laidMetH Tryd.prog Rows.fnExitsRow.laid ((World.doorLaid Tryd.prog 400 os).forCall (fun _ _ => 0) ⟨#[], args, []⟩).memory :=
  laidMetH_of_parts3 (fuel := 8) (laidMet_of_run' 8 (by kernel_rfl) (by kernel_rfl)) (by kernel_rfl) (by kernel_rfl)
set_option maxRecDepth 100000 in
theorem lifted (os : Os) (started : os.Started) (H : Type) (enc : TypeId × Value → H) :
    ReturnsInHanded {} Tryd.checked os 3 .any (fun w args => (Rows.fnExitsSpec.pre enc Tryd.prog Tryd.f3 Rows.fnExitsRow.domain false w args ∧ laidMetH Tryd.prog Rows.fnExitsRow.laid w) ∧ sizedMet enc Tryd.prog Tryd.f3 (OpenSpec.ofChange Rows.fnExitsSpec) false w args)
      (Rows.fnExitsSpec.post enc Tryd.prog Tryd.f3 false true false false) := by
  refine returnsInHanded_of_change_and (C := Tryd.checked) (X := fun w _ => laidMetH Tryd.prog Rows.fnExitsRow.laid w) (fun _ _ _ hh h => h.of_heap hh) own started (by kernel_rfl) Tryd.func3
    (ChangeSpec.witness_shaped (enc := enc) (C := Tryd.checked) (os := os) (X := fun w _ => laidMetH Tryd.prog Rows.fnExitsRow.laid w) false (World.doorLaid Tryd.prog 400 os) #[.slice none 0 0] 8 rfl (World.shaped_of_RefB (by kernel_rfl) (by kernel_rfl)) (by kernel_rfl) (by kernel_rfl) (by kernel_rfl) (door_met os _)) ?_
  intro W base args ds gs before hval0 hW _ _ hL _
  have ht := table hL
  have hval : ∀ (j : Nat) t v, Tryd.f3.params[j]? = some t → args[j]? = some v → Value.okWide Tryd.prog W .any base t v := hval0
  have hW' := hW
  obtain ⟨p, q, hA0, hV, rfl, hfz, hnd⟩ := hW
  have hA : DataW.TrodAll enc Tryd.prog W 0 (fun _ => true) true Tryd.f3.params.toList args.toList ds p := hA0
  rw [Tryd.params3] at hA hval
  obtain ⟨v0, vs0, d0, ds0, p0, q0, hargs, rfl, rfl, h0, r0⟩ := trodAll_cons hA
  obtain ⟨rfl, rfl, rfl⟩ := trodAll_nil r0
  obtain rfl : args = #[v0] := by cases args; simp_all
  obtain ⟨rfl, rfl⟩ := trodVars_none hV
  have k0 := h0
  have lt0 : ∀ x ∈ p0, x.block < W.heap.size := by obtain ⟨m, hm⟩ := k0; exact DataW.trod_lt m _ _ _ hm
  obtain ⟨A0, n0, cap0, rfl⟩ := okWide_slice Tryd.underlying22 (hval 0 22 v0 rfl rfl)
  obtain ⟨xs0, rb0, hl0⟩ := open_byts Tryd.underlying22 Tryd.underlying5 (by kernel_rfl) h0
  clear hA0 hval0
  refine (walk W A0 n0 cap0 xs0 rb0 hl0 ht).mono fun e W' ⟨he, bel⟩ => ?_
  subst he
  exact ⟨_, rfl, _, _, _, [], _, [], hW', trodAll_mk1 (shut_bool Tryd.underlying4 _), (trodAll_cons_mk (Below.trod laidOut (by kernel_rfl) (of_decide_eq_true (by kernel_rfl)) k0 bel lt0) trodAll_mk0), rfl, bel.frame _, fun h => by cases h⟩

theorem over : Rows.fnExitsRow.holds Tryd.pinned (OpenSpec.ofChange Rows.fnExitsSpec) :=
  OpenClaim.holds_of_wide 3 Tryd.f3 rfl rfl rfl rfl rfl rfl rfl ⟨rfl, rfl, rfl, rfl, rfl⟩ rfl rfl rfl rfl rfl (by kernel_rfl) Tryd.func3 (by kernel_rfl)
    (of_decide_eq_true (by kernel_rfl)) (by unfold Func.isWrapper; first | (rw [if_pos (by decide +kernel)]; kernel_rfl) | (rw [if_neg (by decide +kernel)]; exact ⟨rfl, rfl⟩))
    (fun os started H enc _ => lifted os started H enc)

theorem plain (f : FuncId) (fn : Func) (hf : Tryd.pinned.checked.prog.funcNamed "loop.example/g00975/laws.FnExits" = some f) (hfn : Tryd.pinned.checked.prog.funcs[f]? = some fn) :
    false = Tryd.pinned.checked.prog.looks [] ∧ ∀ (j : Nat) t, fn.params[j]? = some t → Tryd.pinned.checked.prog.wantsStandIn t = false := by
  obtain rfl : f = 3 := Option.some.inj ((show Tryd.prog.funcNamed "loop.example/g00975/laws.FnExits" = some 3 by kernel_rfl).symm.trans hf) |>.symm
  obtain rfl : fn = Tryd.f3 := (Option.some.inj (Tryd.func3.symm.trans hfn)).symm
  refine ⟨by kernel_rfl, fun j t ht => ?_⟩
  rw [Tryd.params3] at ht
  have hall : ([22].all fun u => !Tryd.prog.wantsStandIn u) = true := by kernel_rfl
  have hm : t ∈ [22] := by simpa using Array.mem_of_getElem? ht
  exact (show Tryd.prog.wantsStandIn t = false by simpa using List.all_eq_true.1 hall t hm)
/-- The given statement: the card. -/
theorem proved : Rows.FnExitsCardSaid :=
  Claim7.holds_tied_plain_at .later [] _ _ _ _ over (fun _ h => by cases h) (by kernel_rfl) (fun _ h => by cases h) fnExits_row_tie rfl ⟨rfl, rfl⟩ (by kernel_rfl) rfl plain (by kernel_rfl)

end Go.Proofs.YtdlcchoemladnaaDoor.fnExits
