/-
  For every draw: the last entry that was put for a page is found, a buffer keeps at most six entries and no duplicates; the program's functions on buffers are the reference's. No condition.
-/
import Derived.Test.YtcoipfnphmealaaRows
import Derived.WalkKit
import Derived.ProofKit
import Derived.OpenShut
import Derived.ShutString
import Derived.ChangeOld
import Derived.Below
import Derived.Lib.SmallJoins
import Derived.WalkSpells
import Derived.Test.YtcoipfnphmealaaPlc
import Derived.Test.YtcoipfnphmealaaOpen
import Derived.Test.YtcoipfnphmealaaOne
import Derived.Test.YtcoipfnphmealaaSix
import Derived.Test.YtcoipfnphmealaaTgm
import Derived.Test.YtcoipfnphmealaaBuE
import Derived.Test.YtcoipfnphmealaaSamE
import Derived.Test.YtcoipfnphmealaaTag
import Derived.Test.YtcoipfnphmealaaBuf
import Derived.Handy
import Derived.Deep.QuietTactic
import Derived.BigQuiet
import Derived.Deep.RegionHeld3
import Derived.Deep.Cut
namespace Go.Proofs.Ytcoipfnphmealaa.fnBuffer
open Go.ChangeShapes Go.WideShapes Go.ChangeAt Go.RowKit
set_option linter.unusedVariables false

theorem own : ownKnob Try.prog.godebug = none := by kernel_rfl
theorem laidOut : laidOutB Try.prog = true := by kernel_rfl

set_option maxRecDepth 100000 in
set_option maxHeartbeats 16000000 in
theorem walk (w : World) (A : Option Addr) (n c : Nat) (xs : List Int) (rb : Rd w w.heap.size 1 (.slice A n c) (byts xs)) (hl : xs.length = n) :
    Calls Try.prog 3 #[.slice A n c] w fun e w' => e = .returned (.bool true) ∧ Below w.heap.size w w' := by
  have hc9 : n ≤ 9223372036854775807 := by obtain ⟨_, _, _, e, h1, h2, _⟩ := rb; injection e with _ e2 e3; unfold maxLen at h2; omega
  clear hl
  rcases Bool.eq_false_or_eq_true (bigT n) with hbig | hbig
  · go_enter Try.func3, Try.ntmps3
    go_wp2_with fail
    refine (big_any A n c hc9 _).mono ?_
    rintro e w' ⟨rfl, rfl⟩
    rw [hbig]
    go_wp2
    go_ret
    exact ⟨rfl, Below.refl _ _⟩
  go_enter Try.func3, Try.ntmps3
  go_wp2_with fail
  refine (big_any A n c hc9 _).mono ?_
  rintro e w' ⟨rfl, rfl⟩
  rw [hbig]
  clear hbig
  go_wp2_with fail
  have K0 := Keep.refl 0 0 w
  have RB0 := rb
  refine (DrawPutEntry_any _ _ xs RB0).mono ?_
  rintro e W1 ⟨b, l, x0, x1, x2, x3, rfl, hl8, r1, k1⟩
  have K1 := K0.tr0 k1
  have RB1 := (RB0.keep k1 (Nat.le_refl _) (.inr (Nat.le_refl 0))).mono k1.size
  clear K0 k1 RB0
  have RL := Lib.hid r1
  clear r1
  obtain ⟨B, cb, rfl, hcb, hcb9⟩ := len_of_rowE RL.out
  have hl9 : l.length ≤ 9223372036854775807 := by omega
  obtain ⟨W2, hW2⟩ : ∃ W2, W2 = W1.alloc (.cells #[.int .i64 x0, .int .i64 x1, .int .i64 x2, .int .i64 x3] 26) := ⟨_, rfl⟩
  have k2 : Keep 0 0 W1 W2 := by rw [hW2]; exact keep_1 W1 _
  have K2 := K1.tr0 k2
  have RB2 := (RB1.keep k2 (Nat.le_refl _) (.inr (Nat.le_refl 0))).mono k2.size
  replace RL := Lib.hid ((RL.out.keep k2 (.inr (.inr (Nat.le_refl 0)))).mono (Nat.le_refl _) k2.size)
  clear K1 k2 RB1
  have BE := Lib.hid (show Lo W2 W1.heap.size 26 #[.int .i64 x0, .int .i64 x1, .int .i64 x2, .int .i64 x3] by rw [hW2]; exact Lo.new W1 26 #[.int .i64 x0, .int .i64 x1, .int .i64 x2, .int .i64 x3] rfl)
  go_wp2_with fail
  rw [← hW2]
  clear hW2
  generalize W1.heap.size = qE at BE ⊢
  refine (implPutEntry_any W2 _ _ l x0 x1 x2 x3 RL.out.rd (Nat.le_refl _) (by omega)).mono ?_
  rintro e W3 ⟨vx, rfl, r3, k3⟩
  have K3 := K2.tr0 k3
  have RB3 := (RB2.keep k3 (Nat.le_refl _) (.inr (Nat.le_refl 0))).mono k3.size
  replace BE := Lib.hid (BE.out.keep0 k3)
  replace RL := Lib.hid ((RL.out.keep k3 (.inr (.inr (Nat.le_refl 0)))).mono (Nat.le_refl _) k3.size)
  clear K2 k3 RB2
  have RX := Lib.hid r3
  clear r3
  obtain ⟨BX, cx, rfl, hcx, hcx9⟩ := len_of_rowE RX.out
  obtain ⟨xE0, xE1, xE2, xE3, _⟩ := BE.out.c4
  go_wp2_with fail
  clear xE0 xE1 xE2 xE3
  refine (specPutEntry_any W3 _ _ l x0 x1 x2 x3 RL.out.rd (Nat.le_refl _) (by omega)).mono ?_
  rintro e W4 ⟨vy, rfl, r4, k4⟩
  have K4 := K3.tr0 k4
  have RB4 := (RB3.keep k4 (Nat.le_refl _) (.inr (Nat.le_refl 0))).mono k4.size
  replace BE := Lib.hid (BE.out.keep0 k4)
  replace RL := Lib.hid ((RL.out.keep k4 (.inr (.inr (Nat.le_refl 0)))).mono (Nat.le_refl _) k4.size)
  replace RX := Lib.hid ((RX.out.keep k4 (.inr (.inr (Nat.le_refl 0)))).mono (Nat.le_refl _) k4.size)
  clear K3 k4 RB3
  have RY := Lib.hid r4
  clear r4
  obtain ⟨xE0, xE1, xE2, xE3, _⟩ := BE.out.c4
  go_wp2_with fail
  clear xE0 xE1 xE2 xE3
  refine (sameEntrys_eq W4 _ _ _ _ _ RX.out.rd RY.out.rd).mono ?_
  rintro e W5 ⟨rfl, d5⟩
  have k5 := d5.keep 0 0
  have K5 := K4.tr0 k5
  have RB5 := (RB4.keep k5 (Nat.le_refl _) (.inr (Nat.le_refl 0))).mono k5.size
  replace BE := Lib.hid (BE.out.keep0 k5)
  replace RL := Lib.hid ((RL.out.keep k5 (.inr (.inr (Nat.le_refl 0)))).mono (Nat.le_refl _) k5.size)
  replace RX := Lib.hid ((RX.out.keep k5 (.inr (.inr (Nat.le_refl 0)))).mono (Nat.le_refl _) k5.size)
  replace RY := Lib.hid ((RY.out.keep k5 (.inr (.inr (Nat.le_refl 0)))).mono (Nat.le_refl _) k5.size)
  clear K4 k5 RB4
  clear RY
  obtain ⟨xE0, xE1, xE2, xE3, _⟩ := BE.out.c4
  go_wp2_with fail
  clear xE0 xE1 xE2 xE3
  refine (implBufferOk_any W5 _ _ l RL.out.rd (by omega)).mono ?_
  rintro e W6 ⟨rfl, k6⟩
  have K6 := K5.tr0 k6
  have RB6 := (RB5.keep k6 (Nat.le_refl _) (.inr (Nat.le_refl 0))).mono k6.size
  replace BE := Lib.hid (BE.out.keep0 k6)
  replace RL := Lib.hid ((RL.out.keep k6 (.inr (.inr (Nat.le_refl 0)))).mono (Nat.le_refl _) k6.size)
  replace RX := Lib.hid ((RX.out.keep k6 (.inr (.inr (Nat.le_refl 0)))).mono (Nat.le_refl _) k6.size)
  clear K5 k6 RB5
  obtain ⟨xE0, xE1, xE2, xE3, _⟩ := BE.out.c4
  go_wp2_with fail
  clear xE0 xE1 xE2 xE3
  refine (specBufferOk_any W6 _ _ l RL.out.rd (by omega)).mono ?_
  rintro e W7 ⟨rfl, d7⟩
  have k7 := d7.keep 0 0
  have K7 := K6.tr0 k7
  have RB7 := (RB6.keep k7 (Nat.le_refl _) (.inr (Nat.le_refl 0))).mono k7.size
  replace BE := Lib.hid (BE.out.keep0 k7)
  replace RL := Lib.hid ((RL.out.keep k7 (.inr (.inr (Nat.le_refl 0)))).mono (Nat.le_refl _) k7.size)
  replace RX := Lib.hid ((RX.out.keep k7 (.inr (.inr (Nat.le_refl 0)))).mono (Nat.le_refl _) k7.size)
  clear K6 k7 RB6
  obtain ⟨xE0, xE1, xE2, xE3, _⟩ := BE.out.c4
  go_wp2_with fail
  clear xE0 xE1 xE2 xE3
  refine (DrawFindEntry_any _ _ xs RB7).mono ?_
  rintro e W8 ⟨vc, lc, tg, pg, rfl, hc8, r8, k8⟩
  have K8 := K7.tr0 k8
  have RB8 := (RB7.keep k8 (Nat.le_refl _) (.inr (Nat.le_refl 0))).mono k8.size
  replace BE := Lib.hid (BE.out.keep0 k8)
  replace RL := Lib.hid ((RL.out.keep k8 (.inr (.inr (Nat.le_refl 0)))).mono (Nat.le_refl _) k8.size)
  replace RX := Lib.hid ((RX.out.keep k8 (.inr (.inr (Nat.le_refl 0)))).mono (Nat.le_refl _) k8.size)
  clear K7 k8 RB7
  have RC := Lib.hid r8
  clear r8
  clear RB8
  obtain ⟨f0, f1, f2, f3, hf⟩ : ∃ f0 f1 f2 f3, findT lc tg pg = (f0, f1, f2, f3) := ⟨_, _, _, _, rfl⟩
  have HF := Lib.hid hf
  clear hf
  obtain ⟨ok, hok⟩ : ∃ ok, hasE lc tg pg = ok := ⟨_, rfl⟩
  have HK := Lib.hid hok
  clear hok
  obtain ⟨xE0, xE1, xE2, xE3, _⟩ := BE.out.c4
  go_wp2_with fail
  clear xE0 xE1 xE2 xE3
  refine (implFindEntry_to W8 _ _ lc tg pg RC.out.rd (by omega) f0 f1 f2 f3 ok HF.out HK.out).mono ?_
  rintro e W9 ⟨rfl, k9⟩
  have K9 := K8.tr0 k9
  replace BE := Lib.hid (BE.out.keep0 k9)
  replace RL := Lib.hid ((RL.out.keep k9 (.inr (.inr (Nat.le_refl 0)))).mono (Nat.le_refl _) k9.size)
  replace RX := Lib.hid ((RX.out.keep k9 (.inr (.inr (Nat.le_refl 0)))).mono (Nat.le_refl _) k9.size)
  replace RC := Lib.hid ((RC.out.keep k9 (.inr (.inr (Nat.le_refl 0)))).mono (Nat.le_refl _) k9.size)
  clear K8 k9
  obtain ⟨W10, hW10⟩ : ∃ W10, W10 = W9.alloc (.cells #[.int .i64 f0, .int .i64 f1, .int .i64 f2, .int .i64 f3] 26) := ⟨_, rfl⟩
  have k10 : Keep 0 0 W9 W10 := by rw [hW10]; exact keep_1 W9 _
  have K10 := K9.tr0 k10
  replace BE := Lib.hid (BE.out.keep0 k10)
  replace RL := Lib.hid ((RL.out.keep k10 (.inr (.inr (Nat.le_refl 0)))).mono (Nat.le_refl _) k10.size)
  replace RX := Lib.hid ((RX.out.keep k10 (.inr (.inr (Nat.le_refl 0)))).mono (Nat.le_refl _) k10.size)
  replace RC := Lib.hid ((RC.out.keep k10 (.inr (.inr (Nat.le_refl 0)))).mono (Nat.le_refl _) k10.size)
  clear K9 k10
  have BF := Lib.hid (show Lo W10 W9.heap.size 26 #[.int .i64 f0, .int .i64 f1, .int .i64 f2, .int .i64 f3] by rw [hW10]; exact Lo.new W9 26 #[.int .i64 f0, .int .i64 f1, .int .i64 f2, .int .i64 f3] rfl)
  obtain ⟨xE0, xE1, xE2, xE3, _⟩ := BE.out.c4
  rw [hW10] at xE0 xE1 xE2 xE3
  go_wp2_with fail
  clear xE0 xE1 xE2 xE3
  rw [← hW10]
  clear hW10
  generalize W9.heap.size = qF at BF ⊢
  refine (specFindEntry_to W10 _ _ lc tg pg RC.out.rd (by omega) f0 f1 f2 f3 ok HF.out HK.out).mono ?_
  rintro e W11 ⟨rfl, k11⟩
  have K11 := K10.tr0 k11
  replace BE := Lib.hid (BE.out.keep0 k11)
  replace BF := Lib.hid (BF.out.keep0 k11)
  replace RL := Lib.hid ((RL.out.keep k11 (.inr (.inr (Nat.le_refl 0)))).mono (Nat.le_refl _) k11.size)
  replace RX := Lib.hid ((RX.out.keep k11 (.inr (.inr (Nat.le_refl 0)))).mono (Nat.le_refl _) k11.size)
  replace RC := Lib.hid ((RC.out.keep k11 (.inr (.inr (Nat.le_refl 0)))).mono (Nat.le_refl _) k11.size)
  clear K10 k11
  obtain ⟨W12, hW12⟩ : ∃ W12, W12 = W11.alloc (.cells #[.int .i64 f0, .int .i64 f1, .int .i64 f2, .int .i64 f3] 26) := ⟨_, rfl⟩
  have k12 : Keep 0 0 W11 W12 := by rw [hW12]; exact keep_1 W11 _
  have K12 := K11.tr0 k12
  replace BE := Lib.hid (BE.out.keep0 k12)
  replace BF := Lib.hid (BF.out.keep0 k12)
  replace RL := Lib.hid ((RL.out.keep k12 (.inr (.inr (Nat.le_refl 0)))).mono (Nat.le_refl _) k12.size)
  replace RX := Lib.hid ((RX.out.keep k12 (.inr (.inr (Nat.le_refl 0)))).mono (Nat.le_refl _) k12.size)
  replace RC := Lib.hid ((RC.out.keep k12 (.inr (.inr (Nat.le_refl 0)))).mono (Nat.le_refl _) k12.size)
  clear K11 k12
  have BG := Lib.hid (show Lo W12 W11.heap.size 26 #[.int .i64 f0, .int .i64 f1, .int .i64 f2, .int .i64 f3] by rw [hW12]; exact Lo.new W11 26 #[.int .i64 f0, .int .i64 f1, .int .i64 f2, .int .i64 f3] rfl)
  obtain ⟨xE0, xE1, xE2, xE3, _⟩ := BE.out.c4
  rw [hW12] at xE0 xE1 xE2 xE3
  obtain ⟨xF0, xF1, xF2, xF3, _⟩ := BF.out.c4
  rw [hW12] at xF0 xF1 xF2 xF3
  go_wp2_with fail
  clear xE0 xE1 xE2 xE3
  clear xF0 xF1 xF2 xF3
  rw [← hW12]
  clear hW12
  generalize W11.heap.size = qG at BG ⊢
  have hp6 := putT_length l (x0, x1, x2, x3)
  have HP := Lib.hid (put_find l (x0, x1, x2, x3))
  refine (implFindEntry_to W12 _ _ (putT l (x0, x1, x2, x3)) x0 x1 RX.out.rd (by omega) x0 x1 x2 x3 true HP.out.1 HP.out.2).mono ?_
  rintro e W13 ⟨rfl, k13⟩
  have K13 := K12.tr0 k13
  replace BE := Lib.hid (BE.out.keep0 k13)
  replace BF := Lib.hid (BF.out.keep0 k13)
  replace BG := Lib.hid (BG.out.keep0 k13)
  replace RL := Lib.hid ((RL.out.keep k13 (.inr (.inr (Nat.le_refl 0)))).mono (Nat.le_refl _) k13.size)
  replace RX := Lib.hid ((RX.out.keep k13 (.inr (.inr (Nat.le_refl 0)))).mono (Nat.le_refl _) k13.size)
  replace RC := Lib.hid ((RC.out.keep k13 (.inr (.inr (Nat.le_refl 0)))).mono (Nat.le_refl _) k13.size)
  clear K12 k13
  have hpk := Lib.hid (put_ok l (x0, x1, x2, x3))
  obtain ⟨W14, hW14⟩ : ∃ W14, W14 = W13.alloc (.cells #[.int .i64 x0, .int .i64 x1, .int .i64 x2, .int .i64 x3] 26) := ⟨_, rfl⟩
  have k14 : Keep 0 0 W13 W14 := by rw [hW14]; exact keep_1 W13 _
  have K14 := K13.tr0 k14
  replace BE := Lib.hid (BE.out.keep0 k14)
  replace BF := Lib.hid (BF.out.keep0 k14)
  replace BG := Lib.hid (BG.out.keep0 k14)
  replace RL := Lib.hid ((RL.out.keep k14 (.inr (.inr (Nat.le_refl 0)))).mono (Nat.le_refl _) k14.size)
  replace RX := Lib.hid ((RX.out.keep k14 (.inr (.inr (Nat.le_refl 0)))).mono (Nat.le_refl _) k14.size)
  replace RC := Lib.hid ((RC.out.keep k14 (.inr (.inr (Nat.le_refl 0)))).mono (Nat.le_refl _) k14.size)
  clear K13 k14
  have BT := Lib.hid (show Lo W14 W13.heap.size 26 #[.int .i64 x0, .int .i64 x1, .int .i64 x2, .int .i64 x3] by rw [hW14]; exact Lo.new W13 26 #[.int .i64 x0, .int .i64 x1, .int .i64 x2, .int .i64 x3] rfl)
  obtain ⟨xE0, xE1, xE2, xE3, _⟩ := BE.out.c4
  rw [hW14] at xE0 xE1 xE2 xE3
  obtain ⟨xF0, xF1, xF2, xF3, _⟩ := BF.out.c4
  rw [hW14] at xF0 xF1 xF2 xF3
  obtain ⟨xG0, xG1, xG2, xG3, _⟩ := BG.out.c4
  rw [hW14] at xG0 xG1 xG2 xG3
  go_wp2_with fail
  clear xE0 xE1 xE2 xE3
  clear xF0 xF1 xF2 xF3
  clear xG0 xG1 xG2 xG3
  rw [← hW14]
  clear hW14
  generalize W13.heap.size = qT at BT ⊢
  obtain ⟨bo, hbo⟩ : ∃ bo, bufOkT l = bo := ⟨_, rfl⟩
  refine (specBufferOk_any W14 _ _ l RL.out.rd (by omega)).mono ?_
  rintro e W15 ⟨rfl, d15⟩
  have k15 := d15.keep 0 0
  have K15 := K14.tr0 k15
  replace BE := Lib.hid (BE.out.keep0 k15)
  replace BF := Lib.hid (BF.out.keep0 k15)
  replace BG := Lib.hid (BG.out.keep0 k15)
  replace BT := Lib.hid (BT.out.keep0 k15)
  replace RL := Lib.hid ((RL.out.keep k15 (.inr (.inr (Nat.le_refl 0)))).mono (Nat.le_refl _) k15.size)
  replace RX := Lib.hid ((RX.out.keep k15 (.inr (.inr (Nat.le_refl 0)))).mono (Nat.le_refl _) k15.size)
  replace RC := Lib.hid ((RC.out.keep k15 (.inr (.inr (Nat.le_refl 0)))).mono (Nat.le_refl _) k15.size)
  clear K14 k15
  rw [hbo]
  rcases bo with _ | _
  · skip
    clear hbo
    obtain ⟨xE0, xE1, xE2, xE3, _⟩ := BE.out.c4
    obtain ⟨xF0, xF1, xF2, xF3, _⟩ := BF.out.c4
    obtain ⟨xG0, xG1, xG2, xG3, _⟩ := BG.out.c4
    obtain ⟨xT0, xT1, xT2, xT3, _⟩ := BT.out.c4
    go_wp2_with fail
    clear xE0 xE1 xE2 xE3
    clear xF0 xF1 xF2 xF3
    clear xG0 xG1 xG2 xG3
    clear xT0 xT1 xT2 xT3
    refine (implTagsIn_any W15 _ _ l RL.out.rd (by omega)).mono ?_
    rintro e W16 ⟨va, rfl, r16, k16⟩
    have K16 := K15.tr0 k16
    replace BE := Lib.hid (BE.out.keep0 k16)
    replace BF := Lib.hid (BF.out.keep0 k16)
    replace BG := Lib.hid (BG.out.keep0 k16)
    replace BT := Lib.hid (BT.out.keep0 k16)
    replace RL := Lib.hid ((RL.out.keep k16 (.inr (.inr (Nat.le_refl 0)))).mono (Nat.le_refl _) k16.size)
    replace RX := Lib.hid ((RX.out.keep k16 (.inr (.inr (Nat.le_refl 0)))).mono (Nat.le_refl _) k16.size)
    replace RC := Lib.hid ((RC.out.keep k16 (.inr (.inr (Nat.le_refl 0)))).mono (Nat.le_refl _) k16.size)
    clear K15 k16
    have RA := Lib.hid r16
    clear r16
    obtain ⟨xE0, xE1, xE2, xE3, _⟩ := BE.out.c4
    obtain ⟨xF0, xF1, xF2, xF3, _⟩ := BF.out.c4
    obtain ⟨xG0, xG1, xG2, xG3, _⟩ := BG.out.c4
    obtain ⟨xT0, xT1, xT2, xT3, _⟩ := BT.out.c4
    go_wp2_with fail
    clear xE0 xE1 xE2 xE3
    clear xF0 xF1 xF2 xF3
    clear xG0 xG1 xG2 xG3
    clear xT0 xT1 xT2 xT3
    refine (specTagsIn_any W16 _ _ l RL.out.rd (by omega)).mono ?_
    rintro e W17 ⟨vb, rfl, r17, k17⟩
    have K17 := K16.tr0 k17
    replace BE := Lib.hid (BE.out.keep0 k17)
    replace BF := Lib.hid (BF.out.keep0 k17)
    replace BG := Lib.hid (BG.out.keep0 k17)
    replace BT := Lib.hid (BT.out.keep0 k17)
    replace RL := Lib.hid ((RL.out.keep k17 (.inr (.inr (Nat.le_refl 0)))).mono (Nat.le_refl _) k17.size)
    replace RX := Lib.hid ((RX.out.keep k17 (.inr (.inr (Nat.le_refl 0)))).mono (Nat.le_refl _) k17.size)
    replace RC := Lib.hid ((RC.out.keep k17 (.inr (.inr (Nat.le_refl 0)))).mono (Nat.le_refl _) k17.size)
    replace RA := Lib.hid ((RA.out.keep k17 (.inr (.inr (Nat.le_refl 0)))).mono (Nat.le_refl _) k17.size)
    clear K16 k17
    have RS := Lib.hid r17
    clear r17
    obtain ⟨xE0, xE1, xE2, xE3, _⟩ := BE.out.c4
    obtain ⟨xF0, xF1, xF2, xF3, _⟩ := BF.out.c4
    obtain ⟨xG0, xG1, xG2, xG3, _⟩ := BG.out.c4
    obtain ⟨xT0, xT1, xT2, xT3, _⟩ := BT.out.c4
    go_wp2_with fail
    clear xE0 xE1 xE2 xE3
    clear xF0 xF1 xF2 xF3
    clear xG0 xG1 xG2 xG3
    clear xT0 xT1 xT2 xT3
    refine (sameInts_eq W17 _ _ _ _ _ RA.out.rd RS.out.rd).mono ?_
    rintro e W18 ⟨rfl, d18⟩
    have k18 := d18.keep 0 0
    have K18 := K17.tr0 k18
    replace BE := Lib.hid (BE.out.keep0 k18)
    replace BF := Lib.hid (BF.out.keep0 k18)
    replace BG := Lib.hid (BG.out.keep0 k18)
    replace BT := Lib.hid (BT.out.keep0 k18)
    replace RL := Lib.hid ((RL.out.keep k18 (.inr (.inr (Nat.le_refl 0)))).mono (Nat.le_refl _) k18.size)
    replace RX := Lib.hid ((RX.out.keep k18 (.inr (.inr (Nat.le_refl 0)))).mono (Nat.le_refl _) k18.size)
    replace RC := Lib.hid ((RC.out.keep k18 (.inr (.inr (Nat.le_refl 0)))).mono (Nat.le_refl _) k18.size)
    replace RA := Lib.hid ((RA.out.keep k18 (.inr (.inr (Nat.le_refl 0)))).mono (Nat.le_refl _) k18.size)
    replace RS := Lib.hid ((RS.out.keep k18 (.inr (.inr (Nat.le_refl 0)))).mono (Nat.le_refl _) k18.size)
    clear K17 k18
    obtain ⟨xE0, xE1, xE2, xE3, _⟩ := BE.out.c4
    obtain ⟨xF0, xF1, xF2, xF3, _⟩ := BF.out.c4
    obtain ⟨xG0, xG1, xG2, xG3, _⟩ := BG.out.c4
    obtain ⟨xT0, xT1, xT2, xT3, _⟩ := BT.out.c4
    go_wp2
    go_ret
    exact ⟨rfl, K18.below⟩
  · skip
    have hb2 := Lib.hid (hpk.out hbo)
    clear hbo
    obtain ⟨xE0, xE1, xE2, xE3, _⟩ := BE.out.c4
    obtain ⟨xF0, xF1, xF2, xF3, _⟩ := BF.out.c4
    obtain ⟨xG0, xG1, xG2, xG3, _⟩ := BG.out.c4
    obtain ⟨xT0, xT1, xT2, xT3, _⟩ := BT.out.c4
    go_wp2_with fail
    clear xE0 xE1 xE2 xE3
    clear xF0 xF1 xF2 xF3
    clear xG0 xG1 xG2 xG3
    clear xT0 xT1 xT2 xT3
    refine (implBufferOk_any W15 _ _ _ RX.out.rd (by omega)).mono ?_
    rintro e W16 ⟨rfl, k16⟩
    have K16 := K15.tr0 k16
    replace BE := Lib.hid (BE.out.keep0 k16)
    replace BF := Lib.hid (BF.out.keep0 k16)
    replace BG := Lib.hid (BG.out.keep0 k16)
    replace BT := Lib.hid (BT.out.keep0 k16)
    replace RL := Lib.hid ((RL.out.keep k16 (.inr (.inr (Nat.le_refl 0)))).mono (Nat.le_refl _) k16.size)
    replace RX := Lib.hid ((RX.out.keep k16 (.inr (.inr (Nat.le_refl 0)))).mono (Nat.le_refl _) k16.size)
    replace RC := Lib.hid ((RC.out.keep k16 (.inr (.inr (Nat.le_refl 0)))).mono (Nat.le_refl _) k16.size)
    clear K15 k16
    rw [hb2.out]
    obtain ⟨xE0, xE1, xE2, xE3, _⟩ := BE.out.c4
    obtain ⟨xF0, xF1, xF2, xF3, _⟩ := BF.out.c4
    obtain ⟨xG0, xG1, xG2, xG3, _⟩ := BG.out.c4
    obtain ⟨xT0, xT1, xT2, xT3, _⟩ := BT.out.c4
    go_wp2_with fail
    clear xE0 xE1 xE2 xE3
    clear xF0 xF1 xF2 xF3
    clear xG0 xG1 xG2 xG3
    clear xT0 xT1 xT2 xT3
    refine (implTagsIn_any W16 _ _ l RL.out.rd (by omega)).mono ?_
    rintro e W17 ⟨va, rfl, r17, k17⟩
    have K17 := K16.tr0 k17
    replace BE := Lib.hid (BE.out.keep0 k17)
    replace BF := Lib.hid (BF.out.keep0 k17)
    replace BG := Lib.hid (BG.out.keep0 k17)
    replace BT := Lib.hid (BT.out.keep0 k17)
    replace RL := Lib.hid ((RL.out.keep k17 (.inr (.inr (Nat.le_refl 0)))).mono (Nat.le_refl _) k17.size)
    replace RX := Lib.hid ((RX.out.keep k17 (.inr (.inr (Nat.le_refl 0)))).mono (Nat.le_refl _) k17.size)
    replace RC := Lib.hid ((RC.out.keep k17 (.inr (.inr (Nat.le_refl 0)))).mono (Nat.le_refl _) k17.size)
    clear K16 k17
    have RA := Lib.hid r17
    clear r17
    obtain ⟨xE0, xE1, xE2, xE3, _⟩ := BE.out.c4
    obtain ⟨xF0, xF1, xF2, xF3, _⟩ := BF.out.c4
    obtain ⟨xG0, xG1, xG2, xG3, _⟩ := BG.out.c4
    obtain ⟨xT0, xT1, xT2, xT3, _⟩ := BT.out.c4
    go_wp2_with fail
    clear xE0 xE1 xE2 xE3
    clear xF0 xF1 xF2 xF3
    clear xG0 xG1 xG2 xG3
    clear xT0 xT1 xT2 xT3
    refine (specTagsIn_any W17 _ _ l RL.out.rd (by omega)).mono ?_
    rintro e W18 ⟨vb, rfl, r18, k18⟩
    have K18 := K17.tr0 k18
    replace BE := Lib.hid (BE.out.keep0 k18)
    replace BF := Lib.hid (BF.out.keep0 k18)
    replace BG := Lib.hid (BG.out.keep0 k18)
    replace BT := Lib.hid (BT.out.keep0 k18)
    replace RL := Lib.hid ((RL.out.keep k18 (.inr (.inr (Nat.le_refl 0)))).mono (Nat.le_refl _) k18.size)
    replace RX := Lib.hid ((RX.out.keep k18 (.inr (.inr (Nat.le_refl 0)))).mono (Nat.le_refl _) k18.size)
    replace RC := Lib.hid ((RC.out.keep k18 (.inr (.inr (Nat.le_refl 0)))).mono (Nat.le_refl _) k18.size)
    replace RA := Lib.hid ((RA.out.keep k18 (.inr (.inr (Nat.le_refl 0)))).mono (Nat.le_refl _) k18.size)
    clear K17 k18
    have RS := Lib.hid r18
    clear r18
    obtain ⟨xE0, xE1, xE2, xE3, _⟩ := BE.out.c4
    obtain ⟨xF0, xF1, xF2, xF3, _⟩ := BF.out.c4
    obtain ⟨xG0, xG1, xG2, xG3, _⟩ := BG.out.c4
    obtain ⟨xT0, xT1, xT2, xT3, _⟩ := BT.out.c4
    go_wp2_with fail
    clear xE0 xE1 xE2 xE3
    clear xF0 xF1 xF2 xF3
    clear xG0 xG1 xG2 xG3
    clear xT0 xT1 xT2 xT3
    refine (sameInts_eq W18 _ _ _ _ _ RA.out.rd RS.out.rd).mono ?_
    rintro e W19 ⟨rfl, d19⟩
    have k19 := d19.keep 0 0
    have K19 := K18.tr0 k19
    replace BE := Lib.hid (BE.out.keep0 k19)
    replace BF := Lib.hid (BF.out.keep0 k19)
    replace BG := Lib.hid (BG.out.keep0 k19)
    replace BT := Lib.hid (BT.out.keep0 k19)
    replace RL := Lib.hid ((RL.out.keep k19 (.inr (.inr (Nat.le_refl 0)))).mono (Nat.le_refl _) k19.size)
    replace RX := Lib.hid ((RX.out.keep k19 (.inr (.inr (Nat.le_refl 0)))).mono (Nat.le_refl _) k19.size)
    replace RC := Lib.hid ((RC.out.keep k19 (.inr (.inr (Nat.le_refl 0)))).mono (Nat.le_refl _) k19.size)
    replace RA := Lib.hid ((RA.out.keep k19 (.inr (.inr (Nat.le_refl 0)))).mono (Nat.le_refl _) k19.size)
    replace RS := Lib.hid ((RS.out.keep k19 (.inr (.inr (Nat.le_refl 0)))).mono (Nat.le_refl _) k19.size)
    clear K18 k19
    obtain ⟨xE0, xE1, xE2, xE3, _⟩ := BE.out.c4
    obtain ⟨xF0, xF1, xF2, xF3, _⟩ := BF.out.c4
    obtain ⟨xG0, xG1, xG2, xG3, _⟩ := BG.out.c4
    obtain ⟨xT0, xT1, xT2, xT3, _⟩ := BT.out.c4
    go_wp2
    go_ret
    exact ⟨rfl, K19.below⟩

set_option maxRecDepth 100000 in
theorem lifted (os : Os) (started : os.Started) (H : Type) (enc : TypeId × Value → H) :
    ReturnsInHanded {} Try.checked os 3 .any (Rows.fnBufferSpec.pre6 enc Try.prog Try.f3 Rows.fnBufferRow.domain false) (Rows.fnBufferSpec.post enc Try.prog Try.f3 false true false false) := by
  refine returnsInHanded_of_change (C := Try.checked) own started (by kernel_rfl) Try.func3
    (ChangeSpec.witness6 (enc := enc) (C := Try.checked) false ⟨#[], #[.slice none 0 0], []⟩ 8 (by kernel_rfl) (by kernel_rfl) (by kernel_rfl) (by kernel_rfl)) ?_
  intro W base args ds gs before hval0 hW hcnd _
  have hval : ∀ (j : Nat) t v, Try.f3.params[j]? = some t → args[j]? = some v → Value.okWide Try.prog W .any base t v := hval0
  have hW' := hW
  obtain ⟨p, q, hA0, hV, rfl, hfz, hnd⟩ := hW
  have hA : DataW.TrodAll enc Try.prog W 0 (fun _ => true) true Try.f3.params.toList args.toList ds p := hA0
  rw [Try.params3] at hA hval
  obtain ⟨v0, vs0, d0, ds0, p0, q0, hargs, rfl, rfl, h0, r0⟩ := trodAll_cons hA
  obtain ⟨rfl, rfl, rfl⟩ := trodAll_nil r0
  obtain rfl : args = #[v0] := by cases args; simp_all
  obtain ⟨rfl, rfl⟩ := trodVars_none hV
  have k0 := h0
  have lt0 : ∀ x ∈ p0, x.block < W.heap.size := by obtain ⟨m, hm⟩ := k0; exact DataW.trod_lt m _ _ _ hm
  obtain ⟨A0, n0, cap0, rfl⟩ := okWide_slice Try.underlying22 (hval 0 22 v0 rfl rfl)
  obtain ⟨xs0, rb0, hl0⟩ := open_byts Try.underlying22 Try.underlying5 (by kernel_rfl) h0
  clear hA0 hval0
  refine (walk W A0 n0 cap0 xs0 rb0 hl0).mono fun e W' ⟨he, bel⟩ => ?_
  subst he
  exact ⟨_, rfl, _, _, _, [], _, [], hW', trodAll_mk1 (shut_bool Try.underlying4 _), (trodAll_cons_mk (Below.trod laidOut (by kernel_rfl) (of_decide_eq_true (by kernel_rfl)) k0 bel lt0) trodAll_mk0), rfl, bel.frame _, fun h => by cases h⟩

theorem over : Rows.fnBufferRow.holds Try.pinned (OpenSpec.ofChange Rows.fnBufferSpec) :=
  OpenClaim.holds_of_wide 3 Try.f3 rfl rfl rfl rfl rfl rfl rfl ⟨rfl, rfl, rfl, rfl, rfl⟩ rfl rfl rfl rfl rfl (by kernel_rfl) Try.func3 (by kernel_rfl)
    (of_decide_eq_true (by kernel_rfl)) (by unfold Func.isWrapper; first | (rw [if_pos (by decide +kernel)]; kernel_rfl) | (rw [if_neg (by decide +kernel)]; exact ⟨rfl, rfl⟩))
    (fun os started H enc _ => lifted os started H enc)

/-- The given statement. -/
theorem proved : Rows.FnBufferSaid := over
end Go.Proofs.Ytcoipfnphmealaa.fnBuffer
