/-
  For every draw: a merged control block grants no more than the hypervisor's, and the hypervisor handles every event that it requested; the program's merging is the reference's. No condition.
-/
import Derived.Test.YtdlcchoemladnaaRows
import Derived.WalkKit
import Derived.ProofKit
import Derived.OpenShut
import Derived.ShutString
import Derived.ChangeOld
import Derived.Below
import Derived.Lib.SmallJoins
import Derived.WalkSpells
import Derived.Test.YtdlcchoemladnaaDrG
import Derived.Test.YtdlcchoemladnaaMrg
import Derived.Test.YtdlcchoemladnaaPlc
import Derived.Test.YtdlcchoemladnaaOpen
import Derived.Test.YtdlcchoemladnaaOne
import Derived.Test.YtdlcchoemladnaaSamE
import Derived.Handy
import Derived.Deep.QuietTactic
import Derived.BigQuiet
import Derived.Deep.RegionHeld3
import Derived.Deep.RegionHeld
import Derived.Deep.DrawnRows
import Derived.Deep.Cut
import Derived.Deep.DeepCutAuto
namespace Go.Proofs.Ytdlcchoemladnaa.fnMerged
open Go.ChangeShapes Go.WideShapes Go.ChangeAt Go.RowKit
set_option linter.unusedVariables false

theorem own : ownKnob Try.prog.godebug = none := by kernel_rfl
theorem laidOut : laidOutB Try.prog = true := by kernel_rfl

attribute [local go_sem ↓] Go.wp_at_zero Go.wp_at_succ
theorem lapp_cons {α : Type} (a : α) (l k : List α) : List.append (a :: l) k = a :: List.append l k := rfl
theorem lapp_nil {α : Type} (k : List α) : List.append [] k = k := rfl
set_option maxRecDepth 100000 in
theorem walk_big (w : World) (A : Option Addr) (n c : Nat) (hc9 : n ≤ 9223372036854775807) (hbig : bigT n = true) :
    Calls Try.prog 3 #[.slice A n c] w fun e w' => e = .returned (.bool true) ∧ Below w.heap.size w w' := by
  go_enter Try.func3, Try.ntmps3
  go_wp2_with fail
  refine (big_any A n c hc9 _).mono ?_
  rintro e w' ⟨rfl, rfl⟩
  rw [hbig]
  go_wp2
  go_ret
  exact ⟨rfl, Below.refl _ _⟩
set_option maxRecDepth 100000 in
set_option maxHeartbeats 16000000 in
theorem walk (w : World) (A : Option Addr) (n c : Nat) (xs : List Int) (rb : Rd w w.heap.size 1 (.slice A n c) (byts xs)) (hl : xs.length = n) :
    Calls Try.prog 3 #[.slice A n c] w fun e w' => e = .returned (.bool true) ∧ Below w.heap.size w w' := by
  have hc9 : n ≤ 9223372036854775807 := by obtain ⟨_, _, _, e, h1, h2, _⟩ := rb; injection e with _ e2 e3; unfold maxLen at h2; omega
  clear hl
  rcases Bool.eq_false_or_eq_true (bigT n) with hbig | hbig
  · exact walk_big w A n c hc9 hbig
  go_enter Try.func3, Try.ntmps3
  go_wp2_with fail
  refine (big_any A n c hc9 _).mono ?_
  rintro e w' ⟨rfl, rfl⟩
  rw [hbig]
  clear hbig
  go_wp2_with fail
  have K0 := Keep.refl 0 0 w
  have RB0 := rb
  refine (DrawMergedCtl_any _ _ xs RB0).mono ?_
  rintro e W1 ⟨u, t, p, o, rfl, k1⟩
  have K1 := K0.tr0 k1
  have RB1 := (RB0.keep k1 (Nat.le_refl _) (.inr (Nat.le_refl 0))).mono k1.size
  clear K0 k1 RB0
  obtain ⟨W2, hW2⟩ : ∃ W2, W2 = W1.alloc (.cells #[.int .i64 t, .int .i64 p, .bool o] 25) := ⟨_, rfl⟩
  have k2 : Keep 0 0 W1 W2 := by rw [hW2]; exact keep_1 W1 _
  have K2 := K1.tr0 k2
  have RB2 := (RB1.keep k2 (Nat.le_refl _) (.inr (Nat.le_refl 0))).mono k2.size
  clear K1 k2 RB1
  have BC := Lib.hid (show Lo W2 W1.heap.size 25 #[.int .i64 t, .int .i64 p, .bool o] by rw [hW2]; exact Lo.new W1 25 #[.int .i64 t, .int .i64 p, .bool o] rfl)
  go_wp2_with fail
  rw [← hW2]
  clear hW2
  generalize W1.heap.size = qC at BC ⊢
  refine (implMergedCtl_any _ _ _ _ _).mono ?_
  rintro e W3 ⟨rfl, k3⟩
  have K3 := K2.tr0 k3
  have RB3 := (RB2.keep k3 (Nat.le_refl _) (.inr (Nat.le_refl 0))).mono k3.size
  replace BC := Lib.hid (BC.out.keep0 k3)
  clear K2 k3 RB2
  obtain ⟨W4, hW4⟩ : ∃ W4, W4 = W3.alloc (.cells #[.int .i64 (mergeT u t), .int .i64 p, .bool o] 25) := ⟨_, rfl⟩
  have k4 : Keep 0 0 W3 W4 := by rw [hW4]; exact keep_1 W3 _
  have K4 := K3.tr0 k4
  have RB4 := (RB3.keep k4 (Nat.le_refl _) (.inr (Nat.le_refl 0))).mono k4.size
  replace BC := Lib.hid (BC.out.keep0 k4)
  clear K3 k4 RB3
  have BM := Lib.hid (show Lo W4 W3.heap.size 25 #[.int .i64 (mergeT u t), .int .i64 p, .bool o] by rw [hW4]; exact Lo.new W3 25 #[.int .i64 (mergeT u t), .int .i64 p, .bool o] rfl)
  obtain ⟨xC0, xC1, xC2, _⟩ := BC.out.c3
  rw [hW4] at xC0 xC1 xC2
  go_wp2_with fail
  clear xC0 xC1 xC2
  rw [← hW4]
  clear hW4
  generalize W3.heap.size = qM at BM ⊢
  refine (DrawOwnerOf_any _ _ xs RB4).mono ?_
  rintro e W5 ⟨a, b, trp, rfl, k5⟩
  have K5 := K4.tr0 k5
  have RB5 := (RB4.keep k5 (Nat.le_refl _) (.inr (Nat.le_refl 0))).mono k5.size
  replace BC := Lib.hid (BC.out.keep0 k5)
  replace BM := Lib.hid (BM.out.keep0 k5)
  clear K4 k5 RB4
  obtain ⟨xC0, xC1, xC2, _⟩ := BC.out.c3
  obtain ⟨xM0, xM1, xM2, _⟩ := BM.out.c3
  go_wp2_with fail
  clear xC0 xC1 xC2
  clear xM0 xM1 xM2
  refine (implOwnerOf_any _ _ _ _).mono ?_
  rintro e w' ⟨rfl, rfl⟩
  obtain ⟨xC0, xC1, xC2, _⟩ := BC.out.c3
  obtain ⟨xM0, xM1, xM2, _⟩ := BM.out.c3
  go_wp2_with fail
  clear xC0 xC1 xC2
  clear xM0 xM1 xM2
  refine (DrawOwnersOf_any _ _ xs RB5).mono ?_
  rintro e W6 ⟨d, e2, rfl, k6⟩
  have K6 := K5.tr0 k6
  have RB6 := (RB5.keep k6 (Nat.le_refl _) (.inr (Nat.le_refl 0))).mono k6.size
  replace BC := Lib.hid (BC.out.keep0 k6)
  replace BM := Lib.hid (BM.out.keep0 k6)
  clear K5 k6 RB5
  obtain ⟨xC0, xC1, xC2, _⟩ := BC.out.c3
  obtain ⟨xM0, xM1, xM2, _⟩ := BM.out.c3
  go_wp2_with fail
  clear xC0 xC1 xC2
  clear xM0 xM1 xM2
  refine (DrawGrantsMore_any _ _ xs RB6).mono ?_
  rintro e W7 ⟨f0, f1, f2, g0, g1, g2, rfl, k7⟩
  have K7 := K6.tr0 k7
  have RB7 := (RB6.keep k7 (Nat.le_refl _) (.inr (Nat.le_refl 0))).mono k7.size
  replace BC := Lib.hid (BC.out.keep0 k7)
  replace BM := Lib.hid (BM.out.keep0 k7)
  clear K6 k7 RB6
  obtain ⟨W8, hW8⟩ : ∃ W8, W8 = (W7.alloc (.cells #[.int .i64 f0, .int .i64 f1, .bool f2] 25)).alloc (.cells #[.int .i64 g0, .int .i64 g1, .bool g2] 25) := ⟨_, rfl⟩
  have k8 : Keep 0 0 W7 W8 := by rw [hW8]; exact keep_2 W7 _ _
  have K8 := K7.tr0 k8
  have RB8 := (RB7.keep k8 (Nat.le_refl _) (.inr (Nat.le_refl 0))).mono k8.size
  replace BC := Lib.hid (BC.out.keep0 k8)
  replace BM := Lib.hid (BM.out.keep0 k8)
  clear K7 k8 RB7
  have BF := Lib.hid (show Lo W8 W7.heap.size 25 #[.int .i64 f0, .int .i64 f1, .bool f2] by rw [hW8]; exact (Lo.new W7 25 #[.int .i64 f0, .int .i64 f1, .bool f2] rfl).keep0 (keep_1 _ _))
  have BG := Lib.hid (show Lo W8 (W7.heap.size + 1) 25 #[.int .i64 g0, .int .i64 g1, .bool g2] by rw [hW8]; exact Lo.new (W7.alloc (.cells #[.int .i64 f0, .int .i64 f1, .bool f2] 25)) 25 #[.int .i64 g0, .int .i64 g1, .bool g2] (by simp))
  obtain ⟨xC0, xC1, xC2, _⟩ := BC.out.c3
  rw [hW8] at xC0 xC1 xC2
  obtain ⟨xM0, xM1, xM2, _⟩ := BM.out.c3
  rw [hW8] at xM0 xM1 xM2
  go_wp2_with fail
  clear xC0 xC1 xC2
  clear xM0 xM1 xM2
  rw [← hW8]
  clear hW8
  generalize hqg : W7.heap.size + 1 = qG at BG ⊢
  generalize W7.heap.size = qF at BF ⊢
  clear hqg
  refine (DrawMergeTraps_any _ _ xs RB8).mono ?_
  rintro e W9 ⟨y1, y2, rfl, k9⟩
  have K9 := K8.tr0 k9
  have RB9 := (RB8.keep k9 (Nat.le_refl _) (.inr (Nat.le_refl 0))).mono k9.size
  replace BC := Lib.hid (BC.out.keep0 k9)
  replace BM := Lib.hid (BM.out.keep0 k9)
  replace BF := Lib.hid (BF.out.keep0 k9)
  replace BG := Lib.hid (BG.out.keep0 k9)
  clear K8 k9 RB8
  clear RB9
  go_upto_region 10 with (fail)
  generalize W9 = V at K9 BC BM BF BG ⊢
  have KV := Lib.hid K9
  clear K9
  obtain ⟨xC0, xC1, xC2, _⟩ := BC.out.c3
  obtain ⟨xM0, xM1, xM2, _⟩ := BM.out.c3
  obtain ⟨xF0, xF1, xF2, _⟩ := BF.out.c3
  obtain ⟨xG0, xG1, xG2, _⟩ := BG.out.c3
  have HS := Lib.hid (show ∀ w1 w2 : World, (w1.cell? ⟨qC, 0, none⟩ = some (.int .i64 t) ∧ w1.cell? ⟨qC, 1, none⟩ = some (.int .i64 p) ∧ w1.cell? ⟨qC, 2, none⟩ = some (.bool o) ∧ w1.cell? ⟨qM, 0, none⟩ = some (.int .i64 (mergeT u t)) ∧ w1.cell? ⟨qM, 1, none⟩ = some (.int .i64 p) ∧ w1.cell? ⟨qM, 2, none⟩ = some (.bool o) ∧ w1.cell? ⟨qF, 0, none⟩ = some (.int .i64 f0) ∧ w1.cell? ⟨qF, 1, none⟩ = some (.int .i64 f1) ∧ w1.cell? ⟨qF, 2, none⟩ = some (.bool f2) ∧ w1.cell? ⟨qG, 0, none⟩ = some (.int .i64 g0) ∧ w1.cell? ⟨qG, 1, none⟩ = some (.int .i64 g1) ∧ w1.cell? ⟨qG, 2, none⟩ = some (.bool g2) ∧ Keep 0 0 V w1) → Keep 0 0 w1 w2 → (w2.cell? ⟨qC, 0, none⟩ = some (.int .i64 t) ∧ w2.cell? ⟨qC, 1, none⟩ = some (.int .i64 p) ∧ w2.cell? ⟨qC, 2, none⟩ = some (.bool o) ∧ w2.cell? ⟨qM, 0, none⟩ = some (.int .i64 (mergeT u t)) ∧ w2.cell? ⟨qM, 1, none⟩ = some (.int .i64 p) ∧ w2.cell? ⟨qM, 2, none⟩ = some (.bool o) ∧ w2.cell? ⟨qF, 0, none⟩ = some (.int .i64 f0) ∧ w2.cell? ⟨qF, 1, none⟩ = some (.int .i64 f1) ∧ w2.cell? ⟨qF, 2, none⟩ = some (.bool f2) ∧ w2.cell? ⟨qG, 0, none⟩ = some (.int .i64 g0) ∧ w2.cell? ⟨qG, 1, none⟩ = some (.int .i64 g1) ∧ w2.cell? ⟨qG, 2, none⟩ = some (.bool g2) ∧ Keep 0 0 V w2) from fun w1 w2 ⟨h0, h1, h2, h3, h4, h5, h6, h7, h8, h9, h10, h11, h12⟩ k => ⟨(k.cell0 (p := ⟨qC, 0, none⟩) (World.block_lt_of_cell? _ _ h0)).trans h0, (k.cell0 (p := ⟨qC, 1, none⟩) (World.block_lt_of_cell? _ _ h1)).trans h1, (k.cell0 (p := ⟨qC, 2, none⟩) (World.block_lt_of_cell? _ _ h2)).trans h2, (k.cell0 (p := ⟨qM, 0, none⟩) (World.block_lt_of_cell? _ _ h3)).trans h3, (k.cell0 (p := ⟨qM, 1, none⟩) (World.block_lt_of_cell? _ _ h4)).trans h4, (k.cell0 (p := ⟨qM, 2, none⟩) (World.block_lt_of_cell? _ _ h5)).trans h5, (k.cell0 (p := ⟨qF, 0, none⟩) (World.block_lt_of_cell? _ _ h6)).trans h6, (k.cell0 (p := ⟨qF, 1, none⟩) (World.block_lt_of_cell? _ _ h7)).trans h7, (k.cell0 (p := ⟨qF, 2, none⟩) (World.block_lt_of_cell? _ _ h8)).trans h8, (k.cell0 (p := ⟨qG, 0, none⟩) (World.block_lt_of_cell? _ _ h9)).trans h9, (k.cell0 (p := ⟨qG, 1, none⟩) (World.block_lt_of_cell? _ _ h10)).trans h10, (k.cell0 (p := ⟨qG, 2, none⟩) (World.block_lt_of_cell? _ _ h11)).trans h11, h12.tr0 k⟩)
  first | (go_region_held3 (fun w' => w'.cell? ⟨qC, 0, none⟩ = some (.int .i64 t) ∧ w'.cell? ⟨qC, 1, none⟩ = some (.int .i64 p) ∧ w'.cell? ⟨qC, 2, none⟩ = some (.bool o) ∧ w'.cell? ⟨qM, 0, none⟩ = some (.int .i64 (mergeT u t)) ∧ w'.cell? ⟨qM, 1, none⟩ = some (.int .i64 p) ∧ w'.cell? ⟨qM, 2, none⟩ = some (.bool o) ∧ w'.cell? ⟨qF, 0, none⟩ = some (.int .i64 f0) ∧ w'.cell? ⟨qF, 1, none⟩ = some (.int .i64 f1) ∧ w'.cell? ⟨qF, 2, none⟩ = some (.bool f2) ∧ w'.cell? ⟨qG, 0, none⟩ = some (.int .i64 g0) ∧ w'.cell? ⟨qG, 1, none⟩ = some (.int .i64 g1) ∧ w'.cell? ⟨qG, 2, none⟩ = some (.bool g2) ∧ Keep 0 0 V w')
    (first | (with_reducible assumption) | (refine HS.out ?_ _ ?_ ?_; rotate_right; (with_reducible assumption); (with_reducible assumption)) | (exact HS.out V _ ⟨xC0, xC1, xC2, xM0, xM1, xM2, xF0, xF1, xF2, xG0, xG1, xG2, Keep.refl 0 0 V⟩ (Keep.refl 0 0 V).drew) | fail)
    (first
      | (go_at_call 16; refine (specMergedCtl_any _ _ _ _ _).mono ?_; rintro e w2 ⟨rfl, k2⟩)
      | (go_at_call 17; refine (specOwnerOf_any _ _ _ _).mono ?_; rintro e w2 ⟨rfl, rfl⟩)
      | (go_at_call 19; refine (implOwnersOf_any _ _ _).mono ?_; rintro e w3 ⟨v1, rfl, r1, k3⟩)
      | (go_at_call 20; refine (specOwnersOf_any _ _ _).mono ?_; rintro e w4 ⟨v2, rfl, r2, k4⟩)
      | (go_at_call 18; refine (sameInts_eq _ _ _ v1 v2 _ (r1.rd.keep k4 (Nat.le_refl _) (.inr (Nat.le_refl 0))) r2.rd).mono ?_; rintro e w5 ⟨rfl, d5⟩; have k5 := d5.keep 0 0)
      | (go_at_call 21; refine (implGrantsMore_any _ _ _ _ _ _ _).mono ?_; rintro e w6 ⟨rfl, k6⟩)
      | (go_at_call 22; refine (specGrantsMore_any _ _ _ _ _ _ _).mono ?_; rintro e w7 ⟨rfl, k7⟩)
      | (go_at_call 23; refine (implMergeTraps_any _ _ _).mono ?_; rintro e w8 ⟨rfl, rfl⟩)
      | (go_at_call 24; refine (specMergeTraps_any _ _ _).mono ?_; rintro e w8 ⟨rfl, rfl⟩)
      | fail)) | fail
  obtain ⟨_, _, _, _, _, _, _, _, _, _, _, _, K9⟩ : w7.cell? ⟨qC, 0, none⟩ = some (.int .i64 t) ∧ w7.cell? ⟨qC, 1, none⟩ = some (.int .i64 p) ∧ w7.cell? ⟨qC, 2, none⟩ = some (.bool o) ∧ w7.cell? ⟨qM, 0, none⟩ = some (.int .i64 (mergeT u t)) ∧ w7.cell? ⟨qM, 1, none⟩ = some (.int .i64 p) ∧ w7.cell? ⟨qM, 2, none⟩ = some (.bool o) ∧ w7.cell? ⟨qF, 0, none⟩ = some (.int .i64 f0) ∧ w7.cell? ⟨qF, 1, none⟩ = some (.int .i64 f1) ∧ w7.cell? ⟨qF, 2, none⟩ = some (.bool f2) ∧ w7.cell? ⟨qG, 0, none⟩ = some (.int .i64 g0) ∧ w7.cell? ⟨qG, 1, none⟩ = some (.int .i64 g1) ∧ w7.cell? ⟨qG, 2, none⟩ = some (.bool g2) ∧ Keep 0 0 V w7 := by with_reducible assumption
  have KW := Lib.hid (KV.out.tr0 K9)
  have DC := Lib.hid (BC.out.keep0 K9)
  have DM := Lib.hid (BM.out.keep0 K9)
  clear K9 KV BC BM BF BG HS xC0 xC1 xC2 xM0 xM1 xM2 xF0 xF1 xF2 xG0 xG1 xG2
  have oi := owner_inner a b trp
  have o1 : ownerT 1 0 1 = 2 := rfl
  have o2 : ownerT 1 1 1 = 1 := rfl
  obtain ⟨q, hq⟩ : ∃ q, ownerT a b trp = q := ⟨_, rfl⟩
  rw [hq] at oi
  obtain ⟨ok, hok⟩ : ∃ ok, ctlOkT t p o = ok := ⟨_, rfl⟩
  have hcase : (u < 0) ∨ (3 < u) ∨ (0 ≤ u ∧ u ≤ 3 ∧ ok = false) ∨ (0 ≤ u ∧ u ≤ 3 ∧ ok = true) := by cases ok <;> simp <;> omega
  rcases hcase with h | h | ⟨h0, h1, rfl⟩ | ⟨h0, h1, rfl⟩
  · skip
    have u0 : decide (u < 0) = true := by simpa using h
    clear hok
    obtain ⟨y0, y1', y2', _⟩ := DC.out.c3
    obtain ⟨z0, z1, z2, _⟩ := DM.out.c3
    go_wp2_with (first
      | (go_at_call 26; refine (specHasTrap_any _ _ _).mono ?_; rintro e w8 ⟨rfl, rfl⟩)
      | (go_at_call 12; refine (implOwnerOf_any _ _ _ _).mono ?_; rintro e w8 ⟨rfl, rfl⟩))
    go_ret
    exact ⟨rfl, KW.out.below⟩
  · skip
    have u0 : decide (u < 0) = false := by simp; omega
    have u1 : decide (3 < u) = true := by simpa using h
    clear hok
    obtain ⟨y0, y1', y2', _⟩ := DC.out.c3
    obtain ⟨z0, z1, z2, _⟩ := DM.out.c3
    go_wp2_with (first
      | (go_at_call 26; refine (specHasTrap_any _ _ _).mono ?_; rintro e w8 ⟨rfl, rfl⟩)
      | (go_at_call 12; refine (implOwnerOf_any _ _ _ _).mono ?_; rintro e w8 ⟨rfl, rfl⟩))
    go_ret
    exact ⟨rfl, KW.out.below⟩
  · skip
    have u0 : decide (u < 0) = false := by simp; omega
    have u1 : decide (3 < u) = false := by simp; omega
    have HOK := Lib.hid hok
    clear hok
    obtain ⟨y0, y1', y2', _⟩ := DC.out.c3
    obtain ⟨z0, z1, z2, _⟩ := DM.out.c3
    go_wp2_with fail
    refine (specCtlOk_any _ _ _ _).mono ?_
    rintro e X1 ⟨rfl, i1⟩
    rw [HOK.out]
    have KX := KW.out.tr0 i1
    replace y0 := i1.cells (World.block_lt_of_cell? _ _ y0) y0
    replace y1' := i1.cells (World.block_lt_of_cell? _ _ y1') y1'
    replace y2' := i1.cells (World.block_lt_of_cell? _ _ y2') y2'
    replace z0 := i1.cells (World.block_lt_of_cell? _ _ z0) z0
    replace z1 := i1.cells (World.block_lt_of_cell? _ _ z1) z1
    replace z2 := i1.cells (World.block_lt_of_cell? _ _ z2) z2
    clear i1
    go_wp2_with (first
      | (go_at_call 26; refine (specHasTrap_any _ _ _).mono ?_; rintro e w8 ⟨rfl, rfl⟩)
      | (go_at_call 12; refine (implOwnerOf_any _ _ _ _).mono ?_; rintro e w8 ⟨rfl, rfl⟩))
    go_ret
    exact ⟨rfl, KX.below⟩
  · skip
    have u0 : decide (u < 0) = false := by simp; omega
    have u1 : decide (3 < u) = false := by simp; omega
    have HOK := Lib.hid hok
    have HGR := Lib.hid (merged_ok h0 h1 hok)
    clear hok
    obtain ⟨y0, y1', y2', _⟩ := DC.out.c3
    obtain ⟨z0, z1, z2, _⟩ := DM.out.c3
    go_wp2_with fail
    refine (specCtlOk_any _ _ _ _).mono ?_
    rintro e X1 ⟨rfl, i1⟩
    rw [HOK.out]
    have KX := KW.out.tr0 i1
    replace y0 := i1.cells (World.block_lt_of_cell? _ _ y0) y0
    replace y1' := i1.cells (World.block_lt_of_cell? _ _ y1') y1'
    replace y2' := i1.cells (World.block_lt_of_cell? _ _ y2') y2'
    replace z0 := i1.cells (World.block_lt_of_cell? _ _ z0) z0
    replace z1 := i1.cells (World.block_lt_of_cell? _ _ z1) z1
    replace z2 := i1.cells (World.block_lt_of_cell? _ _ z2) z2
    clear i1
    go_wp2_with fail
    refine (implGrantsMore_any _ _ _ _ _ _ _).mono ?_
    rintro e X2 ⟨rfl, i2⟩
    rw [HGR.out]
    replace KX := KX.tr0 i2
    clear i2 y0 y1' y2' z0 z1 z2
    go_wp2_with (first
      | (go_at_call 26; refine (specHasTrap_any _ _ _).mono ?_; rintro e w8 ⟨rfl, rfl⟩)
      | (go_at_call 12; refine (implOwnerOf_any _ _ _ _).mono ?_; rintro e w8 ⟨rfl, rfl⟩))
    go_ret
    exact ⟨rfl, KX.below⟩

set_option maxRecDepth 100000 in
theorem lifted (os : Os) (started : os.Started) (H : Type) (enc : TypeId × Value → H) :
    ReturnsInHanded {} Try.checked os 3 .any (Rows.fnMergedSpec.pre6 enc Try.prog Try.f3 Rows.fnMergedRow.domain false) (Rows.fnMergedSpec.post enc Try.prog Try.f3 false true false false) := by
  refine returnsInHanded_of_change (C := Try.checked) own started (by kernel_rfl) Try.func3
    (ChangeSpec.witness6 (enc := enc) (C := Try.checked) false ⟨#[], #[.slice none 0 0], []⟩ 8 (by kernel_rfl) (by kernel_rfl) (by kernel_rfl) (by kernel_rfl)) ?_
  intro W base args ds gs before hval0 hW hcnd _
  have hval : ∀ (j : Nat) t v, Try.f3.params[j]? = some t → args[j]? = some v → Value.okWide Try.prog W .any base t v := hval0
  have hW' := hW
  obtain ⟨p, q, hA0, hV, rfl, hfz, hnd⟩ := hW
  have hA : DataW.TrodAll enc Try.prog W 0 (fun _ => true) true Try.f3.params.toList args.toList ds p := hA0
  rw [Try.params3] at hA hval
  obtain ⟨v0, vs0, d0, ds0, p0, q0, hargs, rfl, rfl, h0, r0⟩ := trodAll_cons hA
  obtain ⟨rfl, rfl, rfl⟩ := trodAll_nil r0
  obtain rfl : args = #[v0] := by cases args; simp_all
  obtain ⟨rfl, rfl⟩ := trodVars_none hV
  have k0 := h0
  have lt0 : ∀ x ∈ p0, x.block < W.heap.size := by obtain ⟨m, hm⟩ := k0; exact DataW.trod_lt m _ _ _ hm
  obtain ⟨A0, n0, cap0, rfl⟩ := okWide_slice Try.underlying22 (hval 0 22 v0 rfl rfl)
  obtain ⟨xs0, rb0, hl0⟩ := open_byts Try.underlying22 Try.underlying5 (by kernel_rfl) h0
  clear hA0 hval0
  refine (walk W A0 n0 cap0 xs0 rb0 hl0).mono fun e W' ⟨he, bel⟩ => ?_
  subst he
  exact ⟨_, rfl, _, _, _, [], _, [], hW', trodAll_mk1 (shut_bool Try.underlying4 _), (trodAll_cons_mk (Below.trod laidOut (by kernel_rfl) (of_decide_eq_true (by kernel_rfl)) k0 bel lt0) trodAll_mk0), rfl, bel.frame _, fun h => by cases h⟩

theorem over : Rows.fnMergedRow.holds Try.pinned (OpenSpec.ofChange Rows.fnMergedSpec) :=
  OpenClaim.holds_of_wide 3 Try.f3 rfl rfl rfl rfl rfl rfl rfl ⟨rfl, rfl, rfl, rfl, rfl⟩ rfl rfl rfl rfl rfl (by kernel_rfl) Try.func3 (by kernel_rfl)
    (of_decide_eq_true (by kernel_rfl)) (by unfold Func.isWrapper; first | (rw [if_pos (by decide +kernel)]; kernel_rfl) | (rw [if_neg (by decide +kernel)]; exact ⟨rfl, rfl⟩))
    (fun os started H enc _ => lifted os started H enc)

/-- The given statement. -/
theorem proved : Rows.FnMergedSaid := over
end Go.Proofs.Ytdlcchoemladnaa.fnMerged
