/-
  The draws of exits. Nothing is said of what is drawn but its kind, and that the numbers are integers of the machine.
-/
import Derived.Test.YtdlcchoemladnaaDoorLoc
import Derived.Test.YtdlcchoemladnaaDoorExC
import Derived.Deep.Cut
namespace Go.Proofs.YtdlcchoemladnaaDoor
open Go.RowKit

def DrawnExit (w : World) (g : Nat) (e : Ending) (w' : World) : Prop := ∃ (k p : Int) (b : Bool) (n : Int), e = .returned (.agg #[.int .i64 k, .int .i64 p, .bool b, .int .i64 n]) ∧ Lim p ∧ Lim n ∧ Cur w' g ∧ Keep g (g + 1) w w'
theorem exit_end {w W : World} {g : Nat} (k p : Int) (b : Bool) (n : Int) (hp : Lim p) (hn : Lim n) (hc : Cur W g) (hg : g < w.heap.size) (K : Keep g (g + 1) w W) :
    DrawnExit w g (.returned (.agg #[.int .i64 k, .int .i64 p, .bool b, .int .i64 n])) ((((W.setCell ⟨w.heap.size, 0, none⟩ (.int .i64 k)).setCell ⟨w.heap.size, 1, none⟩ (.int .i64 p)).setCell ⟨w.heap.size, 2, none⟩ (.bool b)).setCell ⟨w.heap.size, 3, none⟩ (.int .i64 n)) :=
  ⟨k, p, b, n, rfl, hp, hn, (((hc.other _ hg).other _ hg).other _ hg).other _ hg, (((K.setCell (p := ⟨w.heap.size, 0, none⟩) (.inr (Nat.le_refl _)) _).setCell (p := ⟨w.heap.size, 1, none⟩) (.inr (Nat.le_refl _)) _).setCell (p := ⟨w.heap.size, 2, none⟩) (.inr (Nat.le_refl _)) _).setCell (p := ⟨w.heap.size, 3, none⟩) (.inr (Nat.le_refl _)) _⟩
set_option maxRecDepth 100000 in
set_option maxHeartbeats 4000000 in
theorem l13Exit_any (w : World) (g : Nat) (hc : Cur w g) : Calls Tryd.prog 50 #[.pointer (some ⟨g, 0, none⟩)] w (DrawnExit w g) := by
  have hg := hc.lt
  have k0 := (Keep.refl g (g + 1) w).alloc (.cells #[.int .i64 0, .int .i64 0, .bool false, .int .i64 0] 28)
  have hc0 := hc.keep0 (keep_1 w (.cells #[.int .i64 0, .int .i64 0, .bool false, .int .i64 0] 28))
  have R0 := Lo.new w 28 #[.int .i64 0, .int .i64 0, .bool false, .int .i64 0] rfl
  go_enter Tryd.func50, Tryd.ntmps50
  go_wp2_with fail
  generalize w.alloc (.cells #[.int .i64 0, .int .i64 0, .bool false, .int .i64 0] 28) = W0 at k0 hc0 R0 ⊢
  refine (l01Below_any W0 g hc0 5 (by omega) (by omega)).mono ?_
  rintro e W1 ⟨y, rfl, y0, y5, hc1, j1⟩
  have R1 := R0.move j1 hg
  have k1 := k0.win j1
  clear R0 k0 j1 hc0
  have hy : y = 0 ∨ y = 1 ∨ y = 2 ∨ y = 3 ∨ y = 4 := by omega
  clear y0 y5
  rcases hy with rfl | rfl | rfl | rfl | rfl
  · skip
    go_wp2_with fail
    refine (l01Below_any W1 g hc1 4 (by omega) (by omega)).mono ?_
    rintro e W2 ⟨x, rfl, x0, x1, hc2, j2⟩
    have R2 := R1.move j2 hg
    have k2 := k1.win j2
    clear R1 k1 j2 hc1
    go_wp2_with fail
    refine (l01Once_any W2 g hc2 2 (by omega) (by omega)).mono ?_
    rintro e W3 ⟨b, rfl, hc3, j3⟩
    have R3 := R2.move j3 hg
    have k3 := k2.win j3
    clear R2 k2 j3 hc2
    go_wp2_with fail
    refine (specFaultExit_any _ _ W3).mono ?_
    rintro e W4 ⟨rfl, j4⟩
    have hc4 := hc3.keep0 j4
    have R4 := R3.keep0 j4
    have k4 := k3.win (j4.any0 _ _)
    clear R3 k3 j4 hc3
    obtain ⟨r0, r1, r2, r3, u0, u1, u2, u3⟩ := R4.c4
    go_wp2
    refine bodyPost_ret (v := .agg #[.int .i64 1, .int .i64 x, .bool b, .int .i64 0]) (by simp [results, Tryd.results50, go_sem, r0, r1, r2, r3]) rfl ?_
    exact exit_end _ _ _ _ (lim_of (by omega) (by omega)) (lim_of (by omega) (by omega)) hc4 hg k4
  · skip
    go_wp2_with fail
    refine (l01Below_any W1 g hc1 100 (by omega) (by omega)).mono ?_
    rintro e W2 ⟨x, rfl, x0, x1, hc2, j2⟩
    have R2 := R1.move j2 hg
    have k2 := k1.win j2
    clear R1 k1 j2 hc1
    go_wp2_with fail
    refine (specCallExit_any _ W2).mono ?_
    rintro e W3 ⟨rfl, j3⟩
    have hc3 := hc2.keep0 j3
    have R3 := R2.keep0 j3
    have k3 := k2.win (j3.any0 _ _)
    clear R2 k2 j3 hc2
    obtain ⟨r0, r1, r2, r3, u0, u1, u2, u3⟩ := R3.c4
    go_wp2
    refine bodyPost_ret (v := .agg #[.int .i64 2, .int .i64 0, .bool false, .int .i64 x]) (by simp [results, Tryd.results50, go_sem, r0, r1, r2, r3]) rfl ?_
    exact exit_end _ _ _ _ (lim_of (by omega) (by omega)) (lim_of (by omega) (by omega)) hc3 hg k3
  · skip
    go_wp2_with fail
    refine (l01Below_any W1 g hc1 100 (by omega) (by omega)).mono ?_
    rintro e W2 ⟨x, rfl, x0, x1, hc2, j2⟩
    have R2 := R1.move j2 hg
    have k2 := k1.win j2
    clear R1 k1 j2 hc1
    go_wp2_with fail
    refine (specOutExit_any _ W2).mono ?_
    rintro e W3 ⟨rfl, j3⟩
    have hc3 := hc2.keep0 j3
    have R3 := R2.keep0 j3
    have k3 := k2.win (j3.any0 _ _)
    clear R2 k2 j3 hc2
    obtain ⟨r0, r1, r2, r3, u0, u1, u2, u3⟩ := R3.c4
    go_wp2
    refine bodyPost_ret (v := .agg #[.int .i64 3, .int .i64 0, .bool false, .int .i64 x]) (by simp [results, Tryd.results50, go_sem, r0, r1, r2, r3]) rfl ?_
    exact exit_end _ _ _ _ (lim_of (by omega) (by omega)) (lim_of (by omega) (by omega)) hc3 hg k3
  · skip
    obtain ⟨r0, r1, r2, r3, u0, u1, u2, u3⟩ := R1.c4
    go_wp2
    refine bodyPost_ret (v := .agg #[.int .i64 4, .int .i64 0, .bool false, .int .i64 0]) (by simp [results, Tryd.results50, go_sem, r0, r1, r2, r3]) rfl ?_
    exact exit_end _ _ _ _ (lim_of (by omega) (by omega)) (lim_of (by omega) (by omega)) hc1 hg k1
  · skip
    obtain ⟨r0, r1, r2, r3, u0, u1, u2, u3⟩ := R1.c4
    go_wp2
    refine bodyPost_ret (v := .agg #[.int .i64 0, .int .i64 0, .bool false, .int .i64 0]) (by simp [results, Tryd.results50, go_sem, r0, r1, r2, r3]) rfl ?_
    exact exit_end _ _ _ _ (lim_of (by omega) (by omega)) (lim_of (by omega) (by omega)) hc1 hg k1
set_option maxRecDepth 100000 in
set_option maxHeartbeats 4000000 in
theorem l13Any_any (w : World) (g : Nat) (hc : Cur w g) : Calls Tryd.prog 41 #[.pointer (some ⟨g, 0, none⟩)] w (DrawnExit w g) := by
  have hg := hc.lt
  have k0 := (Keep.refl g (g + 1) w).alloc (.cells #[.int .i64 0, .int .i64 0, .bool false, .int .i64 0] 28)
  have hc0 := hc.keep0 (keep_1 w (.cells #[.int .i64 0, .int .i64 0, .bool false, .int .i64 0] 28))
  have R0 := Lo.new w 28 #[.int .i64 0, .int .i64 0, .bool false, .int .i64 0] rfl
  go_enter Tryd.func41, Tryd.ntmps41
  go_wp2_with fail
  generalize w.alloc (.cells #[.int .i64 0, .int .i64 0, .bool false, .int .i64 0] 28) = W0 at k0 hc0 R0 ⊢
  refine (l13Exit_any W0 g hc0).mono ?_
  rintro e W1 ⟨k, p, b, n, rfl, hp, hn, hc1, j1⟩
  have R1 := R0.move j1 hg
  have k1 := k0.win j1
  have ka := keep_1 W1 (.cells #[.int .i64 k, .int .i64 p, .bool b, .int .i64 n] 28)
  have R2 := R1.keep0 ka
  have k2 := k1.alloc (.cells #[.int .i64 k, .int .i64 p, .bool b, .int .i64 n] 28)
  have hc2 := hc1.keep0 ka
  have X2 := Lo.new W1 28 #[.int .i64 k, .int .i64 p, .bool b, .int .i64 n] rfl
  have hqg : g < W1.heap.size := hc1.lt
  have hqr : w.heap.size < W1.heap.size := R1.lt
  clear ka k1 R1 hc1 R0 k0 j1 hc0
  go_wp2_with fail
  generalize W1.alloc (.cells #[.int .i64 k, .int .i64 p, .bool b, .int .i64 n] 28) = W2 at k2 R2 hc2 X2 ⊢
  refine (l01Below_any W2 g hc2 8 (by omega) (by omega)).mono ?_
  rintro e W3 ⟨y, rfl, _, _, hc3, j3⟩
  have R3 := R2.move j3 hg
  have X3 := X2.move j3 hqg
  have k3 := k2.win j3
  clear k2 R2 hc2 X2 j3
  have HQ : y = 0 ∨ y = 1 ∨ y = 2 ∨ (y ≠ 0 ∧ y ≠ 1 ∧ y ≠ 2) := by omega
  rcases HQ with rfl | rfl | rfl | ⟨n0, n1, n2⟩
  · go_wp2_with fail
    refine (l01Below_any W3 g hc3 7 (by omega) (by omega)).mono ?_
    rintro e W4 ⟨z, rfl, z0, z1, hc4, j4⟩
    have X4 := X3.move j4 hqg
    have R9 := (R3.move j4 hg).other (b := W1.heap.size) (j := 0) (.int .i64 (z - 1)) (by omega)
    have k9 := (k3.win j4).setCell (p := ⟨W1.heap.size, 0, none⟩) (.inr (Nat.le_of_lt hqr)) (.int .i64 (z - 1))
    have hc9 := hc4.other (j := 0) (.int .i64 (z - 1)) hqg
    have X9 := X4.set 0 (.int .i64 (z - 1))
    obtain ⟨x0, x1, x2, x3, v0, v1, v2, v3⟩ := X4.c4
    clear X4 hc4 j4 k3 X3 R3 hc3
    go_upto_region 9 with (fail)
    clear x0 x1 x2 x3 v0 v1 v2 v3
    generalize W4.setCell ⟨W1.heap.size, 0, none⟩ (.int .i64 (z - 1)) = W9 at R9 k9 hc9 X9 ⊢
    have X9' : Lo W9 W1.heap.size 28 #[.int .i64 (z - 1), .int .i64 p, .bool b, .int .i64 n] := X9
    obtain ⟨c0, c1, c2, c3, _⟩ := X9'.c4
    obtain ⟨r0, r1, r2, r3, f0, f1, f2, f3⟩ := R9.c4
    go_wp2
    refine bodyPost_ret (v := .agg #[.int .i64 (z - 1), .int .i64 p, .bool b, .int .i64 n]) (by simp [results, Tryd.results41, go_sem, r0, r1, r2, r3]) rfl ?_
    exact exit_end _ _ _ _ hp hn hc9 hg k9
  · go_wp2_with fail
    refine (l01PickInt_lit W3 g hc3 [-1, 3, 4] 3 rfl (by omega) (by omega) rfl).mono ?_
    rintro e W4 ⟨z, rfl, hm, hc4, j4⟩
    have hz : Lim z := by simp at hm; exact lim_of (by omega) (by omega)
    have X4 := X3.move j4 hqg
    have R9 := (R3.move j4 hg).other (b := W1.heap.size) (j := 1) (.int .i64 z) (by omega)
    have k9 := (k3.win j4).setCell (p := ⟨W1.heap.size, 1, none⟩) (.inr (Nat.le_of_lt hqr)) (.int .i64 z)
    have hc9 := hc4.other (j := 1) (.int .i64 z) hqg
    have X9 := X4.set 1 (.int .i64 z)
    obtain ⟨x0, x1, x2, x3, v0, v1, v2, v3⟩ := X4.c4
    clear X4 hc4 j4 k3 X3 R3 hc3
    go_upto_region 9 with (fail)
    clear x0 x1 x2 x3 v0 v1 v2 v3
    generalize W4.setCell ⟨W1.heap.size, 1, none⟩ (.int .i64 z) = W9 at R9 k9 hc9 X9 ⊢
    have X9' : Lo W9 W1.heap.size 28 #[.int .i64 k, .int .i64 z, .bool b, .int .i64 n] := X9
    obtain ⟨c0, c1, c2, c3, _⟩ := X9'.c4
    obtain ⟨r0, r1, r2, r3, f0, f1, f2, f3⟩ := R9.c4
    go_wp2
    refine bodyPost_ret (v := .agg #[.int .i64 k, .int .i64 z, .bool b, .int .i64 n]) (by simp [results, Tryd.results41, go_sem, r0, r1, r2, r3]) rfl ?_
    exact exit_end _ _ _ _ hz hn hc9 hg k9
  · go_wp2_with fail
    refine (l01PickInt_lit W3 g hc3 [-1, 99, 100] 3 rfl (by omega) (by omega) rfl).mono ?_
    rintro e W4 ⟨z, rfl, hm, hc4, j4⟩
    have hz : Lim z := by simp at hm; exact lim_of (by omega) (by omega)
    have X4 := X3.move j4 hqg
    have R9 := (R3.move j4 hg).other (b := W1.heap.size) (j := 3) (.int .i64 z) (by omega)
    have k9 := (k3.win j4).setCell (p := ⟨W1.heap.size, 3, none⟩) (.inr (Nat.le_of_lt hqr)) (.int .i64 z)
    have hc9 := hc4.other (j := 3) (.int .i64 z) hqg
    have X9 := X4.set 3 (.int .i64 z)
    obtain ⟨x0, x1, x2, x3, v0, v1, v2, v3⟩ := X4.c4
    clear X4 hc4 j4 k3 X3 R3 hc3
    go_upto_region 9 with (fail)
    clear x0 x1 x2 x3 v0 v1 v2 v3
    generalize W4.setCell ⟨W1.heap.size, 3, none⟩ (.int .i64 z) = W9 at R9 k9 hc9 X9 ⊢
    have X9' : Lo W9 W1.heap.size 28 #[.int .i64 k, .int .i64 p, .bool b, .int .i64 z] := X9
    obtain ⟨c0, c1, c2, c3, _⟩ := X9'.c4
    obtain ⟨r0, r1, r2, r3, f0, f1, f2, f3⟩ := R9.c4
    go_wp2
    refine bodyPost_ret (v := .agg #[.int .i64 k, .int .i64 p, .bool b, .int .i64 z]) (by simp [results, Tryd.results41, go_sem, r0, r1, r2, r3]) rfl ?_
    exact exit_end _ _ _ _ hp hz hc9 hg k9
  · have m0 : (y == 0) = false := by simpa using n0
    have m1 : (y == 1) = false := by simpa using n1
    have m2 : (y == 2) = false := by simpa using n2
    clear n0 n1 n2
    obtain ⟨c0, c1, c2, c3, _⟩ := X3.c4
    obtain ⟨r0, r1, r2, r3, f0, f1, f2, f3⟩ := R3.c4
    go_wp2
    refine bodyPost_ret (v := .agg #[.int .i64 k, .int .i64 p, .bool b, .int .i64 n]) (by simp [results, Tryd.results41, go_sem, r0, r1, r2, r3]) rfl ?_
    exact exit_end _ _ _ _ hp hn hc3 hg k3
set_option maxRecDepth 100000 in
set_option maxHeartbeats 2000000 in
theorem DrawExitOk_any (w : World) (v : Value) (bs : List Int) (hr : Rd w w.heap.size 1 v (byts bs)) : Calls Tryd.prog 10 #[v] w fun e w' => ∃ (k p : Int) (b : Bool) (n : Int), e = .returned (.agg #[.int .i64 k, .int .i64 p, .bool b, .int .i64 n]) ∧ Lim p ∧ Lim n ∧ Keep 0 0 w w' := by
  have k0 := keep_1 w (.cells #[.int .i64 0, .int .i64 0, .bool false, .int .i64 0] 28)
  have hr0 := (hr.keep k0 (Nat.le_refl _) (.inr (Nat.le_refl 0))).mono k0.size
  have R0 := Lo.new w 28 #[.int .i64 0, .int .i64 0, .bool false, .int .i64 0] rfl
  go_enter Tryd.func10, Tryd.ntmps10
  go_wp2_with fail
  generalize w.alloc (.cells #[.int .i64 0, .int .i64 0, .bool false, .int .i64 0] 28) = W0 at k0 hr0 R0 ⊢
  refine (l01New_any W0 v bs hr0).mono ?_
  rintro e W1 ⟨rfl, hc1, j1⟩
  have R1 := R0.keep0 j1
  have k1 := k0.tr0 j1
  have z0 : w.heap.size < W0.heap.size := R0.lt
  have zz : w.heap.size ≤ W0.heap.size := Nat.le_of_lt z0
  clear k0 j1 hr0 R0
  go_wp2_with fail
  refine (l13Any_any W1 _ hc1).mono ?_
  rintro e W2 ⟨k, p, b, n, rfl, hp, hn, hc2, j2⟩
  have R2 : Lo W2 w.heap.size 28 #[.int .i64 0, .int .i64 0, .bool false, .int .i64 0] := ⟨(j2.block _ R1.lt (.inl z0)).trans R1.row⟩
  have k2 := k1.trm j2 zz
  clear k1 j2 hc1 R1
  obtain ⟨r0, r1, r2, r3, f0, f1, f2, f3⟩ := R2.c4
  go_wp2
  refine bodyPost_ret (v := .agg #[.int .i64 k, .int .i64 p, .bool b, .int .i64 n]) (by simp [results, Tryd.results10, go_sem, r0, r1, r2, r3]) rfl ?_
  exact ⟨k, p, b, n, rfl, hp, hn, (((k2.setCell (p := ⟨w.heap.size, 0, none⟩) (.inr (Nat.le_refl _)) _).setCell (p := ⟨w.heap.size, 1, none⟩) (.inr (Nat.le_refl _)) _).setCell (p := ⟨w.heap.size, 2, none⟩) (.inr (Nat.le_refl _)) _).setCell (p := ⟨w.heap.size, 3, none⟩) (.inr (Nat.le_refl _)) _⟩
set_option maxHeartbeats 2000000 in
theorem DrawExitName_any (w : World) (v : Value) (bs : List Int) (hr : Rd w w.heap.size 1 v (byts bs)) : Calls Tryd.prog 11 #[v] w fun e w' => ∃ x : Int, e = .returned (.int .i64 x) ∧ -1 ≤ x ∧ x < 6 ∧ Keep 0 0 w w' := by
  go_enter Tryd.func11, Tryd.ntmps11
  go_wp2_with fail
  refine (l01New_any w v bs hr).mono ?_
  rintro e W1 ⟨rfl, hc1, k1⟩
  go_wp2_with fail
  refine (l01Below_any W1 _ hc1 7 (by omega) (by omega)).mono ?_
  rintro e W2 ⟨x, rfl, x0, x1, hc2, j2⟩
  have k2 := k1.trm j2 (Nat.le_refl _)
  clear k1 j2 hc1
  go_wp2
  go_ret
  exact ⟨x - 1, rfl, by omega, by omega, k2⟩
set_option maxHeartbeats 2000000 in
theorem DrawCallExit_any (w : World) (v : Value) (bs : List Int) (hr : Rd w w.heap.size 1 v (byts bs)) : Calls Tryd.prog 8 #[v] w fun e w' => ∃ x : Int, e = .returned (.int .i64 x) ∧ -1 ≤ x ∧ x < 101 ∧ Keep 0 0 w w' := by
  go_enter Tryd.func8, Tryd.ntmps8
  go_wp2_with fail
  refine (l01New_any w v bs hr).mono ?_
  rintro e W1 ⟨rfl, hc1, k1⟩
  go_wp2_with fail
  refine (l01Below_any W1 _ hc1 102 (by omega) (by omega)).mono ?_
  rintro e W2 ⟨x, rfl, x0, x1, hc2, j2⟩
  have k2 := k1.trm j2 (Nat.le_refl _)
  clear k1 j2 hc1
  go_wp2
  go_ret
  exact ⟨x - 1, rfl, by omega, by omega, k2⟩
set_option maxHeartbeats 2000000 in
theorem DrawOutExit_any (w : World) (v : Value) (bs : List Int) (hr : Rd w w.heap.size 1 v (byts bs)) : Calls Tryd.prog 9 #[v] w fun e w' => ∃ x : Int, e = .returned (.int .i64 x) ∧ -1 ≤ x ∧ x < 101 ∧ Keep 0 0 w w' := by
  go_enter Tryd.func9, Tryd.ntmps9
  go_wp2_with fail
  refine (l01New_any w v bs hr).mono ?_
  rintro e W1 ⟨rfl, hc1, k1⟩
  go_wp2_with fail
  refine (l01Below_any W1 _ hc1 102 (by omega) (by omega)).mono ?_
  rintro e W2 ⟨x, rfl, x0, x1, hc2, j2⟩
  have k2 := k1.trm j2 (Nat.le_refl _)
  clear k1 j2 hc1
  go_wp2
  go_ret
  exact ⟨x - 1, rfl, by omega, by omega, k2⟩
set_option maxHeartbeats 2000000 in
theorem DrawFaultExit_any (w : World) (v : Value) (bs : List Int) (hr : Rd w w.heap.size 1 v (byts bs)) : Calls Tryd.prog 7 #[v] w fun e w' => ∃ (x : Int) (b : Bool), e = .returned (.tuple #[.int .i64 x, .bool b]) ∧ -1 ≤ x ∧ x < 5 ∧ Keep 0 0 w w' := by
  go_enter Tryd.func7, Tryd.ntmps7
  go_wp2_with fail
  refine (l01New_any w v bs hr).mono ?_
  rintro e W1 ⟨rfl, hc1, k1⟩
  go_wp2_with fail
  refine (l01Below_any W1 _ hc1 6 (by omega) (by omega)).mono ?_
  rintro e W2 ⟨x, rfl, x0, x1, hc2, j2⟩
  have k2 := k1.trm j2 (Nat.le_refl _)
  clear k1 j2 hc1
  go_wp2_with fail
  refine (l01Once_any W2 _ hc2 2 (by omega) (by omega)).mono ?_
  rintro e W3 ⟨b, rfl, hc3, j3⟩
  have k3 := k2.trm j3 (Nat.le_refl _)
  clear k2 j3 hc2
  go_wp2
  go_returns
  exact ⟨x - 1, b, rfl, by omega, by omega, k3⟩
theorem okf_low {p : Int} {b : Bool} (h : p < 0) : exitOkT 1 p b 0 = false := by simp [exitOkT]; exact inB_f1 h
theorem okf_in {p : Int} {b : Bool} (h : 0 ≤ p) (h2 : p ≤ 3) : exitOkT 1 p b 0 = true := by simp [exitOkT]; exact inB_t h h2
theorem okf_high {p : Int} {b : Bool} (h : 3 < p) : exitOkT 1 p b 0 = false := by simp [exitOkT]; exact inB_f2 h
theorem okf_dec {p : Int} {b : Bool} (h : 0 ≤ p) : exitOkT 1 p b 0 = decide (p ≤ 3) := by simp [exitOkT, inB, h]
theorem okc_dec {n : Int} (h : 0 ≤ n) : exitOkT 2 0 false n = decide (n ≤ 99) := by simp [exitOkT, inB, h]
theorem okc_low {n : Int} (h : n < 0) : exitOkT 2 0 false n = false := by simp [exitOkT]; exact inB_f1 h
theorem okc_in {n : Int} (h : 0 ≤ n) (h2 : n ≤ 99) : exitOkT 2 0 false n = true := by simp [exitOkT]; exact inB_t h h2
theorem okc_high {n : Int} (h : 99 < n) : exitOkT 2 0 false n = false := by simp [exitOkT]; exact inB_f2 h
theorem fault_two : exitS 1 2 true 0 = ⟨#[102, 97, 117, 108, 116, 32, 50, 32, 119]⟩ := by
  unfold exitS
  rw [if_pos rfl, decS_small 2 (by omega) (by omega)]
  rfl
end Go.Proofs.YtdlcchoemladnaaDoor
