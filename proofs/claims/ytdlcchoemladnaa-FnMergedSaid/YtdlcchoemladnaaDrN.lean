/-
  The draws of control blocks that may have faults, and of the arguments of the functions on owners. Nothing is said of what is drawn but its kind.
-/
import Derived.Test.YtdlcchoemladnaaDrM
namespace Go.Proofs.Ytdlcchoemladnaa
open Go.RowKit

theorem ctl_stores {w W : World} {g q : Nat} (t p : Int) (o : Bool) (hc : Cur W g) (hg : g < q) (k : Keep 0 0 w W) (hq : w.heap.size ≤ q) :
    Cur (((W.setCell ⟨q, 0, none⟩ (.int .i64 t)).setCell ⟨q, 1, none⟩ (.int .i64 p)).setCell ⟨q, 2, none⟩ (.bool o)) g ∧ Keep 0 0 w (((W.setCell ⟨q, 0, none⟩ (.int .i64 t)).setCell ⟨q, 1, none⟩ (.int .i64 p)).setCell ⟨q, 2, none⟩ (.bool o)) :=
  ⟨((hc.other _ hg).other _ hg).other _ hg, ((k.setCell (p := ⟨q, 0, none⟩) (.inr hq) _).setCell (p := ⟨q, 1, none⟩) (.inr hq) _).setCell (p := ⟨q, 2, none⟩) (.inr hq) _⟩
set_option maxRecDepth 100000 in
set_option maxHeartbeats 4000000 in
theorem l11Any_any (w : World) (g : Nat) (hc : Cur w g) : Calls Try.prog 50 #[.pointer (some ⟨g, 0, none⟩)] w (DrawnCtl w g) := by
  have hg := hc.lt
  have k0 := (Keep.refl g (g + 1) w).alloc (.cells #[.int .i64 0, .int .i64 0, .bool false] 25)
  have hc0 := hc.keep0 (keep_1 w (.cells #[.int .i64 0, .int .i64 0, .bool false] 25))
  have R0 := Lo.new w 25 #[.int .i64 0, .int .i64 0, .bool false] rfl
  go_enter Try.func50, Try.ntmps50
  go_wp2_with fail
  generalize w.alloc (.cells #[.int .i64 0, .int .i64 0, .bool false] 25) = W0 at k0 hc0 R0 ⊢
  refine (l11Ctl_any W0 g hc0).mono ?_
  rintro e W1 ⟨t, p, o, rfl, lt, lp, hc1, j1⟩
  have R1 := R0.move j1 hg
  have k1 := k0.win j1
  have ka := keep_1 W1 (.cells #[.int .i64 t, .int .i64 p, .bool o] 25)
  have R2 := R1.keep0 ka
  have k2 := k1.alloc (.cells #[.int .i64 t, .int .i64 p, .bool o] 25)
  have hc2 := hc1.keep0 ka
  have X2 := Lo.new W1 25 #[.int .i64 t, .int .i64 p, .bool o] rfl
  have hqg : g < W1.heap.size := hc1.lt
  have hqr : w.heap.size < W1.heap.size := R1.lt
  clear ka k1 R1 hc1 R0 k0 j1 hc0
  go_wp2_with fail
  generalize W1.alloc (.cells #[.int .i64 t, .int .i64 p, .bool o] 25) = W2 at k2 R2 hc2 X2 ⊢
  refine (l01Below_any W2 g hc2 8 (by omega) (by omega)).mono ?_
  rintro e W3 ⟨y, rfl, _, _, hc3, j3⟩
  have R3 := R2.move j3 hg
  have X3 := X2.move j3 hqg
  have k3 := k2.win j3
  clear k2 R2 hc2 X2 j3
  have HQ : y = 0 ∨ y = 1 ∨ y = 2 ∨ (y ≠ 0 ∧ y ≠ 1 ∧ y ≠ 2) := by omega
  rcases HQ with rfl | rfl | rfl | ⟨n0, n1, n2⟩
  · go_wp2_with fail
    refine (l01PickInt_lit W3 g hc3 [-1, 2, 3, 4] 4 rfl (by omega) (by omega) rfl).mono ?_
    rintro e W4 ⟨z, rfl, hm, hc4, j4⟩
    have lz : Lim z := by simp at hm; exact lim_of (by omega) (by omega)
    clear hm
    have X4 := X3.move j4 hqg
    have R9 := (R3.move j4 hg).other (b := W1.heap.size) (j := 0) (.int .i64 z) (by omega)
    have k9 := (k3.win j4).setCell (p := ⟨W1.heap.size, 0, none⟩) (.inr (Nat.le_of_lt hqr)) (.int .i64 z)
    have hc9 := hc4.other (j := 0) (.int .i64 z) hqg
    have X9 := X4.set3_0 (.int .i64 z)
    obtain ⟨x0, x1, _, x2, x3, _⟩ := X4.c3
    clear X4 hc4 j4 k3 X3 R3 hc3
    go_upto_region 9 with (fail)
    clear x0 x1 x2 x3
    generalize W4.setCell ⟨W1.heap.size, 0, none⟩ (.int .i64 z) = W9 at R9 k9 hc9 X9 ⊢
    obtain ⟨c0, c1, c2, _, _, _⟩ := X9.c3
    obtain ⟨r0, r1, r2, f0, f1, f2⟩ := R9.c3
    go_wp2
    refine bodyPost_ret (v := .agg #[.int .i64 z, .int .i64 p, .bool o]) (by simp [results, Try.results50, go_sem, r0, r1, r2]) rfl ?_
    exact ctl_end z p o lz lp hc9 hg k9
  · go_wp2_with fail
    refine (l01PickInt_lit W3 g hc3 [-1, 255, 256, 9223372036854775807] 4 rfl (by omega) (by omega) rfl).mono ?_
    rintro e W4 ⟨z, rfl, hm, hc4, j4⟩
    have lz : Lim z := by simp at hm; exact ⟨by omega, by omega⟩
    clear hm
    have X4 := X3.move j4 hqg
    have R9 := (R3.move j4 hg).other (b := W1.heap.size) (j := 1) (.int .i64 z) (by omega)
    have k9 := (k3.win j4).setCell (p := ⟨W1.heap.size, 1, none⟩) (.inr (Nat.le_of_lt hqr)) (.int .i64 z)
    have hc9 := hc4.other (j := 1) (.int .i64 z) hqg
    have X9 := X4.set3_1 (.int .i64 z)
    obtain ⟨x0, x1, _, x2, x3, _⟩ := X4.c3
    clear X4 hc4 j4 k3 X3 R3 hc3
    go_upto_region 9 with (fail)
    clear x0 x1 x2 x3
    generalize W4.setCell ⟨W1.heap.size, 1, none⟩ (.int .i64 z) = W9 at R9 k9 hc9 X9 ⊢
    obtain ⟨c0, c1, c2, _, _, _⟩ := X9.c3
    obtain ⟨r0, r1, r2, f0, f1, f2⟩ := R9.c3
    go_wp2
    refine bodyPost_ret (v := .agg #[.int .i64 t, .int .i64 z, .bool o]) (by simp [results, Try.results50, go_sem, r0, r1, r2]) rfl ?_
    exact ctl_end t z o lt lz hc9 hg k9
  · obtain ⟨x0, x1, x2, _, _, x3⟩ := X3.c3
    have R9 := R3.other (b := W1.heap.size) (j := 2) (.bool (!o)) (by omega)
    have k9 := k3.setCell (p := ⟨W1.heap.size, 2, none⟩) (.inr (Nat.le_of_lt hqr)) (.bool (!o))
    have hc9 := hc3.other (j := 2) (.bool (!o)) hqg
    have X9 := X3.set3_2 (.bool (!o))
    go_upto_region 9 with (fail)
    clear x0 x1 x2 x3 k3 X3 R3 hc3
    generalize W3.setCell ⟨W1.heap.size, 2, none⟩ (.bool (!o)) = W9 at R9 k9 hc9 X9 ⊢
    obtain ⟨c0, c1, c2, _, _, _⟩ := X9.c3
    obtain ⟨r0, r1, r2, f0, f1, f2⟩ := R9.c3
    go_wp2
    refine bodyPost_ret (v := .agg #[.int .i64 t, .int .i64 p, .bool (!o)]) (by simp [results, Try.results50, go_sem, r0, r1, r2]) rfl ?_
    exact ctl_end t p (!o) lt lp hc9 hg k9
  · have m0 : (y == 0) = false := by simpa using n0
    have m1 : (y == 1) = false := by simpa using n1
    have m2 : (y == 2) = false := by simpa using n2
    have X9 := X3
    have R9 := R3
    clear n0 n1 n2
    obtain ⟨c0, c1, c2, _, _, _⟩ := X9.c3
    obtain ⟨r0, r1, r2, f0, f1, f2⟩ := R9.c3
    go_wp2
    refine bodyPost_ret (v := .agg #[.int .i64 t, .int .i64 p, .bool o]) (by simp [results, Try.results50, go_sem, r0, r1, r2]) rfl ?_
    exact ctl_end t p o lt lp hc3 hg k3
set_option maxRecDepth 100000 in
set_option maxHeartbeats 2000000 in
theorem DrawMergeTraps_any (w : World) (v : Value) (bs : List Int) (hr : Rd w w.heap.size 1 v (byts bs)) : Calls Try.prog 15 #[v] w fun e w' => ∃ x y : Int, e = .returned (.tuple #[.int .i64 x, .int .i64 y]) ∧ Keep 0 0 w w' := by
  go_enter Try.func15, Try.ntmps15
  go_wp2_with fail
  refine (l01New_any w v bs hr).mono ?_
  rintro e W1 ⟨rfl, hc1, k1⟩
  go_wp2_with fail
  refine (l12Traps_any W1 _ hc1).mono ?_
  rintro e W2 ⟨x, rfl, hc2, j2⟩
  have k2 := k1.trm j2 (Nat.le_refl _)
  clear k1 j2 hc1
  go_wp2_with fail
  refine (l12Traps_any W2 _ hc2).mono ?_
  rintro e W3 ⟨y, rfl, hc3, j3⟩
  have k3 := k2.trm j3 (Nat.le_refl _)
  clear k2 j3 hc2
  go_wp2
  go_returns
  exact ⟨x, y, rfl, k3⟩
set_option maxRecDepth 100000 in
set_option maxHeartbeats 2000000 in
theorem DrawOwnerOf_any (w : World) (v : Value) (bs : List Int) (hr : Rd w w.heap.size 1 v (byts bs)) : Calls Try.prog 11 #[v] w fun e w' => ∃ x y z : Int, e = .returned (.tuple #[.int .i64 x, .int .i64 y, .int .i64 z]) ∧ Keep 0 0 w w' := by
  go_enter Try.func11, Try.ntmps11
  go_wp2_with fail
  refine (l01New_any w v bs hr).mono ?_
  rintro e W1 ⟨rfl, hc1, k1⟩
  go_wp2_with fail
  refine (l12Traps_any W1 _ hc1).mono ?_
  rintro e W2 ⟨x, rfl, hc2, j2⟩
  have k2 := k1.trm j2 (Nat.le_refl _)
  clear k1 j2 hc1
  go_wp2_with fail
  refine (l12Traps_any W2 _ hc2).mono ?_
  rintro e W3 ⟨y, rfl, hc3, j3⟩
  have k3 := k2.trm j3 (Nat.le_refl _)
  clear k2 j3 hc2
  go_wp2_with fail
  refine (l01Below_any W3 _ hc3 5 (by omega) (by omega)).mono ?_
  rintro e W4 ⟨z, rfl, _, _, _, j4⟩
  have k4 := k3.trm j4 (Nat.le_refl _)
  clear k3 j4 hc3
  go_wp2
  go_returns
  exact ⟨x, y, _, rfl, k4⟩
theorem DrawOwnersOf_any (w : World) (v : Value) (bs : List Int) (hr : Rd w w.heap.size 1 v (byts bs)) : Calls Try.prog 13 #[v] w fun e w' => ∃ x y : Int, e = .returned (.tuple #[.int .i64 x, .int .i64 y]) ∧ Keep 0 0 w w' := by
  go_enter Try.func13, Try.ntmps13
  go_wp2_with fail
  refine (DrawMergeTraps_any w v bs hr).mono ?_
  rintro e W1 ⟨x, y, rfl, k1⟩
  go_wp2
  go_returns
  exact ⟨x, y, rfl, k1⟩
set_option maxRecDepth 100000 in
set_option maxHeartbeats 2000000 in
theorem DrawMergedCtl_any (w : World) (v : Value) (bs : List Int) (hr : Rd w w.heap.size 1 v (byts bs)) : Calls Try.prog 9 #[v] w fun e w' => ∃ (u t p : Int) (o : Bool), e = .returned (.tuple #[.int .i64 u, .agg #[.int .i64 t, .int .i64 p, .bool o]]) ∧ Keep 0 0 w w' := by
  have k0 := keep_1 w (.cells #[.int .i64 0, .int .i64 0, .bool false] 25)
  have hr0 := (hr.keep k0 (Nat.le_refl _) (.inr (Nat.le_refl 0))).mono k0.size
  have R0 := Lo.new w 25 #[.int .i64 0, .int .i64 0, .bool false] rfl
  go_enter Try.func9, Try.ntmps9
  go_wp2_with fail
  generalize w.alloc (.cells #[.int .i64 0, .int .i64 0, .bool false] 25) = W0 at k0 hr0 R0 ⊢
  refine (l01New_any W0 v bs hr0).mono ?_
  rintro e W1 ⟨rfl, hc1, j1⟩
  have R1 := R0.keep0 j1
  have k1 := k0.tr0 j1
  have z0 : w.heap.size < W0.heap.size := R0.lt
  have zz : w.heap.size ≤ W0.heap.size := Nat.le_of_lt z0
  clear k0 j1 hr0 R0
  go_wp2_with fail
  refine (l12Traps_any W1 _ hc1).mono ?_
  rintro e W2 ⟨u, rfl, hc2, j2⟩
  have R2 : Lo W2 w.heap.size 25 #[.int .i64 0, .int .i64 0, .bool false] := ⟨(j2.block _ R1.lt (.inl z0)).trans R1.row⟩
  have k2 := k1.trm j2 zz
  clear k1 j2 hc1 R1
  go_wp2_with fail
  refine (l11Any_any W2 _ hc2).mono ?_
  rintro e W3 ⟨t, p, o, rfl, lt, lp, hc3, j3⟩
  have R3 : Lo W3 w.heap.size 25 #[.int .i64 0, .int .i64 0, .bool false] := ⟨(j3.block _ R2.lt (.inl z0)).trans R2.row⟩
  have k3 := k2.trm j3 zz
  clear k2 j3 hc2 R2
  obtain ⟨r0, r1, r2, f0, f1, f2⟩ := R3.c3
  go_wp2
  refine bodyPost_ret (v := .tuple #[.int .i64 u, .agg #[.int .i64 t, .int .i64 p, .bool o]]) (by simp [results, Try.results9, go_sem, r0, r1, r2]) rfl ?_
  exact ⟨u, t, p, o, rfl, ((k3.setCell (p := ⟨w.heap.size, 0, none⟩) (.inr (Nat.le_refl _)) _).setCell (p := ⟨w.heap.size, 1, none⟩) (.inr (Nat.le_refl _)) _).setCell (p := ⟨w.heap.size, 2, none⟩) (.inr (Nat.le_refl _)) _⟩
end Go.Proofs.Ytdlcchoemladnaa
