/-
  The draws of trap masks and control blocks. Nothing is said of what is drawn but its kind.
-/
import Derived.Test.YtdlcchoemladnaaLoc
import Derived.Test.YtdlcchoemladnaaExit
import Derived.Deep.Cut
import Derived.Deep.RegionHeld3
namespace Go.Proofs.Ytdlcchoemladnaa
open Go.RowKit

def DrawnInt (w : World) (g : Nat) (e : Ending) (w' : World) : Prop := ∃ x : Int, e = .returned (.int .i64 x) ∧ Cur w' g ∧ Keep g (g + 1) w w'
def DrawnCtl (w : World) (g : Nat) (e : Ending) (w' : World) : Prop := ∃ (t p : Int) (o : Bool), e = .returned (.agg #[.int .i64 t, .int .i64 p, .bool o]) ∧ Lim t ∧ Lim p ∧ Cur w' g ∧ Keep g (g + 1) w w'
theorem ctl_end {w W : World} {g : Nat} (t p : Int) (o : Bool) (lt : Lim t) (lp : Lim p) (hc : Cur W g) (hg : g < w.heap.size) (k : Keep g (g + 1) w W) :
    DrawnCtl w g (.returned (.agg #[.int .i64 t, .int .i64 p, .bool o])) (((W.setCell ⟨w.heap.size, 0, none⟩ (.int .i64 t)).setCell ⟨w.heap.size, 1, none⟩ (.int .i64 p)).setCell ⟨w.heap.size, 2, none⟩ (.bool o)) :=
  ⟨t, p, o, rfl, lt, lp, ((hc.other _ hg).other _ hg).other _ hg, ((k.setCell (p := ⟨w.heap.size, 0, none⟩) (.inr (Nat.le_refl _)) _).setCell (p := ⟨w.heap.size, 1, none⟩) (.inr (Nat.le_refl _)) _).setCell (p := ⟨w.heap.size, 2, none⟩) (.inr (Nat.le_refl _)) _⟩
set_option maxRecDepth 100000 in
set_option maxHeartbeats 2000000 in
theorem l12Traps_any (w : World) (g : Nat) (hc : Cur w g) : Calls Try.prog 49 #[.pointer (some ⟨g, 0, none⟩)] w (DrawnInt w g) := by
  go_enter Try.func49, Try.ntmps49
  go_wp2_with fail
  refine (l01PickInt_lit w g hc [0, 1, 2, 3, 0, 1, -1, 4, 9223372036854775807] 9 rfl (by omega) (by omega) rfl).mono ?_
  rintro e w1 ⟨x, rfl, _, hc1, hk1⟩
  go_wp2
  go_ret
  exact ⟨x, rfl, hc1, hk1⟩
set_option maxRecDepth 100000 in
set_option maxHeartbeats 2000000 in
theorem l11Ctl_any (w : World) (g : Nat) (hc : Cur w g) : Calls Try.prog 68 #[.pointer (some ⟨g, 0, none⟩)] w (DrawnCtl w g) := by
  have hg := hc.lt
  have k0 := (Keep.refl g (g + 1) w).alloc (.cells #[.int .i64 0, .int .i64 0, .bool false] 25)
  have hc0 := hc.keep0 (keep_1 w (.cells #[.int .i64 0, .int .i64 0, .bool false] 25))
  have R0 := Lo.new w 25 #[.int .i64 0, .int .i64 0, .bool false] rfl
  go_enter Try.func68, Try.ntmps68
  go_wp2_with fail
  generalize w.alloc (.cells #[.int .i64 0, .int .i64 0, .bool false] 25) = W0 at k0 hc0 R0 ⊢
  refine (l01Below_any W0 g hc0 4 (by omega) (by omega)).mono ?_
  rintro e W1 ⟨x, rfl, x0, x4, hc1, j1⟩
  have lx : Lim x := lim_of (by omega) (by omega)
  clear x0 x4
  have R1 := R0.move j1 hg
  have k1 := k0.win j1
  clear R0 k0 j1 hc0
  go_wp2_with fail
  refine (l01Once_any W1 g hc1 4 (by omega) (by omega)).mono ?_
  rintro e W2 ⟨b, rfl, hc2, j2⟩
  have R2 := R1.move j2 hg
  have k2 := k1.win j2
  clear R1 k1 j2 hc1
  have ka := keep_1 W2 (.cells #[.int .i64 x, .int .i64 0, .bool (!b)] 25)
  have R3 := R2.keep0 ka
  have k3 := k2.alloc (.cells #[.int .i64 x, .int .i64 0, .bool (!b)] 25)
  have hc3 := hc2.keep0 ka
  have X3 := Lo.new W2 25 #[.int .i64 x, .int .i64 0, .bool (!b)] rfl
  have hqg : g < W2.heap.size := hc2.lt
  have hqr : w.heap.size < W2.heap.size := R2.lt
  clear ka k2 R2 hc2
  go_upto_region 2 with (fail)
  generalize W2.alloc (.cells #[.int .i64 x, .int .i64 0, .bool (!b)] 25) = W3 at k3 R3 hc3 X3 ⊢
  have fin : ∀ (W : World) (y : Int), Lim y → Cur W g → Keep g (g + 1) w W → DrawnCtl w g (.returned (.agg #[.int .i64 x, .int .i64 y, .bool (!b)])) (((W.setCell ⟨w.heap.size, 0, none⟩ (.int .i64 x)).setCell ⟨w.heap.size, 1, none⟩ (.int .i64 y)).setCell ⟨w.heap.size, 2, none⟩ (.bool (!b))) := fun W y hy h k => ctl_end x y (!b) lx hy h hg k
  have FIN := Lib.hid fin
  clear fin
  obtain ⟨c0, c1, c2, _, _, _⟩ := X3.c3
  obtain ⟨r0, r1, r2, f0, f1, f2⟩ := R3.c3
  rcases Bool.eq_false_or_eq_true (!b) with hb | hb
  rotate_left
  · rw [hb] at c2
    go_wp2
    refine bodyPost_ret (v := .agg #[.int .i64 x, .int .i64 0, .bool false]) (by simp [results, Try.results68, go_sem, r0, r1, r2]) rfl ?_
    have := FIN.out W3 0 lim0 hc3 k3
    rw [hb] at this
    exact this
  rw [hb] at c2
  rcases Bool.eq_false_or_eq_true (x == 2) with hx | hx
  · obtain rfl : x = 2 := by simpa using hx
    go_wp2
    refine bodyPost_ret (v := .agg #[.int .i64 2, .int .i64 0, .bool true]) (by simp [results, Try.results68, go_sem, r0, r1, r2]) rfl ?_
    have := FIN.out W3 0 lim0 hc3 k3
    rw [hb] at this
    exact this
  have hne : ¬ x = 2 := by simpa using hx
  have hne2 : (!(x == 2)) = true := by rw [hx]; rfl
  have hne3 : (x != 2) = true := hne2
  go_wp2_with fail
  refine (l01Once_any W3 g hc3 2 (by omega) (by omega)).mono ?_
  rintro e W4 ⟨b2, rfl, hc4, j4⟩
  have X4 := X3.move j4 hqg
  have R4 := R3.move j4 hg
  have k4 := k3.win j4
  clear c0 c1 c2 r0 r1 r2 f0 f1 f2 X3 R3 k3 j4 hc3
  obtain ⟨c0, c1, c2, _, _, _⟩ := X4.c3
  rw [hb] at c2
  obtain ⟨r0, r1, r2, f0, f1, f2⟩ := R4.c3
  rcases b2 with _ | _
  · go_wp2
    refine bodyPost_ret (v := .agg #[.int .i64 x, .int .i64 0, .bool true]) (by simp [results, Try.results68, go_sem, r0, r1, r2]) rfl ?_
    have := FIN.out W4 0 lim0 hc4 k4
    rw [hb] at this
    exact this
  go_wp2_with fail
  refine (l01Below_any W4 g hc4 256 (by omega) (by omega)).mono ?_
  rintro e W5 ⟨y, rfl, y0, y1, hc5, j5⟩
  have ly : Lim y := lim_of (by omega) (by omega)
  clear y0 y1
  have X5 := X4.move j5 hqg
  have R5 := (R4.move j5 hg).other (b := W2.heap.size) (j := 1) (.int .i64 y) (by omega)
  have k5 := (k4.win j5).setCell (p := ⟨W2.heap.size, 1, none⟩) (.inr (Nat.le_of_lt hqr)) (.int .i64 y)
  have hc6 := hc5.other (j := 1) (.int .i64 y) hqg
  have X6 := X5.set3_1 (.int .i64 y)
  obtain ⟨_, x1, _, _, x2, _⟩ := X5.c3
  clear c0 c1 c2 r0 r1 r2 f0 f1 f2 X4 R4 k4 j5 hc5 hc4 X5
  go_upto_region 4 with (fail)
  clear x1 x2
  generalize W5.setCell ⟨W2.heap.size, 1, none⟩ (.int .i64 y) = W6 at R5 k5 hc6 X6 ⊢
  obtain ⟨c0, c1, c2, _, _, _⟩ := X6.c3
  rw [hb] at c2
  obtain ⟨r0, r1, r2, f0, f1, f2⟩ := R5.c3
  go_wp2
  refine bodyPost_ret (v := .agg #[.int .i64 x, .int .i64 y, .bool true]) (by simp [results, Try.results68, go_sem, r0, r1, r2]) rfl ?_
  have := FIN.out W6 y ly hc6 k5
  rw [hb] at this
  exact this
end Go.Proofs.Ytdlcchoemladnaa
