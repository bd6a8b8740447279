/-
  The draws of instructions and of programs; contracts of Touches and OpName. Nothing is said of what is drawn but its kind and its length.
-/
import Derived.Test.YtdlcchoemladnaaLoc
import Derived.Test.YtdlcchoemladnaaDraw
import Derived.Test.YtdlcchoemladnaaCode
import Derived.Test.YtdlcchoemladnaaApp
import Derived.Deep.Cut
import Derived.Handy
namespace Go.Proofs.Ytdlcchoemladnaa
open Go.RowKit

def DrawnIns (w : World) (g : Nat) (e : Ending) (w' : World) : Prop := ∃ a b : Int, e = .returned (.agg #[.int .i64 a, .int .i64 b]) ∧ Cur w' g ∧ Keep g (g + 1) w w'
theorem ins_end2 {w W : World} {g : Nat} (a b : Int) (hc : Cur W g) (hg : g < w.heap.size) (k : Keep g (g + 1) w W) :
    DrawnIns w g (.returned (.agg #[.int .i64 a, .int .i64 b])) ((W.setCell ⟨w.heap.size, 0, none⟩ (.int .i64 a)).setCell ⟨w.heap.size, 1, none⟩ (.int .i64 b)) :=
  ⟨a, b, rfl, (hc.other _ hg).other _ hg, (k.setCell (p := ⟨w.heap.size, 0, none⟩) (.inr (Nat.le_refl _)) _).setCell (p := ⟨w.heap.size, 1, none⟩) (.inr (Nat.le_refl _)) _⟩
set_option maxRecDepth 100000 in
set_option maxHeartbeats 4000000 in
theorem l10Ins_any (w : World) (g : Nat) (hc : Cur w g) : Calls Try.prog 70 #[.pointer (some ⟨g, 0, none⟩)] w (DrawnIns w g) := by
  have hg := hc.lt
  have k0 := (Keep.refl g (g + 1) w).alloc (.cells #[.int .i64 0, .int .i64 0] 44)
  have hc0 := hc.keep0 (keep_1 w (.cells #[.int .i64 0, .int .i64 0] 44))
  have R0 := Lo.new w 44 #[.int .i64 0, .int .i64 0] rfl
  have hs0 : (w.alloc (.cells #[.int .i64 0, .int .i64 0] 44)).heap.size = w.heap.size + 1 := by simp
  go_enter Try.func70, Try.ntmps70
  go_wp2_with fail
  generalize w.alloc (.cells #[.int .i64 0, .int .i64 0] 44) = W0 at k0 hc0 R0 hs0 ⊢
  refine (l01PickInt_lit W0 g hc0 [1, 2, 3, 3, 3, 4, 4, 4, 5, 6, 8] 11 rfl (by omega) (by omega) hs0).mono ?_
  rintro e W1 ⟨y, rfl, _, hc1, j1⟩
  have R1 := R0.move j1 hg
  have k1 := k0.win j1
  have ka := keep_1 W1 (.cells #[.int .i64 y, .int .i64 0] 44)
  have R2 := R1.keep0 ka
  have k2 := k1.alloc (.cells #[.int .i64 y, .int .i64 0] 44)
  have hc2 := hc1.keep0 ka
  have X2 := Lo.new W1 44 #[.int .i64 y, .int .i64 0] rfl
  have hqg : g < W1.heap.size := hc1.lt
  have hqr : w.heap.size < W1.heap.size := R1.lt
  clear ka k1 R1 hc1 R0 k0 j1 hc0
  obtain ⟨c0, c1, u0, u1⟩ := X2.c2
  have HQ : y = 3 ∨ y = 4 ∨ y = 8 ∨ (y ≠ 3 ∧ y ≠ 4 ∧ y ≠ 8) := by omega
  rcases HQ with rfl | rfl | rfl | ⟨n3, n4, n8⟩
  · skip
    go_wp2_with fail
    clear c0 c1 u0 u1
    generalize W1.alloc (.cells #[.int .i64 3, .int .i64 0] 44) = W2 at k2 R2 hc2 X2 ⊢
    go_wp2_with fail
    refine (l01Below_any W2 g hc2 16 (by omega) (by omega)).mono ?_
    rintro e W3 ⟨z, rfl, _, _, hc4, j4⟩
    have X4 := X2.move j4 hqg
    have R9 := (R2.move j4 hg).other (b := W1.heap.size) (j := 1) (.int .i64 z) (by omega)
    have k9 := (k2.win j4).setCell (p := ⟨W1.heap.size, 1, none⟩) (.inr (Nat.le_of_lt hqr)) (.int .i64 z)
    have hc9 := hc4.other (j := 1) (.int .i64 z) hqg
    have X9 : Lo (W3.setCell ⟨W1.heap.size, 1, none⟩ (.int .i64 z)) W1.heap.size 44 #[.int .i64 3, .int .i64 z] := X4.set 1 (.int .i64 z)
    obtain ⟨x0, x1, v0, v1⟩ := X4.c2
    clear X4 hc4 j4 k2 X2 R2 hc2
    go_upto_region 9 with (fail)
    clear x0 x1 v0 v1
    generalize W3.setCell ⟨W1.heap.size, 1, none⟩ (.int .i64 z) = W9 at R9 k9 hc9 X9 ⊢
    obtain ⟨c0, c1, _⟩ := X9.c2
    obtain ⟨r0, r1, f0, f1⟩ := R9.c2
    go_wp2
    refine bodyPost_ret (v := .agg #[.int .i64 3, .int .i64 z]) (by simp [results, Try.results70, go_sem, r0, r1]) rfl ?_
    exact ins_end2 _ _ hc9 hg k9
  · skip
    go_wp2_with fail
    clear c0 c1 u0 u1
    generalize W1.alloc (.cells #[.int .i64 4, .int .i64 0] 44) = W2 at k2 R2 hc2 X2 ⊢
    go_wp2_with fail
    refine (l01Below_any W2 g hc2 16 (by omega) (by omega)).mono ?_
    rintro e W3 ⟨z, rfl, _, _, hc4, j4⟩
    have X4 := X2.move j4 hqg
    have R9 := (R2.move j4 hg).other (b := W1.heap.size) (j := 1) (.int .i64 z) (by omega)
    have k9 := (k2.win j4).setCell (p := ⟨W1.heap.size, 1, none⟩) (.inr (Nat.le_of_lt hqr)) (.int .i64 z)
    have hc9 := hc4.other (j := 1) (.int .i64 z) hqg
    have X9 : Lo (W3.setCell ⟨W1.heap.size, 1, none⟩ (.int .i64 z)) W1.heap.size 44 #[.int .i64 4, .int .i64 z] := X4.set 1 (.int .i64 z)
    obtain ⟨x0, x1, v0, v1⟩ := X4.c2
    clear X4 hc4 j4 k2 X2 R2 hc2
    go_upto_region 9 with (fail)
    clear x0 x1 v0 v1
    generalize W3.setCell ⟨W1.heap.size, 1, none⟩ (.int .i64 z) = W9 at R9 k9 hc9 X9 ⊢
    obtain ⟨c0, c1, _⟩ := X9.c2
    obtain ⟨r0, r1, f0, f1⟩ := R9.c2
    go_wp2
    refine bodyPost_ret (v := .agg #[.int .i64 4, .int .i64 z]) (by simp [results, Try.results70, go_sem, r0, r1]) rfl ?_
    exact ins_end2 _ _ hc9 hg k9
  · skip
    go_wp2_with fail
    clear c0 c1 u0 u1
    generalize W1.alloc (.cells #[.int .i64 8, .int .i64 0] 44) = W2 at k2 R2 hc2 X2 ⊢
    go_wp2_with fail
    refine (l01Below_any W2 g hc2 4 (by omega) (by omega)).mono ?_
    rintro e W3 ⟨z, rfl, _, _, hc4, j4⟩
    have X4 := X2.move j4 hqg
    have R9 := (R2.move j4 hg).other (b := W1.heap.size) (j := 1) (.int .i64 z) (by omega)
    have k9 := (k2.win j4).setCell (p := ⟨W1.heap.size, 1, none⟩) (.inr (Nat.le_of_lt hqr)) (.int .i64 z)
    have hc9 := hc4.other (j := 1) (.int .i64 z) hqg
    have X9 : Lo (W3.setCell ⟨W1.heap.size, 1, none⟩ (.int .i64 z)) W1.heap.size 44 #[.int .i64 8, .int .i64 z] := X4.set 1 (.int .i64 z)
    obtain ⟨x0, x1, v0, v1⟩ := X4.c2
    clear X4 hc4 j4 k2 X2 R2 hc2
    go_upto_region 9 with (fail)
    clear x0 x1 v0 v1
    generalize W3.setCell ⟨W1.heap.size, 1, none⟩ (.int .i64 z) = W9 at R9 k9 hc9 X9 ⊢
    obtain ⟨c0, c1, _⟩ := X9.c2
    obtain ⟨r0, r1, f0, f1⟩ := R9.c2
    go_wp2
    refine bodyPost_ret (v := .agg #[.int .i64 8, .int .i64 z]) (by simp [results, Try.results70, go_sem, r0, r1]) rfl ?_
    exact ins_end2 _ _ hc9 hg k9
  · have m3 : (y == 3) = false := by simpa using n3
    have m4 : (y == 4) = false := by simpa using n4
    have m8 : (y == 8) = false := by simpa using n8
    clear n3 n4 n8
    go_wp2_with fail
    clear c0 c1 u0 u1
    generalize W1.alloc (.cells #[.int .i64 y, .int .i64 0] 44) = W2 at k2 R2 hc2 X2 ⊢
    go_wp2_with fail
    refine (l01Below_any W2 g hc2 100 (by omega) (by omega)).mono ?_
    rintro e W3 ⟨z, rfl, _, _, hc4, j4⟩
    have X4 := X2.move j4 hqg
    have R9 := (R2.move j4 hg).other (b := W1.heap.size) (j := 1) (.int .i64 z) (by omega)
    have k9 := (k2.win j4).setCell (p := ⟨W1.heap.size, 1, none⟩) (.inr (Nat.le_of_lt hqr)) (.int .i64 z)
    have hc9 := hc4.other (j := 1) (.int .i64 z) hqg
    have X9 : Lo (W3.setCell ⟨W1.heap.size, 1, none⟩ (.int .i64 z)) W1.heap.size 44 #[.int .i64 y, .int .i64 z] := X4.set 1 (.int .i64 z)
    obtain ⟨x0, x1, v0, v1⟩ := X4.c2
    clear X4 hc4 j4 k2 X2 R2 hc2
    go_upto_region 9 with (fail)
    clear x0 x1 v0 v1
    generalize W3.setCell ⟨W1.heap.size, 1, none⟩ (.int .i64 z) = W9 at R9 k9 hc9 X9 ⊢
    obtain ⟨c0, c1, _⟩ := X9.c2
    obtain ⟨r0, r1, f0, f1⟩ := R9.c2
    go_wp2
    refine bodyPost_ret (v := .agg #[.int .i64 y, .int .i64 z]) (by simp [results, Try.results70, go_sem, r0, r1]) rfl ?_
    exact ins_end2 _ _ hc9 hg k9
set_option maxRecDepth 100000 in
set_option maxHeartbeats 4000000 in
theorem l10AnyIns_any (w : World) (g : Nat) (hc : Cur w g) : Calls Try.prog 58 #[.pointer (some ⟨g, 0, none⟩)] w (DrawnIns w g) := by
  have hg := hc.lt
  have k0 := (Keep.refl g (g + 1) w).alloc (.cells #[.int .i64 0, .int .i64 0] 44)
  have hc0 := hc.keep0 (keep_1 w (.cells #[.int .i64 0, .int .i64 0] 44))
  have R0 := Lo.new w 44 #[.int .i64 0, .int .i64 0] rfl
  have hs0 : (w.alloc (.cells #[.int .i64 0, .int .i64 0] 44)).heap.size = w.heap.size + 1 := by simp
  go_enter Try.func58, Try.ntmps58
  go_wp2_with fail
  generalize w.alloc (.cells #[.int .i64 0, .int .i64 0] 44) = W0 at k0 hc0 R0 hs0 ⊢
  refine (l10Ins_any W0 g hc0).mono ?_
  rintro e W1 ⟨a, b, rfl, hc1, j1⟩
  have R1 := R0.move j1 hg
  have k1 := k0.win j1
  have ka := keep_1 W1 (.cells #[.int .i64 a, .int .i64 b] 44)
  have R2 := R1.keep0 ka
  have k2 := k1.alloc (.cells #[.int .i64 a, .int .i64 b] 44)
  have hc2 := hc1.keep0 ka
  have X2 := Lo.new W1 44 #[.int .i64 a, .int .i64 b] rfl
  have hqg : g < W1.heap.size := hc1.lt
  have hqr : w.heap.size < W1.heap.size := R1.lt
  clear ka k1 R1 hc1 R0 k0 j1 hc0
  go_wp2_with fail
  generalize W1.alloc (.cells #[.int .i64 a, .int .i64 b] 44) = W2 at k2 R2 hc2 X2 ⊢
  refine (l01Below_any W2 g hc2 10 (by omega) (by omega)).mono ?_
  rintro e W3 ⟨y, rfl, _, _, hc3, j3⟩
  have R3 := R2.move j3 hg
  have X3 := X2.move j3 hqg
  have k3 := k2.win j3
  clear k2 R2 hc2 X2 j3
  have HQ : y = 0 ∨ y = 1 ∨ (y ≠ 0 ∧ y ≠ 1) := by omega
  rcases HQ with rfl | rfl | ⟨n0, n1⟩
  · skip
    go_wp2_with fail
    refine (l01Below_any W3 g hc3 11 (by omega) (by omega)).mono ?_
    rintro e W4 ⟨z, rfl, _, _, hc4, j4⟩
    have X4 := X3.move j4 hqg
    have R9 := (R3.move j4 hg).other (b := W1.heap.size) (j := 0) (.int .i64 (z - 1)) (by omega)
    have k9 := (k3.win j4).setCell (p := ⟨W1.heap.size, 0, none⟩) (.inr (Nat.le_of_lt hqr)) (.int .i64 (z - 1))
    have hc9 := hc4.other (j := 0) (.int .i64 (z - 1)) hqg
    have X9 : Lo (W4.setCell ⟨W1.heap.size, 0, none⟩ (.int .i64 (z - 1))) W1.heap.size 44 #[.int .i64 (z - 1), .int .i64 b] := X4.set 0 (.int .i64 (z - 1))
    obtain ⟨x0, x1, v0, v1⟩ := X4.c2
    clear X4 hc4 j4 k3 X3 R3 hc3
    go_upto_region 7 with (fail)
    clear x0 x1 v0 v1
    generalize W4.setCell ⟨W1.heap.size, 0, none⟩ (.int .i64 (z - 1)) = W9 at R9 k9 hc9 X9 ⊢
    obtain ⟨c0, c1, _⟩ := X9.c2
    obtain ⟨r0, r1, f0, f1⟩ := R9.c2
    go_wp2
    refine bodyPost_ret (v := .agg #[.int .i64 (z - 1), .int .i64 b]) (by simp [results, Try.results58, go_sem, r0, r1]) rfl ?_
    exact ins_end2 _ _ hc9 hg k9
  · skip
    go_wp2_with fail
    refine (l01PickInt_lit W3 g hc3 [-1, 0, 12, 15, 16, 99, 100, 9223372036854775807] 8 rfl (by omega) (by omega) rfl).mono ?_
    rintro e W4 ⟨z, rfl, _, hc4, j4⟩
    have X4 := X3.move j4 hqg
    have R9 := (R3.move j4 hg).other (b := W1.heap.size) (j := 1) (.int .i64 z) (by omega)
    have k9 := (k3.win j4).setCell (p := ⟨W1.heap.size, 1, none⟩) (.inr (Nat.le_of_lt hqr)) (.int .i64 z)
    have hc9 := hc4.other (j := 1) (.int .i64 z) hqg
    have X9 : Lo (W4.setCell ⟨W1.heap.size, 1, none⟩ (.int .i64 z)) W1.heap.size 44 #[.int .i64 a, .int .i64 z] := X4.set 1 (.int .i64 z)
    obtain ⟨x0, x1, v0, v1⟩ := X4.c2
    clear X4 hc4 j4 k3 X3 R3 hc3
    go_upto_region 7 with (fail)
    clear x0 x1 v0 v1
    generalize W4.setCell ⟨W1.heap.size, 1, none⟩ (.int .i64 z) = W9 at R9 k9 hc9 X9 ⊢
    obtain ⟨c0, c1, _⟩ := X9.c2
    obtain ⟨r0, r1, f0, f1⟩ := R9.c2
    go_wp2
    refine bodyPost_ret (v := .agg #[.int .i64 a, .int .i64 z]) (by simp [results, Try.results58, go_sem, r0, r1]) rfl ?_
    exact ins_end2 _ _ hc9 hg k9
  · have m0 : (y == 0) = false := by simpa using n0
    have m1 : (y == 1) = false := by simpa using n1
    clear n0 n1
    obtain ⟨c0, c1, _⟩ := X3.c2
    obtain ⟨r0, r1, f0, f1⟩ := R3.c2
    go_wp2
    refine bodyPost_ret (v := .agg #[.int .i64 a, .int .i64 b]) (by simp [results, Try.results58, go_sem, r0, r1]) rfl ?_
    exact ins_end2 _ _ hc3 hg k3
theorem Bld.lower2 {w0 w : World} {e : TypeId} {sz : Nat} {v : Value} {n : Nat} {xs : List Value} {B B' : Nat} (h : Bld w0 B e sz w v n xs) (hB : B' ≤ B) : Bld w B' e sz w v n xs := by
  refine ⟨?_, Below.refl _ _, Nat.le_trans hB h.le⟩
  obtain ⟨h1, ⟨rfl, rfl⟩ | ⟨g, cap, cur, rfl, hb, hg, hn, hm, hs, ht⟩⟩ := h.own
  · exact ⟨h1, .inl ⟨rfl, rfl⟩⟩
  · exact ⟨h1, .inr ⟨g, cap, cur, rfl, Nat.le_trans hB hb, hg, hn, hm, hs, ht⟩⟩
theorem twos_snoc2 (l : List Two) (a b : Int) : ints (twosI l) ++ [.int .i64 a, .int .i64 b] = ints (twosI (l ++ [(a, b)])) := twos_snoc l a b
theorem Row.low {w : World} {lo hi sz : Nat} {E : TypeId} {A : Option Addr} {n c k : Nat} {xs : List Value} (h : Row w lo hi E sz (.slice A n c) xs) (hk : k ≤ n) : Row w lo hi E sz (.slice A k c) (xs.take (k * sz)) := by
  obtain ⟨A', n', c', e, h1, h2, h3, h4⟩ := h
  injection e with e1 e2 e3
  subst e1 e2 e3
  have hkn : k * sz ≤ n * sz := Nat.mul_le_mul_right _ hk
  refine ⟨_, k, c, rfl, by omega, h2, by rw [List.length_take, h3]; omega, fun hn => ?_⟩
  obtain ⟨g, off, cur, hA, hl, hlt, hg, hc⟩ := h4 (by omega)
  refine ⟨g, off, cur, hA, hl, hlt, hg, fun j u hu => hc j u ?_⟩
  rw [List.getElem?_take] at hu
  split at hu
  · exact hu
  · cases hu
/-- A program that is being built. -/
def ProgB (w : World) (g : Nat) (W : World) (v : Value) (m : Nat) (l : List Two) : Prop := l.length = m ∧ Bld W w.heap.size 44 2 W v m (ints (twosI l)) ∧ Cur W g ∧ Keep g (g + 1) w W
def DrawnProg (w : World) (g : Nat) (e : Ending) (w' : World) : Prop := ∃ (v : Value) (l : List Two), e = .returned v ∧ 1 ≤ l.length ∧ l.length ≤ 9 ∧ ProgB w g w' v l.length l
def DrawnAny (w : World) (g : Nat) (e : Ending) (w' : World) : Prop := ∃ (v : Value) (l : List Two), e = .returned v ∧ l.length ≤ 13 ∧ Row w' w.heap.size w'.heap.size 44 2 v (ints (twosI l)) ∧ Cur w' g ∧ Keep g (g + 1) w w'
theorem ProgB.move {w W W' : World} {g m : Nat} {v : Value} {l : List Two} (h : ProgB w g W v m l) (hc : Cur W' g) (hk : Keep g (g + 1) W W') (hg : g < w.heap.size) : ProgB w g W' v m l :=
  ⟨h.1, h.2.1.move hk hg, hc, h.2.2.2.win hk⟩
theorem ProgB.snoc {w W W' : World} {g m : Nat} {v v' : Value} {l : List Two} {a b : Int} (h : ProgB w g W v m l) (hb : Bld W w.heap.size 44 2 W' v' (m + 1) (ints (twosI l) ++ [.int .i64 a, .int .i64 b])) (hs : W.heap.size ≤ W'.heap.size) (hg : g < w.heap.size) : ProgB w g W' v' (m + 1) (l ++ [(a, b)]) := by
  rw [twos_snoc2] at hb
  have qk := Keep.of_belowB hb.bel hs
  exact ⟨by rw [List.length_append, h.1]; rfl, hb.rebase, h.2.2.1.keep qk (by omega), h.2.2.2.trans qk (by have := h.2.1.le; intro i hi hw; omega)⟩
set_option maxRecDepth 100000 in
set_option maxHeartbeats 8000000 in
theorem l10Prog_any (w : World) (g : Nat) (hc : Cur w g) : Calls Try.prog 71 #[.pointer (some ⟨g, 0, none⟩)] w (DrawnProg w g) := by
  have hg := hc.lt
  have hb0 := Lib.hid (show ProgB w g (w.alloc (.cells #[] 44)) (.slice (some ⟨w.heap.size, 0, none⟩) 0 0) 0 [] from
    ⟨rfl, (Bld.lit (B := w.heap.size) w 44 2 (Nat.le_refl _) (g := w.heap.size) rfl).rebase, hc.keep0 (keep_1 w _), (Keep.refl g (g + 1) w).alloc _⟩)
  clear hc
  go_enter Try.func71, Try.ntmps71
  go_wp2
  go_loopw [3, 4] (fun v i wr => ∃ (k : Nat) (l : List Two), k ≤ 8 ∧ i = .int .i64 k ∧ ProgB w g wr v k l) (fun _ i _ => 9 - (intOf i).toNat)
  case atStart => exact ⟨0, [], by omega, rfl, hb0.out⟩
  case round =>
    obtain ⟨k, l, hk, rfl, hP⟩ := hrel
    clear hb0
    go_wp2_with fail
    refine (l01Below_any wr g hP.2.2.1 7 (by omega) (by omega)).mono ?_
    rintro e W2 ⟨x, rfl, x0, x7, hc2, j2⟩
    have P2 := hP.move hc2 j2 hg
    clear hP j2 hc2
    by_cases hlt : (k : Int) < 2 + x
    · have hd : decide ((k : Int) < 2 + x) = true := by simpa using hlt
      go_wp2_with fail
      refine (l10Ins_any W2 g P2.2.2.1).mono ?_
      rintro e W3 ⟨a, b, rfl, hc3, j3⟩
      have P3 := P2.move hc3 j3 hg
      have hb3 := P3.2.1
      have HP := Lib.hid P3
      clear P2 hc3 j3 P3
      go_wp2_with (at_builtin; refine wpList_append_one rfl _ _ 47 rfl elIns rfl hb3 1 [.int .i64 a, .int .i64 b] _ rfl (by first | rfl | simp) rfl (by simp [Value.oneCell']) (by omega) (by unfold maxLen; omega) (fun v' w' hb' hsz => ?_))
      have P4 := Lib.hid (HP.out.snoc hb' hsz hg)
      clear hb' hsz hb3
      go_wp2
      go_roundw
      case rel => exact ⟨k + 1, _, by omega, by go_num, P4.out⟩
      case measure => simp [intOf]; omega
    · have hd : decide ((k : Int) < 2 + x) = false := by simpa using hlt
      go_wp2_with fail
      refine (l01Once_any W2 g P2.2.2.1 3 (by omega) (by omega)).mono ?_
      rintro e W3 ⟨bb, rfl, hc3, j3⟩
      have P3 := P2.move hc3 j3 hg
      have hb3 := P3.2.1
      have HP := Lib.hid P3
      clear P2 hc3 j3 P3 hlt hd
      rcases bb with _ | _
      · go_wp2_with (at_builtin; refine wpList_append_one rfl _ _ 47 rfl elIns rfl hb3 1 [.int .i64 8, .int .i64 0] _ rfl (by first | rfl | simp) rfl (by simp [Value.oneCell']) (by omega) (by unfold maxLen; omega) (fun v' w' hb' hsz => ?_))
        have P4 := Lib.hid (HP.out.snoc hb' hsz hg)
        clear hb' hsz hb3
        go_wp2
        go_ret
        have q := P4.out
        exact ⟨_, _, rfl, by rw [q.1]; omega, by rw [q.1]; omega, by rw [q.1]; exact q⟩
      · go_wp2_with (at_builtin; refine wpList_append_one rfl _ _ 47 rfl elIns rfl hb3 1 [.int .i64 7, .int .i64 0] _ rfl (by first | rfl | simp) rfl (by simp [Value.oneCell']) (by omega) (by unfold maxLen; omega) (fun v' w' hb' hsz => ?_))
        have P4 := Lib.hid (HP.out.snoc hb' hsz hg)
        clear hb' hsz hb3
        go_wp2
        go_ret
        have q := P4.out
        exact ⟨_, _, rfl, by rw [q.1]; omega, by rw [q.1]; omega, by rw [q.1]; exact q⟩
set_option maxRecDepth 100000 in
set_option maxHeartbeats 8000000 in
theorem l10AnyProg_any (w : World) (g : Nat) (hc : Cur w g) : Calls Try.prog 63 #[.pointer (some ⟨g, 0, none⟩)] w (DrawnAny w g) := by
  have hg := hc.lt
  go_enter Try.func63, Try.ntmps63
  go_wp2_with fail
  refine (l10Prog_any w g hc).mono ?_
  rintro e W1 ⟨v, l, rfl, hl1, hl9, P1⟩
  clear hc
  go_wp2_with fail
  refine (l01Below_any W1 g P1.2.2.1 8 (by omega) (by omega)).mono ?_
  rintro e W2 ⟨y, rfl, _, _, hc2, j2⟩
  have P2 := P1.move hc2 j2 hg
  clear P1 hc2 j2
  obtain ⟨A, c, rfl⟩ := P2.2.1.slice
  have hrow := P2.2.1.row
  have hcap : l.length ≤ c ∧ c ≤ 9223372036854775807 := by have := hrow.len.2; unfold maxLen at this; omega
  obtain ⟨hcap1, hcap2⟩ := hcap
  have HQ : y = 0 ∨ y = 1 ∨ y = 2 ∨ (y ≠ 0 ∧ y ≠ 1 ∧ y ≠ 2) := by omega
  rcases HQ with rfl | rfl | rfl | ⟨n0, n1, n2⟩
  · clear hrow
    go_wp2_with fail
    refine (l10AnyIns_any W2 g P2.2.2.1).mono ?_
    rintro e W3 ⟨a, b, rfl, hc3, j3⟩
    have P3 := P2.move hc3 j3 hg
    have r3 := P3.2.1.row
    obtain ⟨q, off, rfl, hq1, hq2, hq3, hat⟩ := r3.at_ (by omega)
    have hlen : (ints (twosI l)).length = l.length * 2 := by rw [ints_length, twosI_length]
    obtain ⟨z0, s0⟩ : ∃ z, (ints (twosI l))[0]? = some z := ⟨_, List.getElem?_eq_getElem (by omega)⟩
    obtain ⟨z1, s1⟩ : ∃ z, (ints (twosI l))[1]? = some z := ⟨_, List.getElem?_eq_getElem (by omega)⟩
    obtain ⟨c0, f0⟩ := hat 0 _ s0
    obtain ⟨c1, f1⟩ := hat 1 _ s1
    rw [Nat.add_zero] at c0 f0
    have r5 := (r3.set_ 0 (.int .i64 a)).set_ 1 (.int .i64 b)
    rw [Nat.add_zero] at r5
    have e5 : ((ints (twosI l)).set 0 (.int .i64 a)).set 1 (.int .i64 b) = ints (twosI (l.set 0 (a, b))) := by
      cases l with
      | nil => simp at hl1
      | cons x l => simp [twosI, ints, twoI]
    rw [e5] at r5
    have k5 := (P3.2.2.2.setCell (p := ⟨q, off, none⟩) (.inr hq1) (.int .i64 a)).setCell (p := ⟨q, off + 1, none⟩) (.inr hq1) (.int .i64 b)
    have hc5 := (P3.2.2.1.other (b := q) (j := off) (.int .i64 a) (by omega)).other (b := q) (j := off + 1) (.int .i64 b) (by omega)
    have R5 := Lib.hid r5
    have K5 := Lib.hid k5
    have C5 := Lib.hid hc5
    clear hat s0 s1 r3 r5 k5 hc5 P3 P2 hc3 j3 e5 hlen
    go_wp2
    go_ret
    refine ⟨_, l.set 0 (a, b), rfl, by rw [List.length_set]; omega, ?_, C5.out, K5.out⟩
    have := R5.out
    simpa [World.setCell] using this
  · clear hrow
    have HP := Lib.hid P2
    clear P2
    go_wp2
    go_loopw [3] (fun v wr => ∃ (m : Nat) (l : List Two), m ≤ 13 ∧ ProgB w g wr v m l) (fun v _ => 14 - (match v with | .slice _ n _ => n | _ => 0))
    case atStart => exact ⟨_, l, by omega, HP.out⟩
    case round =>
      obtain ⟨m, l2, hm, hP⟩ := hrel
      obtain ⟨A2, c2, rfl⟩ := hP.2.1.slice
      go_wp2_with fail
      refine (l01Below_any wr g hP.2.2.1 2 (by omega) (by omega)).mono ?_
      rintro e W3 ⟨x, rfl, x0, x1, hc3, j3⟩
      have P3 := hP.move hc3 j3 hg
      clear hP hc3 j3
      by_cases hlt : (m : Int) < 12 + x
      · have hd : decide ((m : Int) < 12 + x) = true := by simpa using hlt
        go_wp2_with fail
        refine (l10Ins_any W3 g P3.2.2.1).mono ?_
        rintro e W4 ⟨a, b, rfl, hc4, j4⟩
        have P4 := P3.move hc4 j4 hg
        have hb4 := P4.2.1
        have HP4 := Lib.hid P4
        clear P3 hc4 j4 P4
        go_wp2_with (at_builtin; refine wpList_append_one rfl _ _ 47 rfl elIns rfl hb4 1 [.int .i64 a, .int .i64 b] _ rfl (by first | rfl | simp) rfl (by simp [Value.oneCell']) (by omega) (by unfold maxLen; omega) (fun v' w' hb' hsz => ?_))
        have P5 := Lib.hid (HP4.out.snoc hb' hsz hg)
        obtain ⟨A5, c5, rfl⟩ := P5.out.2.1.slice
        clear hb' hsz hb4
        go_wp2
        go_roundw
        case rel => exact ⟨m + 1, _, by omega, P5.out⟩
        case measure => simp; omega
      · have hd : decide ((m : Int) < 12 + x) = false := by simpa using hlt
        have HP4 := Lib.hid P3
        clear P3
        go_wp2
        go_ret
        have q := HP4.out
        exact ⟨_, l2, rfl, by rw [q.1]; omega, q.2.1.row, q.2.2.1, q.2.2.2⟩
  · clear hrow
    go_wp2_with fail
    refine (l01Below_any W2 g P2.2.2.1 2 (by omega) (by omega)).mono ?_
    rintro e W3 ⟨x, rfl, x0, x1, hc3, j3⟩
    have P3 := Lib.hid (P2.move hc3 j3 hg)
    clear P2 hc3 j3
    obtain ⟨k, rfl⟩ := Int.eq_ofNat_of_zero_le x0
    have hk : k ≤ 1 := by omega
    have hkl : (k : Int) ≤ c := by omega
    have hk0 : (0 : Int) ≤ k := by omega
    go_wp2
    go_ret
    have r := P3.out.2.1.row.low (k := k) (by omega)
    rw [show (ints (twosI l)).take (k * 2) = ints (twosI (l.take k)) from by rw [← twosI_take]; simp [ints, List.map_take]] at r
    exact ⟨_, l.take k, rfl, by rw [List.length_take]; omega, r, P3.out.2.2.1, P3.out.2.2.2⟩
  · have m0 : (y == 0) = false := by simpa using n0
    have m1 : (y == 1) = false := by simpa using n1
    have m2 : (y == 2) = false := by simpa using n2
    have HP := Lib.hid P2
    clear n0 n1 n2 hrow P2
    go_wp2
    go_ret
    have q := HP.out
    exact ⟨_, l, rfl, by omega, q.2.1.row, q.2.2.1, q.2.2.2⟩
/-- What an instruction touches. -/
def touchP (op x : Int) : Int := if op = 3 ∨ op = 4 then pageT x else -1
def touchN (op : Int) : Int := if op = 3 then 1 else if op = 4 then 2 else 0
theorem op_cases34 (op : Int) : op = 3 ∨ op = 4 ∨ op < 3 ∨ 4 < op := by omega
set_option maxHeartbeats 2000000 in
theorem specTouches_any (op x : Int) (w : World) : Calls Try.prog 29 #[.agg #[.int .i64 op, .int .i64 x]] w fun e w' => e = .returned (.tuple #[.int .i64 (touchP op x), .int .i64 (touchN op)]) ∧ Keep 0 0 w w' := by
  rcases op_cases34 op with rfl | rfl | h | h
  all_goals
    go_enter Try.func29, Try.ntmps29
    go_wp2_with (first | (go_at_call 61; refine (specAddrPage_any _ _).mono ?_; rintro e w' ⟨rfl, rfl⟩) | (go_at_call 62; refine (specNeedOf_any _ _).mono ?_; rintro e w' ⟨rfl, rfl⟩))
    go_ret2
    refine ⟨?_, keep_1 _ _⟩
    first | (simp [touchP, touchN, needT]; done) | (unfold touchP touchN; rw [if_neg (by omega), if_neg (by omega), if_neg (by omega)]; rfl)
set_option maxHeartbeats 2000000 in
theorem implTouches_any (op x : Int) (w : World) : Calls Try.prog 28 #[.agg #[.int .i64 op, .int .i64 x]] w fun e w' => e = .returned (.tuple #[.int .i64 (touchP op x), .int .i64 (touchN op)]) ∧ Keep 0 0 w w' := by
  rcases op_cases34 op with rfl | rfl | h | h
  all_goals
    go_enter Try.func28, Try.ntmps28
    go_wp2_with (first | (go_at_call 59; refine (implAddrPage_any _ _).mono ?_; rintro e w' ⟨rfl, rfl⟩) | (go_at_call 60; refine (implNeedOf_any _ _).mono ?_; rintro e w' ⟨rfl, rfl⟩))
    go_ret2
    refine ⟨?_, keep_1 _ _⟩
    first | (simp [touchP, touchN, needT]; done) | (unfold touchP touchN; rw [if_neg (by omega), if_neg (by omega), if_neg (by omega)]; rfl)
def opS (k : Int) : ByteArray := if k = 1 then ⟨#[115, 101, 116]⟩ else if k = 2 then ⟨#[97, 100, 100]⟩ else if k = 3 then ⟨#[108, 111, 97, 100]⟩ else if k = 4 then ⟨#[115, 116, 111, 114, 101]⟩ else if k = 5 then ⟨#[111, 117, 116]⟩ else if k = 6 then ⟨#[99, 97, 108, 108]⟩ else if k = 7 then ⟨#[104, 97, 108, 116]⟩ else if k = 8 then ⟨#[106, 117, 109, 112]⟩ else ⟨#[63]⟩
theorem op_kinds (k : Int) : k = 1 ∨ k = 2 ∨ k = 3 ∨ k = 4 ∨ k = 5 ∨ k = 6 ∨ k = 7 ∨ k = 8 ∨ (inB k 1 8 = false ∧ opS k = ⟨#[63]⟩) := by
  rcases inB_cases k 1 8 with ⟨_, _⟩ | ⟨h, h2⟩
  · omega
  · refine .inr (.inr (.inr (.inr (.inr (.inr (.inr (.inr ⟨h, ?_⟩)))))))
    unfold opS
    rw [if_neg (by omega), if_neg (by omega), if_neg (by omega), if_neg (by omega), if_neg (by omega), if_neg (by omega), if_neg (by omega), if_neg (by omega)]
set_option maxHeartbeats 4000000 in
theorem specOpName_any (k : Int) (w : World) : Calls Try.prog 41 #[.int .i64 k] w fun e w' => e = .returned (.string (opS k)) ∧ Keep 0 0 w w' := by
  have b1 : inB 1 1 8 = true := rfl
  have b2 : inB 2 1 8 = true := rfl
  have b3 : inB 3 1 8 = true := rfl
  have b4 : inB 4 1 8 = true := rfl
  have b5 : inB 5 1 8 = true := rfl
  have b6 : inB 6 1 8 = true := rfl
  have b7 : inB 7 1 8 = true := rfl
  have b8 : inB 8 1 8 = true := rfl
  rcases op_kinds k with rfl | rfl | rfl | rfl | rfl | rfl | rfl | rfl | ⟨h, hn⟩
  rotate_right
  · have HN := Lib.hid hn
    clear hn
    go_enter Try.func41, Try.ntmps41
    go_wp2_with (go_at_call 56; refine (l01In_any _ _ _ _).mono ?_; rintro e w' ⟨rfl, rfl⟩)
    go_ret
    exact ⟨by rw [HN.out]; rfl, Keep.refl _ _ _⟩
  all_goals
    go_enter Try.func41, Try.ntmps41
    go_wp2_with (go_at_call 56; refine (l01In_any _ _ _ _).mono ?_; rintro e w' ⟨rfl, rfl⟩)
    go_ret
    exact ⟨rfl, keep_1 _ _⟩
set_option maxHeartbeats 4000000 in
theorem implOpName_any (k : Int) (w : World) : Calls Try.prog 40 #[.int .i64 k] w fun e w' => e = .returned (.string (opS k)) ∧ Keep 0 0 w w' := by
  have b1 : inB 1 1 8 = true := rfl
  have b2 : inB 2 1 8 = true := rfl
  have b3 : inB 3 1 8 = true := rfl
  have b4 : inB 4 1 8 = true := rfl
  have b5 : inB 5 1 8 = true := rfl
  have b6 : inB 6 1 8 = true := rfl
  have b7 : inB 7 1 8 = true := rfl
  have b8 : inB 8 1 8 = true := rfl
  rcases op_kinds k with rfl | rfl | rfl | rfl | rfl | rfl | rfl | rfl | ⟨h, hn⟩
  rotate_right
  · have HN := Lib.hid hn
    clear hn
    go_enter Try.func40, Try.ntmps40
    go_wp2_with (go_at_call 55; refine (within_any _ _ _ _).mono ?_; rintro e w' ⟨rfl, rfl⟩)
    go_ret
    exact ⟨by rw [HN.out]; rfl, Keep.refl _ _ _⟩
  all_goals
    go_enter Try.func40, Try.ntmps40
    go_wp2_with (go_at_call 55; refine (within_any _ _ _ _).mono ?_; rintro e w' ⟨rfl, rfl⟩)
    go_ret
    exact ⟨rfl, keep_1 _ _⟩
end Go.Proofs.Ytdlcchoemladnaa
