/-
  The draws of slots and of tables. Nothing is said of what is drawn but its kind and its length.
-/
import Derived.Test.YtcoipfnphmealaaLoc
import Derived.Test.YtcoipfnphmealaaDraw
import Derived.Test.YtcoipfnphmealaaComp
import Derived.Test.YtcoipfnphmealaaApp
import Derived.Deep.Cut
import Derived.Handy
namespace Go.Proofs.Ytcoipfnphmealaa
open Go.RowKit

def DrawnTwo (w : World) (g : Nat) (e : Ending) (w' : World) : Prop := ∃ a b : Int, e = .returned (.agg #[.int .i64 a, .int .i64 b]) ∧ Cur w' g ∧ Keep g (g + 1) w w'
def DrawnNum (w : World) (g : Nat) (e : Ending) (w' : World) : Prop := ∃ a : Int, e = .returned (.int .i64 a) ∧ Cur w' g ∧ Keep g (g + 1) w w'
theorem two_end {w W : World} {g : Nat} (a b : Int) (hc : Cur W g) (hg : g < w.heap.size) (k : Keep g (g + 1) w W) :
    DrawnTwo w g (.returned (.agg #[.int .i64 a, .int .i64 b])) ((W.setCell ⟨w.heap.size, 0, none⟩ (.int .i64 a)).setCell ⟨w.heap.size, 1, none⟩ (.int .i64 b)) :=
  ⟨a, b, rfl, (hc.other _ hg).other _ hg, (k.setCell (p := ⟨w.heap.size, 0, none⟩) (.inr (Nat.le_refl _)) _).setCell (p := ⟨w.heap.size, 1, none⟩) (.inr (Nat.le_refl _)) _⟩
set_option maxRecDepth 100000 in
theorem l02Rights_any (w : World) (g : Nat) (hc : Cur w g) : Calls Try.prog 115 #[.pointer (some ⟨g, 0, none⟩)] w (DrawnNum w g) := by
  go_enter Try.func115, Try.ntmps115
  go_wp2_with fail
  refine (l01PickInt_lit w g hc [3, 3, 1, 2, 0, 3, 1, -1, 4, 9223372036854775807] 10 rfl (by omega) (by omega) rfl).mono ?_
  rintro e W1 ⟨x, rfl, _, hc1, j1⟩
  go_wp2
  go_ret
  exact ⟨x, rfl, hc1, j1⟩
set_option maxRecDepth 100000 in
set_option maxHeartbeats 2000000 in
theorem l03Slot_any (w : World) (g : Nat) (hc : Cur w g) (p : Int) (hp0 : 0 < p) (hp : p ≤ 256) : Calls Try.prog 114 #[.pointer (some ⟨g, 0, none⟩), .int .i64 p] w (DrawnTwo w g) := by
  have hg := hc.lt
  have k0 := (Keep.refl g (g + 1) w).alloc (.cells #[.int .i64 0, .int .i64 0] 67)
  have hc0 := hc.keep0 (keep_1 w (.cells #[.int .i64 0, .int .i64 0] 67))
  have R0 := Lo.new w 67 #[.int .i64 0, .int .i64 0] rfl
  go_enter Try.func114, Try.ntmps114
  go_wp2_with fail
  generalize w.alloc (.cells #[.int .i64 0, .int .i64 0] 67) = W0 at k0 hc0 R0 ⊢
  refine (l01Once_any W0 g hc0 5 (by omega) (by omega)).mono ?_
  rintro e W1 ⟨y, rfl, hc1, j1⟩
  have R1 := R0.move j1 hg
  have k1 := k0.win j1
  clear R0 k0 j1 hc0
  rcases y with _ | _
  · go_wp2_with fail
    refine (l01Below_any W1 g hc1 p hp0 hp).mono ?_
    rintro e W2 ⟨x, rfl, _, _, hc2, j2⟩
    have R2 := R1.move j2 hg
    have k2 := k1.win j2
    clear R1 k1 j2 hc1
    go_wp2_with fail
    refine (l01PickInt_lit W2 g hc2 [3, 3, 3, 1, 2] 5 rfl (by omega) (by omega) rfl).mono ?_
    rintro e W3 ⟨z, rfl, _, hc3, j3⟩
    have R3 := R2.move j3 hg
    have k3 := k2.win j3
    clear R2 k2 j3 hc2
    obtain ⟨r0, r1, f0, f1⟩ := R3.c2
    go_wp2
    refine bodyPost_ret (v := .agg #[.int .i64 x, .int .i64 z]) (by simp [results, Try.results114, go_sem, r0, r1]) rfl ?_
    exact two_end _ _ hc3 hg k3
  · go_wp2_with fail
    refine (specNoSlot_any W1).mono ?_
    rintro e W2 ⟨rfl, j2⟩
    have R2 := R1.keep0 j2
    have hc2 := hc1.keep0 j2
    have k2 := k1.win (j2.any0 _ _)
    clear R1 k1 j2 hc1
    obtain ⟨r0, r1, f0, f1⟩ := R2.c2
    go_wp2
    refine bodyPost_ret (v := .agg #[.int .i64 (-1), .int .i64 0]) (by simp [results, Try.results114, go_sem, r0, r1]) rfl ?_
    exact two_end _ _ hc2 hg k2
set_option maxRecDepth 100000 in
set_option maxHeartbeats 4000000 in
theorem l03Any_any (w : World) (g : Nat) (hc : Cur w g) (p : Int) (hp0 : 0 < p) (hp : p ≤ 256) : Calls Try.prog 94 #[.pointer (some ⟨g, 0, none⟩), .int .i64 p] w (DrawnTwo w g) := by
  have hg := hc.lt
  have k0 := (Keep.refl g (g + 1) w).alloc (.cells #[.int .i64 0, .int .i64 0] 67)
  have hc0 := hc.keep0 (keep_1 w (.cells #[.int .i64 0, .int .i64 0] 67))
  have R0 := Lo.new w 67 #[.int .i64 0, .int .i64 0] rfl
  go_enter Try.func94, Try.ntmps94
  go_wp2_with fail
  generalize w.alloc (.cells #[.int .i64 0, .int .i64 0] 67) = W0 at k0 hc0 R0 ⊢
  refine (l03Slot_any W0 g hc0 p hp0 hp).mono ?_
  rintro e W1 ⟨a, b, rfl, hc1, j1⟩
  have R1 := R0.move j1 hg
  have k1 := k0.win j1
  have ka := keep_1 W1 (.cells #[.int .i64 a, .int .i64 b] 67)
  have R2 := R1.keep0 ka
  have k2 := k1.alloc (.cells #[.int .i64 a, .int .i64 b] 67)
  have hc2 := hc1.keep0 ka
  have X2 := Lo.new W1 67 #[.int .i64 a, .int .i64 b] rfl
  have hqg : g < W1.heap.size := hc1.lt
  have hqr : w.heap.size < W1.heap.size := R1.lt
  clear ka k1 R1 hc1 R0 k0 j1 hc0
  go_wp2_with fail
  generalize W1.alloc (.cells #[.int .i64 a, .int .i64 b] 67) = W2 at k2 R2 hc2 X2 ⊢
  refine (l01Below_any W2 g hc2 12 (by omega) (by omega)).mono ?_
  rintro e W3 ⟨y, rfl, _, _, hc3, j3⟩
  have R3 := R2.move j3 hg
  have X3 := X2.move j3 hqg
  have k3 := k2.win j3
  clear k2 R2 hc2 X2 j3
  have HQ : y = 0 ∨ y = 1 ∨ (y ≠ 0 ∧ y ≠ 1) := by omega
  rcases HQ with rfl | rfl | ⟨n0, n1⟩
  · go_wp2_with fail
    refine (l01PickInt_lit W3 g hc3 [-1, -2, p, 9223372036854775807, -9223372036854775808] 5 rfl (by omega) (by omega) rfl).mono ?_
    rintro e W4 ⟨z, rfl, _, hc4, j4⟩
    have X4 := X3.move j4 hqg
    have R9 := (R3.move j4 hg).other (b := W1.heap.size) (j := 0) (.int .i64 z) (by omega)
    have k9 := (k3.win j4).setCell (p := ⟨W1.heap.size, 0, none⟩) (.inr (Nat.le_of_lt hqr)) (.int .i64 z)
    have hc9 := hc4.other (j := 0) (.int .i64 z) hqg
    have X9 : Lo (W4.setCell ⟨W1.heap.size, 0, none⟩ (.int .i64 z)) W1.heap.size 67 #[.int .i64 z, .int .i64 b] := X4.set 0 (.int .i64 z)
    obtain ⟨x0, x1, v0, v1⟩ := X4.c2
    clear X4 hc4 j4 k3 X3 R3 hc3
    go_upto_region 7 with (fail)
    clear x0 x1 v0 v1
    generalize W4.setCell ⟨W1.heap.size, 0, none⟩ (.int .i64 z) = W9 at R9 k9 hc9 X9 ⊢
    obtain ⟨c0, c1, _⟩ := X9.c2
    obtain ⟨r0, r1, f0, f1⟩ := R9.c2
    go_wp2
    refine bodyPost_ret (v := .agg #[.int .i64 z, .int .i64 b]) (by simp [results, Try.results94, go_sem, r0, r1]) rfl ?_
    exact two_end _ _ hc9 hg k9
  · go_wp2_with fail
    refine (l02Rights_any W3 g hc3).mono ?_
    rintro e W4 ⟨z, rfl, hc4, j4⟩
    have X4 := X3.move j4 hqg
    have R9 := (R3.move j4 hg).other (b := W1.heap.size) (j := 1) (.int .i64 z) (by omega)
    have k9 := (k3.win j4).setCell (p := ⟨W1.heap.size, 1, none⟩) (.inr (Nat.le_of_lt hqr)) (.int .i64 z)
    have hc9 := hc4.other (j := 1) (.int .i64 z) hqg
    have X9 : Lo (W4.setCell ⟨W1.heap.size, 1, none⟩ (.int .i64 z)) W1.heap.size 67 #[.int .i64 a, .int .i64 z] := X4.set 1 (.int .i64 z)
    obtain ⟨x0, x1, v0, v1⟩ := X4.c2
    clear X4 hc4 j4 k3 X3 R3 hc3
    go_upto_region 7 with (fail)
    clear x0 x1 v0 v1
    generalize W4.setCell ⟨W1.heap.size, 1, none⟩ (.int .i64 z) = W9 at R9 k9 hc9 X9 ⊢
    obtain ⟨c0, c1, _⟩ := X9.c2
    obtain ⟨r0, r1, f0, f1⟩ := R9.c2
    go_wp2
    refine bodyPost_ret (v := .agg #[.int .i64 a, .int .i64 z]) (by simp [results, Try.results94, go_sem, r0, r1]) rfl ?_
    exact two_end _ _ hc9 hg k9
  · have m0 : (y == 0) = false := by simpa using n0
    have m1 : (y == 1) = false := by simpa using n1
    clear n0 n1
    obtain ⟨c0, c1, _⟩ := X3.c2
    obtain ⟨r0, r1, f0, f1⟩ := R3.c2
    go_wp2
    refine bodyPost_ret (v := .agg #[.int .i64 a, .int .i64 b]) (by simp [results, Try.results94, go_sem, r0, r1]) rfl ?_
    exact two_end _ _ hc3 hg k3
theorem Bld.lower2 {w0 w : World} {e : TypeId} {sz : Nat} {v : Value} {n : Nat} {xs : List Value} {B B' : Nat} (h : Bld w0 B e sz w v n xs) (hB : B' ≤ B) : Bld w B' e sz w v n xs := by
  refine ⟨?_, Below.refl _ _, Nat.le_trans hB h.le⟩
  obtain ⟨h1, ⟨rfl, rfl⟩ | ⟨g, cap, cur, rfl, hb, hg, hn, hm, hs, ht⟩⟩ := h.own
  · exact ⟨h1, .inl ⟨rfl, rfl⟩⟩
  · exact ⟨h1, .inr ⟨g, cap, cur, rfl, Nat.le_trans hB hb, hg, hn, hm, hs, ht⟩⟩
/-- A table that is being built. -/
def TabB (w : World) (g : Nat) (W : World) (v : Value) (m : Nat) (l : List Int) : Prop := l.length = m * 2 ∧ Bld W w.heap.size 67 2 W v m (ints l) ∧ Cur W g ∧ Keep g (g + 1) w W
def DrawnTab (n : Nat) (w : World) (g : Nat) (e : Ending) (w' : World) : Prop := ∃ (v : Value) (l : List Int), e = .returned v ∧ TabB w g w' v n l
theorem TabB.move {w W W' : World} {g m : Nat} {v : Value} {l : List Int} (h : TabB w g W v m l) (hc : Cur W' g) (hk : Keep g (g + 1) W W') (hg : g < w.heap.size) : TabB w g W' v m l :=
  ⟨h.1, h.2.1.move hk hg, hc, h.2.2.2.win hk⟩
theorem TabB.snoc {w W W' : World} {g m : Nat} {v v' : Value} {l : List Int} {a b : Int} (h : TabB w g W v m l) (hb : Bld W w.heap.size 67 2 W' v' (m + 1) (ints l ++ [.int .i64 a, .int .i64 b])) (hs : W.heap.size ≤ W'.heap.size) (hg : g < w.heap.size) : TabB w g W' v' (m + 1) (l ++ [a, b]) := by
  rw [show ints l ++ [.int .i64 a, .int .i64 b] = ints (l ++ [a, b]) from by simp [ints]] at hb
  have qk := Keep.of_belowB hb.bel hs
  exact ⟨by rw [List.length_append, h.1]; simp; omega, hb.rebase, h.2.2.1.keep qk (by omega), h.2.2.2.trans qk (by have := h.2.1.le; intro i hi hw; omega)⟩
set_option maxRecDepth 100000 in
set_option maxHeartbeats 4000000 in
theorem l03Table_any (w : World) (g : Nat) (hc : Cur w g) (n : Nat) (hn : n ≤ 64) (p : Int) (hp0 : 0 < p) (hp : p ≤ 256) : Calls Try.prog 93 #[.pointer (some ⟨g, 0, none⟩), .int .i64 n, .int .i64 p] w (DrawnTab n w g) := by
  have hg := hc.lt
  have hb0 := Lib.hid (show TabB w g (w.alloc (.cells #[] 67)) (.slice (some ⟨w.heap.size, 0, none⟩) 0 0) 0 [] from
    ⟨rfl, (Bld.lit (B := w.heap.size) w 67 2 (Nat.le_refl _) (g := w.heap.size) rfl).rebase, hc.keep0 (keep_1 w _), (Keep.refl g (g + 1) w).alloc _⟩)
  clear hc
  go_enter Try.func93, Try.ntmps93
  go_wp2
  go_loopw [7, 8] (fun v i wr => ∃ (k : Nat) (l : List Int), k ≤ n ∧ i = .int .i64 k ∧ TabB w g wr v k l) (fun _ i _ => n - (intOf i).toNat)
  case atStart => exact ⟨0, [], by omega, rfl, hb0.out⟩
  case round =>
    obtain ⟨k, l, hk, rfl, hP⟩ := hrel
    clear hb0
    by_cases hlt : (k : Int) < n
    · have hd : decide ((k : Int) < n) = true := by simpa using hlt
      go_wp2_with fail
      refine (l03Slot_any wr g hP.2.2.1 p hp0 hp).mono ?_
      rintro e W3 ⟨a, b, rfl, hc3, j3⟩
      have P3 := hP.move hc3 j3 hg
      have hb3 := P3.2.1
      have HP := Lib.hid P3
      clear hP hc3 j3 P3
      go_wp2_with (at_builtin; refine wpList_append_one rfl _ _ 50 rfl elSlot rfl hb3 1 [.int .i64 a, .int .i64 b] _ rfl (by first | rfl | simp) rfl (by simp [Value.oneCell']) (by omega) (by unfold maxLen; omega) (fun v' w' hb' hsz => ?_))
      have P4 := Lib.hid (HP.out.snoc hb' hsz hg)
      clear hb' hsz hb3
      go_wp2
      go_roundw
      case rel => exact ⟨k + 1, _, by omega, by go_num, P4.out⟩
      case measure => simp [intOf]; omega
    · have hd : decide ((k : Int) < n) = false := by simpa using hlt
      have HP := Lib.hid hP
      clear hP
      go_wp2
      go_ret
      have hkn : k = n := by omega
      subst hkn
      exact ⟨_, l, rfl, HP.out⟩
def DrawnAnyT (n : Nat) (w : World) (g : Nat) (e : Ending) (w' : World) : Prop := ∃ (v : Value) (l : List Int), e = .returned v ∧ l.length ≤ n * 2 ∧ Row w' w.heap.size w'.heap.size 67 2 v (ints l) ∧ Cur w' g ∧ Keep g (g + 1) w w'
theorem Row.lowT {w : World} {lo hi sz : Nat} {E : TypeId} {A : Option Addr} {n c k : Nat} {xs : List Value} (h : Row w lo hi E sz (.slice A n c) xs) (hk : k ≤ n) : Row w lo hi E sz (.slice A k c) (xs.take (k * sz)) := by
  obtain ⟨A', n', c', e, h1, h2, h3, h4⟩ := h
  injection e with e1 e2 e3
  subst e1 e2 e3
  have hkn : k * sz ≤ n * sz := Nat.mul_le_mul_right _ hk
  refine ⟨_, k, c, rfl, by omega, h2, by rw [List.length_take, h3]; omega, fun hn => ?_⟩
  obtain ⟨g, off, cur, hA, hl, hlt, hg, hc⟩ := h4 (by omega)
  refine ⟨g, off, cur, hA, hl, hlt, hg, fun j u hu => hc j u ?_⟩
  rw [List.getElem?_take] at hu
  split at hu
  · exact hu
  · cases hu
set_option maxRecDepth 100000 in
set_option maxHeartbeats 8000000 in
theorem l03AnyTable_any (w : World) (g : Nat) (hc : Cur w g) (n : Nat) (hn0 : 0 < n) (hn : n ≤ 64) (p : Int) (hp0 : 0 < p) (hp : p ≤ 256) : Calls Try.prog 77 #[.pointer (some ⟨g, 0, none⟩), .int .i64 n, .int .i64 p] w (DrawnAnyT n w g) := by
  have hg := hc.lt
  go_enter Try.func77, Try.ntmps77
  go_wp2_with fail
  refine (l03Table_any w g hc n hn p hp0 hp).mono ?_
  rintro e W1 ⟨v, l, rfl, P1⟩
  clear hc
  go_wp2_with fail
  refine (l01Below_any W1 g P1.2.2.1 8 (by omega) (by omega)).mono ?_
  rintro e W2 ⟨y, rfl, _, _, hc2, j2⟩
  have P2 := P1.move hc2 j2 hg
  clear P1 hc2 j2
  obtain ⟨A, c, rfl⟩ := P2.2.1.slice
  have hrow := P2.2.1.row
  have hcap : n ≤ c ∧ c ≤ 9223372036854775807 := by have := hrow.len.2; unfold maxLen at this; omega
  obtain ⟨hcap1, hcap2⟩ := hcap
  have HQ : y = 0 ∨ y = 1 ∨ (y ≠ 0 ∧ y ≠ 1) := by omega
  rcases HQ with rfl | rfl | ⟨n0, n1⟩
  · clear hrow
    go_wp2_with fail
    refine (l01Below_any W2 g P2.2.2.1 n (by omega) (by omega)).mono ?_
    rintro e W3 ⟨x, rfl, x0, x1, hc3, j3⟩
    have P3 := P2.move hc3 j3 hg
    clear P2 hc3 j3
    obtain ⟨k, rfl⟩ := Int.eq_ofNat_of_zero_le x0
    have hk : k < n := by omega
    go_wp2_with fail
    refine (l03Any_any W3 g P3.2.2.1 p hp0 hp).mono ?_
    rintro e W4 ⟨a, b, rfl, hc4, j4⟩
    have P4 := P3.move hc4 j4 hg
    clear P3 hc4 j4
    have r4 := P4.2.1.row
    obtain ⟨q, off, rfl, hq1, hq2, hq3, hat⟩ := r4.at_ (by omega)
    have hlen : (ints l).length = n * 2 := by rw [ints_length, P4.1]
    obtain ⟨z0, s0⟩ : ∃ z, (ints l)[k * 2]? = some z := ⟨_, List.getElem?_eq_getElem (by omega)⟩
    obtain ⟨z1, s1⟩ : ∃ z, (ints l)[k * 2 + 1]? = some z := ⟨_, List.getElem?_eq_getElem (by omega)⟩
    obtain ⟨c0, f0⟩ := hat (k * 2) _ s0
    obtain ⟨c1, f1⟩ := hat (k * 2 + 1) _ s1
    have r5 := (r4.set_ (k * 2) (.int .i64 a)).set_ (k * 2 + 1) (.int .i64 b)
    have e5 : ((ints l).set (k * 2) (.int .i64 a)).set (k * 2 + 1) (.int .i64 b) = ints ((l.set (k * 2) a).set (k * 2 + 1) b) := by simp [ints, List.map_set]
    rw [e5] at r5
    have k5 := (P4.2.2.2.setCell (p := ⟨q, off + k * 2, none⟩) (.inr hq1) (.int .i64 a)).setCell (p := ⟨q, off + (k * 2 + 1), none⟩) (.inr hq1) (.int .i64 b)
    have hc5 := (P4.2.2.1.other (b := q) (j := off + k * 2) (.int .i64 a) (by omega)).other (b := q) (j := off + (k * 2 + 1)) (.int .i64 b) (by omega)
    have hl4 := P4.1
    rw [show off + (k * 2 + 1) = off + k * 2 + 1 from rfl] at c1 f1 k5 hc5
    have R5 := Lib.hid r5
    have K5 := Lib.hid k5
    have C5 := Lib.hid hc5
    clear hat s0 s1 r4 r5 k5 hc5 P4 e5 hlen
    have hkn : (k : Int) < n := by omega
    go_wp2
    go_ret
    refine ⟨_, (l.set (k * 2) a).set (k * 2 + 1) b, rfl, by rw [List.length_set, List.length_set]; omega, ?_, C5.out, K5.out⟩
    have := R5.out
    simpa [World.setCell, Nat.add_assoc] using this
  · clear hrow
    go_wp2_with fail
    refine (l01Below_any W2 g P2.2.2.1 n (by omega) (by omega)).mono ?_
    rintro e W3 ⟨x, rfl, x0, x1, hc3, j3⟩
    have P3 := Lib.hid (P2.move hc3 j3 hg)
    clear P2 hc3 j3
    obtain ⟨k, rfl⟩ := Int.eq_ofNat_of_zero_le x0
    have hk : k ≤ n := by omega
    have hkl : (k : Int) ≤ c := by omega
    have hk0 : (0 : Int) ≤ k := by omega
    go_wp2
    go_ret
    have r := P3.out.2.1.row.lowT (k := k) (by omega)
    rw [show (ints l).take (k * 2) = ints (l.take (k * 2)) from by simp [ints, List.map_take]] at r
    exact ⟨_, l.take (k * 2), rfl, by rw [List.length_take]; omega, r, P3.out.2.2.1, P3.out.2.2.2⟩
  · have m0 : (y == 0) = false := by simpa using n0
    have m1 : (y == 1) = false := by simpa using n1
    have HP := Lib.hid P2
    clear n0 n1 hrow P2
    go_wp2
    go_ret
    have q := HP.out
    exact ⟨_, l, rfl, by rw [q.1]; omega, q.2.1.row, q.2.2.1, q.2.2.2⟩
set_option maxHeartbeats 2000000 in
theorem DrawCompose_any (w : World) (v : Value) (bs : List Int) (hr : Rd w w.heap.size 1 v (byts bs)) : Calls Try.prog 46 #[v] w fun e w' => ∃ (u u2 : Value) (l l2 : List Int), e = .returned (.tuple #[u, u2]) ∧ l.length ≤ 8 ∧ l2.length ≤ 16 ∧ Row w' 0 w'.heap.size 67 2 u (ints l) ∧ Row w' 0 w'.heap.size 67 2 u2 (ints l2) ∧ Keep 0 0 w w' := by
  go_enter Try.func46, Try.ntmps46
  go_wp2_with fail
  refine (l01New_any w v bs hr).mono ?_
  rintro e W1 ⟨rfl, hc1, k1⟩
  go_wp2_with fail
  refine (l03AnyTable_any W1 _ hc1 4 (by omega) (by omega) 8 (by omega) (by omega)).mono ?_
  rintro e W2 ⟨u, l, rfl, hl, r2, hc2, j2⟩
  have k2 := k1.trm j2 (Nat.le_refl _)
  have hg := hc1.lt
  clear k1 j2
  go_wp2_with fail
  refine (l03AnyTable_any W2 _ hc2 8 (by omega) (by omega) 24 (by omega) (by omega)).mono ?_
  rintro e W3 ⟨u2, l2, rfl, hl2, q3, hc3, j3⟩
  have k3 := k2.trm j3 (Nat.le_refl _)
  have r3 := (r2.keep j3 (.inr (.inl hg))).mono (Nat.zero_le _) j3.size
  clear k2 j3 r2 hc2
  go_wp2
  go_returns
  exact ⟨u, u2, l, l2, rfl, hl, hl2, r3, q3.mono (Nat.zero_le _) (Nat.le_refl _), k3⟩
end Go.Proofs.Ytcoipfnphmealaa
