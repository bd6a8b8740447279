/-
  Contracts of the draws' cursor: made over bytes, asked for a byte, for a number below a bound, for one of a list. What is drawn is a number in its range; nothing more is said of it.
-/
import Derived.Test.YtcoipfnphmealaaElI
import Derived.Test.YtcoipfnphmealaaKeep
import Derived.Test.YtcoipfnphmealaaOne
import Derived.WalkSpells
import Derived.Deep.QuietTactic
import Derived.BigQuiet
namespace Go.Proofs.Ytcoipfnphmealaa
open Go.RowKit

/-- The block g is a cursor: bytes in older memory, a place among them, a number. -/
structure Cur (w : World) (g : Nat) : Prop where
  ex : ∃ (A : Option Addr) (n c : Nat) (bs : List Int) (i : Nat) (h : Int), w.cell? ⟨g, 0, none⟩ = some (.slice A n c) ∧ w.cell? ⟨g, 1, none⟩ = some (.int .i64 i) ∧ w.cell? ⟨g, 2, none⟩ = some (.int .i64 h) ∧
    w.frozen? ⟨g, 1, none⟩ = false ∧ w.frozen? ⟨g, 2, none⟩ = false ∧ Rd w g 1 (.slice A n c) (byts bs) ∧ i ≤ n
theorem Cur.lt {w : World} {g : Nat} (h : Cur w g) : g < w.heap.size := by
  obtain ⟨_, _, _, _, _, _, h0, _⟩ := h.ex
  exact World.block_lt_of_cell? _ _ h0
theorem Cur.keep {w w' : World} {g lo hi : Nat} (h : Cur w g) (hk : Keep lo hi w w') (hd : g < lo ∨ hi ≤ lo) : Cur w' g := by
  have hlt := h.lt
  obtain ⟨A, n, c, bs, i, x, h0, h1, h2, f1, f2, hr, hi⟩ := h.ex
  exact ⟨A, n, c, bs, i, x, (hk.cell (p := ⟨g, 0, none⟩) hlt (by show g < _ ∨ _ ≤ g; omega)).trans h0, (hk.cell (p := ⟨g, 1, none⟩) hlt (by show g < _ ∨ _ ≤ g; omega)).trans h1, (hk.cell (p := ⟨g, 2, none⟩) hlt (by show g < _ ∨ _ ≤ g; omega)).trans h2,
    (hk.frozen (p := ⟨g, 1, none⟩) hlt (by show g < _ ∨ _ ≤ g; omega)).trans f1, (hk.frozen (p := ⟨g, 2, none⟩) hlt (by show g < _ ∨ _ ≤ g; omega)).trans f2, hr.keep hk (by omega) (by omega), hi⟩
theorem Cur.keep0 {w w' : World} {g : Nat} (h : Cur w g) (hk : Keep 0 0 w w') : Cur w' g := h.keep hk (.inr (Nat.le_refl 0))

/-- A drawn integer in the range lo .. hi-1, and the cursor g behind it. -/
def DrawnIn (lo hi : Int) (w : World) (g : Nat) (e : Ending) (w' : World) : Prop := ∃ x : Int, e = .returned (.int .i64 x) ∧ lo ≤ x ∧ x < hi ∧ Cur w' g ∧ Keep g (g + 1) w w'
def DrawnOf (l : List Int) (w : World) (g : Nat) (e : Ending) (w' : World) : Prop := ∃ x : Int, e = .returned (.int .i64 x) ∧ x ∈ l ∧ Cur w' g ∧ Keep g (g + 1) w w'
def DrawnBool (w : World) (g : Nat) (e : Ending) (w' : World) : Prop := ∃ x : Bool, e = .returned (.bool x) ∧ Cur w' g ∧ Keep g (g + 1) w w'
def CurMade (w : World) (e : Ending) (w' : World) : Prop := e = .returned (.pointer (some ⟨w.heap.size, 0, none⟩)) ∧ Cur w' w.heap.size ∧ Keep 0 0 w w'

theorem and_range (a : Int) (b : Nat) (hb : b < 9223372036854775808) : 0 ≤ bits .and .i64 a (b : Int) ∧ bits .and .i64 a (b : Int) ≤ b := by
  have e : bits .and .i64 a (b : Int) = (((BitVec.ofInt 64 a).toNat &&& b : Nat) : Int) := by
    have hx : (BitVec.ofInt 64 a).toNat &&& b ≤ b := Nat.and_le_right
    have hn : (BitVec.ofInt 64 (b : Int)).toNat = b := by rw [BitVec.ofInt_natCast, BitVec.toNat_ofNat]; exact Nat.mod_eq_of_lt (by omega)
    show IntKind.i64.wrap ((BitVec.ofInt 64 a &&& BitVec.ofInt 64 (b : Int)).toNat : Int) = _
    rw [BitVec.toNat_and, hn, IntKind.wrap_i64]
    omega
  rw [e]
  have hx : (BitVec.ofInt 64 a).toNat &&& b ≤ b := Nat.and_le_right
  omega
theorem and255 (a : Int) : 0 ≤ bits .and .i64 a 255 ∧ bits .and .i64 a 255 < 256 := by
  have := and_range a 255 (by omega)
  simp only [Int.cast_ofNat_Int] at this
  omega

theorem free_of_row {w : World} {g : Nat} {c : Array Value} {E : TypeId} (h : w.heap[g]? = some (.cells c E (0, 0))) (j : Nat) : w.frozen? ⟨g, j, none⟩ = false := by
  simp [World.frozen?, h]
theorem cur_made {w : World} {A : Option Addr} {n c : Nat} {bs : List Int} {E : TypeId} (hr : Rd w w.heap.size 1 (.slice A n c) (byts bs)) (q : Nat) (x : Int) :
    CurMade w (.returned (.pointer (some ⟨w.heap.size, 0, none⟩))) ((w.alloc (.cells #[.slice A n c, .int .i64 0, .int .i64 x] E)).drewN q) := by
  refine ⟨rfl, ⟨A, n, c, bs, 0, x, ?_, ?_, ?_, ?_, ?_, ?_, Nat.zero_le _⟩, (keep_1 w _).drewN q⟩
  · exact (cell_of_row _ w.heap.size 0 _ E (0, 0) (Go.heap_alloc_new w _)).trans rfl
  · exact (cell_of_row _ w.heap.size 1 _ E (0, 0) (Go.heap_alloc_new w _)).trans rfl
  · exact (cell_of_row _ w.heap.size 2 _ E (0, 0) (Go.heap_alloc_new w _)).trans rfl
  · exact free_of_row (Go.heap_alloc_new w _) _
  · exact free_of_row (Go.heap_alloc_new w _) _
  · exact hr.keep ((keep_1 w _).drewN q) (Nat.le_refl _) (.inr (Nat.le_refl 0))
set_option maxRecDepth 100000 in
set_option maxHeartbeats 2000000 in
theorem l01New_any (w : World) (v : Value) (bs : List Int) (hr : Rd w w.heap.size 1 v (byts bs)) : Calls Try.prog 59 #[v] w (CurMade w) := by
  obtain ⟨A, n, c, rfl, hn, hm, hl, ha⟩ := id hr
  rw [show (byts bs).length = bs.length from by simp [byts], Nat.mul_one] at hl
  unfold maxLen at hm
  have hm2 : n ≤ 9223372036854775807 := by omega
  have HL := Lib.hid hl
  have HR := Lib.hid hr
  clear hl hr
  go_enter Try.func59, Try.ntmps59
  go_wp2
  go_loopw [3, 4] (fun h i wr => ∃ (k q : Nat) (x : Int), k ≤ n ∧ i = .int .i64 k ∧ h = .int .i64 x ∧ wr = w.drewN q) (fun _ i _ => n - (intOf i).toNat)
  case atStart => exact ⟨0, 0, _, Nat.zero_le _, rfl, rfl, rfl⟩
  case round =>
    obtain ⟨k, q, x, hk, rfl, rfl, rfl⟩ := hrel
    by_cases hlt : k < n ∧ k < 4000
    · obtain ⟨hlt, h4⟩ := hlt
      obtain ⟨b, off, rfl, _, hca⟩ := ha (by omega)
      have cb := hca k _ (show (byts bs)[k]? = some (.int .u8 (bs[k]'(by rw [HL.out]; exact hlt))) from by simp [byts, show k < bs.length by rw [HL.out]; exact hlt])
      generalize bs[k]'(by rw [HL.out]; exact hlt) = y at cb
      clear hca ha
      have hd : decide ((k : Int) < n) = true := by simpa using hlt
      go_wp2
      all_goals try (go_quiet (fail); go_wp2)
      go_roundw
      case rel => exact ⟨k + 1, _, _, by omega, by go_num, rfl, rfl⟩
      case measure => simp [intOf]; omega
    · rcases Nat.lt_or_ge k n with h1 | h1
      · have hd : decide ((k : Int) < n) = true := by simpa using h1
        have hd2 : decide ((k : Int) < 4000) = false := by simp; omega
        have hd3 : decide (k < 4000) = false := by simp; omega
        clear hlt
        go_wp2
        all_goals try (go_quiet (fail); go_wp2)
        go_ret
        exact cur_made HR.out q x
      · have hd : decide ((k : Int) < n) = false := by simp; omega
        clear hlt
        go_wp2
        all_goals try (go_quiet (fail); go_wp2)
        go_ret
        exact cur_made HR.out q x
/-- The cursor behind a byte's being drawn. -/
theorem cur_set {w : World} {g : Nat} (hc : Cur w g) (y : Int) : Cur (w.setCell ⟨g, 2, none⟩ (.int .i64 y)) g ∧ Keep g (g + 1) w (w.setCell ⟨g, 2, none⟩ (.int .i64 y)) := by
  have hlt := hc.lt
  obtain ⟨A, n, c, bs, i, h, c0, c1, c2, f1, f2, hr, hi⟩ := hc.ex
  have k : Keep g (g + 1) w (w.setCell ⟨g, 2, none⟩ (.int .i64 y)) := (Keep.refl g (g + 1) w).setCell (.inl ⟨Nat.le_refl _, Nat.lt_succ_self _⟩) _
  refine ⟨⟨A, n, c, bs, i, y, ?_, ?_, ?_, ?_, ?_, hr.keep k (by omega) (.inl (Nat.le_refl _)), hi⟩, k⟩
  · rw [World.cell?_setCell_other _ _ _ _ (by simp)]; exact c0
  · rw [World.cell?_setCell_other _ _ _ _ (by simp)]; exact c1
  · exact World.cell?_setCell_same _ _ _ c2
  · rw [World.frozen?_setCell]; exact f1
  · rw [World.frozen?_setCell]; exact f2
theorem cur_step {w : World} {g : Nat} (hc : Cur w g) {i : Nat} (A : Option Addr) (n c : Nat) (c0 : w.cell? ⟨g, 0, none⟩ = some (.slice A n c)) (c1 : w.cell? ⟨g, 1, none⟩ = some (.int .i64 i)) (hi : i < n) : Cur (w.setCell ⟨g, 1, none⟩ (.int .i64 ((i : Int) + 1))) g ∧ Keep g (g + 1) w (w.setCell ⟨g, 1, none⟩ (.int .i64 ((i : Int) + 1))) := by
  have hlt := hc.lt
  obtain ⟨A', n', c', bs, i', h, d0, d1, c2, f1, f2, hr, hi'⟩ := hc.ex
  rw [c0] at d0
  injection d0 with d0
  injection d0 with e1 e2 e3
  subst e1 e2 e3
  have k : Keep g (g + 1) w (w.setCell ⟨g, 1, none⟩ (.int .i64 ((i : Int) + 1))) := (Keep.refl g (g + 1) w).setCell (.inl ⟨Nat.le_refl _, Nat.lt_succ_self _⟩) _
  refine ⟨⟨A, n, c, bs, i + 1, h, ?_, ?_, ?_, ?_, ?_, hr.keep k (by omega) (.inl (Nat.le_refl _)), by omega⟩, k⟩
  · rw [World.cell?_setCell_other _ _ _ _ (by simp)]; exact c0
  · exact World.cell?_setCell_same _ _ _ c1
  · rw [World.cell?_setCell_other _ _ _ _ (by simp)]; exact c2
  · rw [World.frozen?_setCell]; exact f1
  · rw [World.frozen?_setCell]; exact f2
theorem Cur.drewN {w : World} {g : Nat} (hc : Cur w g) (q : Nat) : Cur (w.drewN q) g := hc.keep0 ((Keep.refl 0 0 w).drewN q)
/-- The two ends of a byte's being drawn. -/
theorem drawn_end {w : World} {g i n c : Nat} {A : Option Addr} (hc : Cur w g) (c0 : w.cell? ⟨g, 0, none⟩ = some (.slice A n c)) (c1 : w.cell? ⟨g, 1, none⟩ = some (.int .i64 i)) (hi : i < n) (y x : Int) (q : Nat) :
    DrawnIn 0 256 w g (.returned (.int .i64 (bits .and .i64 x 255))) (((w.setCell ⟨g, 2, none⟩ (.int .i64 y)).setCell ⟨g, 1, none⟩ (.int .i64 ((i : Int) + 1))).drewN q) := by
  obtain ⟨h1, k1⟩ := cur_set hc y
  obtain ⟨h2, k2⟩ := cur_step h1 (i := i) A n c (by rw [World.cell?_setCell_other _ _ _ _ (by simp)]; exact c0) (by rw [World.cell?_setCell_other _ _ _ _ (by simp)]; exact c1) hi
  exact ⟨_, rfl, (and255 _).1, (and255 _).2, h2.drewN q, (k1.win k2).drewN q⟩
theorem drawn_end0 {w : World} {g : Nat} (hc : Cur w g) (y x : Int) (q : Nat) :
    DrawnIn 0 256 w g (.returned (.int .i64 (bits .and .i64 x 255))) ((w.setCell ⟨g, 2, none⟩ (.int .i64 y)).drewN q) := by
  obtain ⟨h1, k1⟩ := cur_set hc y
  exact ⟨_, rfl, (and255 _).1, (and255 _).2, h1.drewN q, k1.drewN q⟩
set_option maxRecDepth 100000 in
set_option maxHeartbeats 2000000 in
theorem l01Byte_any (w : World) (g : Nat) (hc : Cur w g) : Calls Try.prog 89 #[.pointer (some ⟨g, 0, none⟩)] w (DrawnIn 0 256 w g) := by
  have hlt := hc.lt
  have HC := Lib.hid hc
  obtain ⟨A, n, c, bs, i, h, c0, c1, c2, f1, f2, hr, hi⟩ := hc.ex
  have d0 := Lib.hid c0
  have d1 := Lib.hid c1
  clear hc
  obtain ⟨A', n', c', e, hn, hm, hl, ha⟩ := id hr
  injection e with e1 e2 e3
  subst e1 e2 e3
  rw [show (byts bs).length = bs.length from by simp [byts], Nat.mul_one] at hl
  unfold maxLen at hm
  have hm2 : n ≤ 9223372036854775807 := by omega
  have HL := Lib.hid hl
  have HR := Lib.hid hr
  clear hl hr
  by_cases hin : i < n
  · obtain ⟨b, off, rfl, hbg, hca⟩ := ha (by omega)
    have cb := hca i _ (show (byts bs)[i]? = some (.int .u8 (bs[i]'(by rw [HL.out]; exact hin))) from by simp [byts, show i < bs.length by rw [HL.out]; exact hin])
    generalize bs[i]'(by rw [HL.out]; exact hin) = y at cb
    have hne : b ≠ g := by omega
    clear hca ha
    go_enter Try.func89, Try.ntmps89
    go_wp2
    all_goals try (go_quiet (fail); go_wp2)
    all_goals try (go_quiet (fail); go_wp2)
    all_goals try (go_quiet (fail); go_wp2)
    go_ret
    exact drawn_end HC.out d0.out d1.out hin _ _ _
  · have hin2 : i = n := by omega
    have hd : decide ((i : Int) < n) = false := by simp; omega
    have hd2 : decide (i < n) = false := by simp; omega
    clear ha hin2
    go_enter Try.func89, Try.ntmps89
    go_wp2
    all_goals try (go_quiet (fail); go_wp2)
    all_goals try (go_quiet (fail); go_wp2)
    go_ret
    rw [World.drewN_drewN]
    exact drawn_end0 HC.out _ _ _
set_option maxRecDepth 100000 in
set_option maxHeartbeats 2000000 in
theorem l01Below_any (w : World) (g : Nat) (hc : Cur w g) (n : Int) (h0 : 0 < n) (h1 : n ≤ 256) : Calls Try.prog 62 #[.pointer (some ⟨g, 0, none⟩), .int .i64 n] w (DrawnIn 0 n w g) := by
  go_enter Try.func62, Try.ntmps62
  go_wp2_with fail
  refine (l01Byte_any _ g hc).mono ?_
  rintro e w1 ⟨x, rfl, hx0, hx1, hc1, hk1⟩
  go_wp2
  go_ret
  exact ⟨x % n, rfl, Int.emod_nonneg _ (by omega), Int.emod_lt_of_pos _ h0, hc1, hk1⟩
set_option maxRecDepth 100000 in
set_option maxHeartbeats 2000000 in
theorem l01Below_big (w : World) (g : Nat) (hc : Cur w g) (n : Int) (h0 : 256 < n) (h1 : n ≤ 1000000) : Calls Try.prog 62 #[.pointer (some ⟨g, 0, none⟩), .int .i64 n] w (DrawnIn 0 n w g) := by
  go_enter Try.func62, Try.ntmps62
  go_wp2_with fail
  refine (l01Byte_any _ g hc).mono ?_
  rintro e w1 ⟨x, rfl, hx0, hx1, hc1, hk1⟩
  go_wp2_with fail
  refine (l01Byte_any _ g hc1).mono ?_
  rintro e w2 ⟨y, rfl, hy0, hy1, hc2, hk2⟩
  go_wp2_with fail
  refine (l01Byte_any _ g hc2).mono ?_
  rintro e w3 ⟨z, rfl, hz0, hz1, hc3, hk3⟩
  go_wp2_with fail
  refine (l01Byte_any _ g hc3).mono ?_
  rintro e w4 ⟨u, rfl, hu0, hu1, hc4, hk4⟩
  go_wp2
  go_ret
  exact ⟨_, rfl, Int.emod_nonneg _ (by omega), Int.emod_lt_of_pos _ (by omega), hc4, ((hk1.win hk2).win hk3).win hk4⟩
set_option maxHeartbeats 2000000 in
theorem l01Once_any (w : World) (g : Nat) (hc : Cur w g) (n : Int) (h0 : 0 < n) (h1 : n ≤ 256) : Calls Try.prog 88 #[.pointer (some ⟨g, 0, none⟩), .int .i64 n] w (DrawnBool w g) := by
  go_enter Try.func88, Try.ntmps88
  go_wp2_with fail
  refine (l01Below_any _ g hc n h0 h1).mono ?_
  rintro e w1 ⟨x, rfl, hx0, hx1, hc1, hk1⟩
  go_wp2
  go_ret
  exact ⟨_, rfl, hc1, hk1⟩
set_option maxHeartbeats 2000000 in
theorem l01PickInt_any (w : World) (g lo hi : Nat) (E : TypeId) (v : Value) (l : List Int) (hc : Cur w g) (hr : Row w lo hi E 1 v (ints l)) (hg : g < lo) (hl0 : 0 < l.length) (hl1 : l.length ≤ 256) :
    Calls Try.prog 75 #[.pointer (some ⟨g, 0, none⟩), v] w (DrawnOf l w g) := by
  obtain ⟨A, n, c, rfl⟩ := hr.slice
  have hln := hr.len
  rw [ints_length, Nat.mul_one] at hln
  obtain ⟨hn, hnc, _⟩ := hln
  have hn0 : 0 < n := by omega
  have hn1 : n ≤ 256 := by omega
  have HN := Lib.hid hn
  have HR := Lib.hid hr
  clear hn hl0 hl1 hr
  go_enter Try.func75, Try.ntmps75
  go_wp2_with fail
  refine (l01Below_any _ g hc n (by omega) (by omega)).mono ?_
  rintro e w1 ⟨x, rfl, hx0, hx1, hc1, hk1⟩
  have hr1 := HR.out.keep hk1 (by omega)
  obtain ⟨k, rfl⟩ := Int.eq_ofNat_of_zero_le hx0
  obtain ⟨b, off, rfl, _, _, _, hat⟩ := hr1.at_ hn0
  have hkl : k < l.length := by rw [HN.out]; omega
  have cb := (hat k _ (ints_get l k hkl)).1
  have HM := Lib.hid (List.getElem_mem hkl)
  generalize l[k] = y at cb HM
  clear hat hr1 hkl
  have hk2 : k < n := by omega
  go_wp2
  go_ret
  exact ⟨_, rfl, HM.out, hc1, hk1⟩
/-- The list is a literal, made just before. -/
theorem l01PickInt_lit (W : World) (g : Nat) (hc : Cur W g) (l : List Int) (n : Nat) (hn : l.length = n) (hl0 : 0 < n) (hl1 : n ≤ 256) {q : Nat} (hq : W.heap.size = q) :
    Calls Try.prog 75 #[.pointer (some ⟨g, 0, none⟩), .slice (some ⟨q, 0, none⟩) n n] (W.alloc (.cells (ints l).toArray 3)) (DrawnOf l W g) := by
  subst hq hn
  refine (l01PickInt_any _ g W.heap.size _ 3 _ l (hc.keep0 (keep_1 W _)) (Row.lit W 3 (sz := 1) l.length (by rw [ints_length, Nat.mul_one]) (by unfold maxLen; omega)) hc.lt hl0 hl1).mono ?_
  rintro e w1 ⟨x, he, hm, h1, h2⟩
  exact ⟨x, he, hm, h1, ((Keep.refl g (g + 1) W).alloc _).win h2⟩
end Go.Proofs.Ytcoipfnphmealaa
