/-
  Contracts of the statements' helpers on slices of structs of two integers (instructions, slots).
-/
import Derived.Test.YtignedkhklfonaaConv
import Derived.Test.YtignedkhklfonaaMem
import Derived.WalkKit
import Derived.WalkSpells
import Derived.Deep.QuietTactic
import Derived.BigQuiet
import Derived.Deep.RegionHeld3
import Derived.Handy
namespace Go.Proofs.Ytignedkhklfonaa
open Go.RowKit

theorem run_make_row2 {P : Program} (t e : TypeId) (i : TypeInfo) (z : Value) (ht : P.underlying t = some (.slice e)) (hi : P.info? e = some i) (hz : i.zero = some z)
    (kl kc : IntKind) (n c : Nat) (hnc : n ≤ c) (hbytes : i.bytes * c ≤ 281474976710656) (h63 : c ≤ 9223372036854775807) (w : World) :
    (Instr.makeSlice t (.int kl (n : Int)) (.int kc (c : Int))).run P w = .ok (.slice (some ⟨w.heap.size, 0, none⟩) n c) (w.alloc (.cells (madeCells z.cells (c * i.size)) e)) := by
  have hb : (i.bytes : Int) * (c : Int) ≤ 281474976710656 := by
    have h : ((i.bytes * c : Nat) : Int) ≤ 281474976710656 := by omega
    rwa [Int.natCast_mul] at h
  have hr := run_make (P := P) w t e i z ht hi hz kl kc n c (by omega) (by omega) hb (by omega)
  simp only [Int.toNat_natCast] at hr
  exact hr
theorem marks_at2 {w : World} {b off n k : Nat} {k0 : Int} (hc : ∀ j u, (marks k0 (n * 2))[j]? = some u → w.cell? ⟨b, off + j, none⟩ = some u) (hk : k < n) :
    w.cell? ⟨b, off + k * 2, none⟩ = some (.int .i64 (k0 + (k : Int) * 2)) ∧ w.cell? ⟨b, off + k * 2 + 1, none⟩ = some (.int .i64 (k0 + (k : Int) * 2 + 1)) := by
  have h (j : Nat) (hj : j < 2) : w.cell? ⟨b, off + k * 2 + j, none⟩ = some (.int .i64 (k0 + ((k * 2 + j : Nat) : Int))) := by
    rw [Nat.add_assoc]
    exact hc (k * 2 + j) _ (marks_get k0 _ _ (by omega))
  refine ⟨?_, ?_⟩
  · rw [show (k0 + (k : Int) * 2) = k0 + ((k * 2 + 0 : Nat) : Int) from by omega]; exact h 0 (by omega)
  · rw [show (k0 + (k : Int) * 2 + 1) = k0 + ((k * 2 + 1 : Nat) : Int) from by omega]; exact h 1 (by omega)
theorem ints_at2 {w : World} {b off n k : Nat} {xs : List Int} (hl : xs.length = n * 2) (hc : ∀ j u, (ints xs)[j]? = some u → w.cell? ⟨b, off + j, none⟩ = some u) (hk : k < n) :
    ∃ x0 x1, xs.take ((k + 1) * 2) = xs.take (k * 2) ++ [x0, x1] ∧ w.cell? ⟨b, off + k * 2, none⟩ = some (.int .i64 x0) ∧ w.cell? ⟨b, off + k * 2 + 1, none⟩ = some (.int .i64 x1) := by
  have h (j : Nat) (hj : j < 2) : w.cell? ⟨b, off + k * 2 + j, none⟩ = some (.int .i64 (xs[k * 2 + j]'(by omega))) := by
    rw [Nat.add_assoc]
    exact hc (k * 2 + j) _ (ints_get xs _ (by omega))
  refine ⟨xs[k * 2]'(by omega), xs[k * 2 + 1]'(by omega), ?_, h 0 (by omega), h 1 (by omega)⟩
  rw [show (k + 1) * 2 = k * 2 + 1 + 1 from by omega, List.take_succ_eq_append_getElem (by omega), List.take_succ_eq_append_getElem (by omega)]
  simp only [List.append_assoc, List.cons_append, List.nil_append]
/-- The two stores of a round, as the walk makes them. -/
theorem row_mark2 {w0 w : World} {lo hi : Nat} {E : TypeId} {A : Option Addr} {n c k : Nat} {k0 : Int} {xs : List Value} (hr : Row w lo hi E 2 (.slice A n c) (marks k0 (k * 2) ++ xs.drop (k * 2))) (hk : Keep lo hi w0 w)
    (hl : xs.length = n * 2) (hlt : k < n) : ∃ g off, A = some ⟨g, off, none⟩ ∧ lo ≤ g ∧ g < hi ∧
    ∃ x0 : Value, (w.cell? ⟨g, off + k * 2, none⟩ = some x0 ∧ w.frozen? ⟨g, off + k * 2, none⟩ = false) ∧
    ∃ x1 : Value, ((w.setCell ⟨g, off + k * 2, none⟩ (.int .i64 (k0 + (k : Int) * 2))).cell? ⟨g, off + k * 2 + 1, none⟩ = some x1 ∧ (w.setCell ⟨g, off + k * 2, none⟩ (.int .i64 (k0 + (k : Int) * 2))).frozen? ⟨g, off + k * 2 + 1, none⟩ = false) ∧
    Row ((w.setCell ⟨g, off + k * 2, none⟩ (.int .i64 (k0 + (k : Int) * 2))).setCell ⟨g, off + k * 2 + 1, none⟩ (.int .i64 (k0 + (k : Int) * 2 + 1)))
      lo hi E 2 (.slice (some ⟨g, off, none⟩) n c) (marks k0 (k * 2 + 1 + 1) ++ xs.drop (k * 2 + 1 + 1)) ∧
    Keep lo hi w0 ((w.setCell ⟨g, off + k * 2, none⟩ (.int .i64 (k0 + (k : Int) * 2))).setCell ⟨g, off + k * 2 + 1, none⟩ (.int .i64 (k0 + (k : Int) * 2 + 1))) := by
  obtain ⟨g, off, rfl, hlo, hhi, _, _⟩ := hr.at_ (by omega)
  have st {w : World} {q : Nat} {y : Int} (h : Row w lo hi E 2 (.slice (some ⟨g, off, none⟩) n c) (marks k0 q ++ xs.drop q)) (hq : q < n * 2) (e : k0 + (q : Int) = y) :
      (∃ x : Value, w.cell? ⟨g, off + q, none⟩ = some x ∧ w.frozen? ⟨g, off + q, none⟩ = false) ∧ Row (w.setCell ⟨g, off + q, none⟩ (.int .i64 y)) lo hi E 2 (.slice (some ⟨g, off, none⟩) n c) (marks k0 (q + 1) ++ xs.drop (q + 1)) := by
    subst e
    obtain ⟨g', off', e', _, _, _, hat⟩ := h.at_ (by omega)
    injection e' with e'
    injection e' with e1 e2
    subst e1 e2
    refine ⟨⟨_, hat q _ ((marks_next k0 q xs).trans (List.getElem?_eq_getElem (by omega)))⟩, ?_⟩
    have := h.set_ q (.int .i64 (k0 + (q : Int)))
    rwa [marks_step k0 q xs (by omega)] at this
  obtain ⟨⟨x0, f0⟩, r1⟩ := st (q := k * 2) (y := k0 + (k : Int) * 2) hr (by omega) (by omega)
  obtain ⟨⟨x1, f1⟩, r2⟩ := st (q := k * 2 + 1) (y := k0 + (k : Int) * 2 + 1) r1 (by omega) (by omega)
  exact ⟨g, off, rfl, hlo, hhi, x0, f0, x1, f1, r2, (hk.setCell (.inl ⟨hlo, hhi⟩) _).setCell (.inl ⟨hlo, hhi⟩) _⟩
/-- Two cells of a row that was made are filled. -/
theorem row_fill2 {w : World} {lo hi : Nat} {E : TypeId} {g n c k : Nat} {xs : List Int} {Z : List Value} (h : Row w lo hi E 2 (.slice (some ⟨g, 0, none⟩) n c) (ints (xs.take (k * 2)) ++ Z.drop (k * 2))) (hk : k < n) (hx : xs.length = n * 2) (hZ : Z.length = n * 2)
    {x0 x1 : Int} (hx4 : xs.take ((k + 1) * 2) = xs.take (k * 2) ++ [x0, x1]) :
    ∃ y0 y1 : Value, (w.cell? ⟨g, k * 2, none⟩ = some y0 ∧ w.cell? ⟨g, k * 2 + 1, none⟩ = some y1 ∧ w.frozen? ⟨g, k * 2, none⟩ = false ∧ w.frozen? ⟨g, k * 2 + 1, none⟩ = false) ∧
    Row ((w.setCell ⟨g, k * 2, none⟩ (.int .i64 x0)).setCell ⟨g, k * 2 + 1, none⟩ (.int .i64 x1)) lo hi E 2 (.slice (some ⟨g, 0, none⟩) n c) (ints (xs.take ((k + 1) * 2)) ++ Z.drop ((k + 1) * 2)) := by
  have hl : (ints (xs.take (k * 2))).length = k * 2 := by rw [ints_length, List.length_take]; omega
  obtain ⟨g', off', e', _, _, _, hat⟩ := h.at_ (by omega)
  injection e' with e'
  injection e' with e1 e2
  subst e1 e2
  have at_ (j : Nat) (hj : j < 2) : ∃ y : Value, w.cell? ⟨g, k * 2 + j, none⟩ = some y ∧ w.frozen? ⟨g, k * 2 + j, none⟩ = false := by
    have hlt : k * 2 + j < (ints (xs.take (k * 2)) ++ Z.drop (k * 2)).length := by rw [List.length_append, hl, List.length_drop]; omega
    have := hat (k * 2 + j) _ (List.getElem?_eq_getElem hlt)
    rw [Nat.zero_add] at this
    exact ⟨_, this⟩
  obtain ⟨y0, c0, f0⟩ := at_ 0 (by omega)
  obtain ⟨y1, c1, f1⟩ := at_ 1 (by omega)
  refine ⟨y0, y1, ⟨c0, c1, f0, f1⟩, ?_⟩
  have r1 := (h.put (q := k * 2) hl (by rw [List.length_drop]; omega) (.int .i64 x0)).2.2.2
  have r2 := (r1.put (q := k * 2 + 1) (by simp [hl]) (by simp only [List.length_drop]; omega) (.int .i64 x1)).2.2.2
  simp only [Nat.zero_add] at r2
  rw [hx4, ints_append]
  simp only [List.drop_drop, List.append_assoc, List.cons_append, List.nil_append] at r2
  rw [show (k + 1) * 2 = k * 2 + (1 + 1) from by omega]
  simpa [ints, List.append_assoc] using r2
theorem elSlot : Elem Try.prog 29 49 (.agg #[.int .i64 0, .int .i64 0]) 2 16 :=
  ⟨Try.underlying29, info_parts (by kernel_rfl), rfl, by decide⟩
set_option maxHeartbeats 2000000 in
theorem heldSlotS_any (w : World) (hi : Nat) (v : Value) (N : Nat) (k0 : Int) (hr : Rd w hi 2 v (marks k0 N)) (h0 : 0 ≤ k0) (h9 : k0 + N ≤ 4611686018427387904) :
    Calls Try.prog 42 #[v, .int .i64 k0] w fun e w' => e = .returned (.int .i64 (k0 + N)) ∧ Dr w w' := by
  obtain ⟨A, n, c, rfl, hn, hm, hl, ha⟩ := hr
  rw [marks_length] at hl
  subst hl
  unfold maxLen at hm
  have hm2 : n ≤ 9223372036854775807 := by omega
  go_enter Try.func42, Try.ntmps42
  go_wp2
  go_loopw [1, 5] (fun kk i wr => ∃ k : Nat, k ≤ n ∧ i = .int .i64 k ∧ kk = .int .i64 (k0 + k * 2) ∧ Dr w wr) (fun _ i _ => n - (intOf i).toNat)
  case atStart => exact ⟨0, Nat.zero_le _, rfl, by simp, Dr.refl _⟩
  case round =>
    obtain ⟨k, hk, rfl, rfl, ⟨q, rfl⟩⟩ := hrel
    by_cases hlt : k < n
    · obtain ⟨b, off, rfl, _, hc⟩ := ha (by omega)
      obtain ⟨c0, c1⟩ := marks_at2 hc hlt
      clear hc ha
      go_wp2
      go_roundw
      case rel => exact ⟨k + 1, by omega, by go_num, by go_num, Dr.mk _ _⟩
      case measure => simp [intOf]; omega
    · have hkn : k = n := by omega
      subst hkn
      go_wp2
      go_ret
      exact ⟨by simp, Dr.mk _ _⟩
set_option maxHeartbeats 2000000 in
theorem markSlotS_any (w : World) (lo hi : Nat) (v : Value) (xs : List Value) (N : Nat) (hN : xs.length = N) (k0 : Int) (hr : Row w lo hi 49 2 v xs) (h0 : 0 ≤ k0) (h9 : k0 + N ≤ 4611686018427387904) :
    Calls Try.prog 24 #[v, .int .i64 k0] w fun e w' => e = .returned (.int .i64 (k0 + N)) ∧ Row w' lo hi 49 2 v (marks k0 N) ∧ Keep lo hi w w' := by
  subst hN
  obtain ⟨A, n, c, rfl⟩ := hr.slice
  obtain ⟨hl, hn, hm⟩ := hr.len
  unfold maxLen at hm
  have hm2 : n ≤ 9223372036854775807 := by omega
  have HL := Lib.hid hl
  have h9' : k0 + n * 2 ≤ 4611686018427387904 := by omega
  clear hl h9
  go_enter Try.func24, Try.ntmps24
  go_wp2
  go_loopw [1, 5] (fun kk i wr => ∃ k : Nat, k ≤ n ∧ i = .int .i64 k ∧ kk = .int .i64 (k0 + k * 2) ∧ Row wr lo hi 49 2 (.slice A n c) (marks k0 (k * 2) ++ xs.drop (k * 2)) ∧ Keep lo hi w wr) (fun _ i _ => n - (intOf i).toNat)
  case atStart => exact ⟨0, Nat.zero_le _, rfl, by simp, by simpa [marks] using hr, Keep.refl _ _ _⟩
  case round =>
    obtain ⟨k, hk, rfl, rfl, hrow, hkeep⟩ := hrel
    by_cases hlt : k < n
    · obtain ⟨g, off, rfl, hlo, hhi, S⟩ := row_mark2 hrow hkeep HL.out hlt
      obtain ⟨x0, f0, x1, f1, hrow', hkeep'⟩ := S
      clear hrow hkeep hr
      go_wp2
      go_roundw
      case rel => exact ⟨k + 1, by omega, by go_num, by go_num, by rw [show (k + 1) * 2 = k * 2 + 1 + 1 from by omega]; exact hrow', hkeep'⟩
      case measure => simp [intOf]; omega
    · have hkn : k = n := by omega
      subst hkn
      go_wp2
      go_ret
      have hl2 := HL.out
      exact ⟨by rw [hl2]; simp, by rw [hl2]; rw [List.drop_of_length_le (by omega), List.append_nil] at hrow; exact hrow, hkeep⟩
set_option maxHeartbeats 4000000 in
theorem eqSlotS_any (w : World) (h1 h2 : Nat) (va vb : Value) (xs ys : List Int) (ra : Rd w h1 2 va (ints xs)) (rb : Rd w h2 2 vb (ints ys)) :
    Calls Try.prog 15 #[va, vb] w fun e w' => e = .returned (.bool (decide (xs = ys))) ∧ Keep 0 0 w w' := by
  obtain ⟨A, n, c, rfl, hn, hm, hl, ha⟩ := ra
  obtain ⟨B, n', c', rfl, hn', hm', hl', hb⟩ := rb
  rw [ints_length] at hl hl'
  unfold maxLen at hm hm'
  by_cases hq : xs.length = ys.length
  · obtain rfl : n' = n := by omega
    have hm2 : n' ≤ 9223372036854775807 := by omega
    have HL := Lib.hid hl
    have HL' := Lib.hid hl'
    have HQ := Lib.hid hq
    clear hl hl' hq
    go_enter Try.func15, Try.ntmps15
    go_wp2
    go_loopw [5] (fun i wr => ∃ k : Nat, k ≤ n' ∧ i = .int .i64 k ∧ xs.take (k * 2) = ys.take (k * 2) ∧ Keep 0 0 w wr) (fun i _ => n' - (intOf i).toNat)
    case atStart => exact ⟨0, Nat.zero_le _, rfl, rfl, Keep.refl _ _ _⟩
    case round =>
      obtain ⟨k, hk, rfl, ht, hK⟩ := hrel
      have HT := Lib.hid ht
      clear ht
      by_cases hlt : k < n'
      · obtain ⟨b, off, rfl, hb1, hca⟩ := ha (by omega)
        obtain ⟨b', off', rfl, hb2, hcb⟩ := hb (by omega)
        obtain ⟨x0, x1, hx, cx0, cx1⟩ := ints_at2 HL.out hca hlt
        obtain ⟨y0, y1, hy, cy0, cy1⟩ := ints_at2 HL'.out hcb hlt
        have HX := Lib.hid hx
        have HY := Lib.hid hy
        have bA := World.block_lt_of_cell? _ _ cx0
        have bB := World.block_lt_of_cell? _ _ cy0
        have S (w' : World) (h : Keep 0 0 w w') : w'.cell? ⟨b, off + k * 2, none⟩ = some (.int .i64 x0) ∧ w'.cell? ⟨b, off + k * 2 + 1, none⟩ = some (.int .i64 x1) ∧
            w'.cell? ⟨b', off' + k * 2, none⟩ = some (.int .i64 y0) ∧ w'.cell? ⟨b', off' + k * 2 + 1, none⟩ = some (.int .i64 y1) ∧ Keep 0 0 w w' :=
          ⟨(h.cell0 (by exact bA)).trans cx0, (h.cell0 (by exact bA)).trans cx1, (h.cell0 (by exact bB)).trans cy0, (h.cell0 (by exact bB)).trans cy1, h⟩
        have HS := Lib.hid S
        obtain ⟨d0, d1, d2, d3, _⟩ := S wr hK
        clear hca hcb ha hb hx hy cx0 cx1 cy0 cy1 bA bB S
        by_cases hxy : [x0, x1] = [y0, y1]
        · have hd : sameL [x0, x1] [y0, y1] = true := by simp only [sameL, hxy, decide_true]
          have HE := Lib.hid hxy
          clear hxy
          go_wp2
          go_region_held3 (fun w' => w'.cell? ⟨b, off + k * 2, none⟩ = some (.int .i64 x0) ∧ w'.cell? ⟨b, off + k * 2 + 1, none⟩ = some (.int .i64 x1) ∧
              w'.cell? ⟨b', off' + k * 2, none⟩ = some (.int .i64 y0) ∧ w'.cell? ⟨b', off' + k * 2 + 1, none⟩ = some (.int .i64 y1) ∧ Keep 0 0 w w')
            (first | exact HS.out _ hK.drew | exact HS.out _ hK | (refine HS.out _ (Keep.tr0 hK.drew ?_); assumption))
            (first | (go_at_call 35; refine (eqSlot_any _ _ _ _ _).mono ?_; rintro e w1 ⟨rfl, k1⟩))
          go_wp2
          go_roundw
          case rel => exact ⟨k + 1, by omega, by go_num, by rw [HX.out, HY.out, HT.out, HE.out], hK.drew.tr0 k1⟩
          case measure => simp [intOf]; omega
        · have hd : sameL [x0, x1] [y0, y1] = false := by simp only [sameL, hxy, decide_false]
          have hf : decide (xs = ys) = false := by
            simp only [decide_eq_false_iff_not]
            rintro rfl
            exact hxy (List.append_cancel_left (HX.out.symm.trans HY.out))
          have HF := Lib.hid hf
          clear hxy hf
          go_wp2
          go_region_held3 (fun w' => w'.cell? ⟨b, off + k * 2, none⟩ = some (.int .i64 x0) ∧ w'.cell? ⟨b, off + k * 2 + 1, none⟩ = some (.int .i64 x1) ∧
              w'.cell? ⟨b', off' + k * 2, none⟩ = some (.int .i64 y0) ∧ w'.cell? ⟨b', off' + k * 2 + 1, none⟩ = some (.int .i64 y1) ∧ Keep 0 0 w w')
            (first | exact HS.out _ hK.drew | exact HS.out _ hK | (refine HS.out _ (Keep.tr0 hK.drew ?_); assumption))
            (first | (go_at_call 35; refine (eqSlot_any _ _ _ _ _).mono ?_; rintro e w1 ⟨rfl, k1⟩))
          go_wp2
          go_ret
          exact ⟨by rw [HF.out]; rfl, hK.drew.tr0 k1⟩
      · go_wp2
        go_ret
        refine ⟨?_, hK⟩
        have h1 : xs.take (k * 2) = xs := List.take_of_length_le (by rw [HL.out]; omega)
        have h2 : ys.take (k * 2) = ys := List.take_of_length_le (by rw [HL'.out]; omega)
        have h3 := HT.out
        rw [h1, h2] at h3
        simp [h3]
  · have hd : ((n : Int) != n') = true := by simp; omega
    have hf : decide (xs = ys) = false := by simp; rintro rfl; exact hq rfl
    have HF := Lib.hid hf
    clear hl hl' hf hq
    go_enter Try.func15, Try.ntmps15
    go_wp2
    go_ret
    exact ⟨by rw [HF.out]; rfl, Keep.refl _ _ _⟩
theorem szSlotS_any (A : Option Addr) (n c : Nat) (hn : n ≤ 9223372036854775807) (w : World) : Calls Try.prog 9 #[.slice A n c, .int .i64 1048576] w fun e w' => e = .returned (.int .i64 (if n ≤ 1048576 then 1048576 - (n : Int) else -1)) ∧ w = w' := by
  by_cases h : n ≤ 1048576
  all_goals
    go_enter Try.func9, Try.ntmps9
    go_wp2
    go_ret
    exact ⟨by simp [*], rfl⟩
set_option maxHeartbeats 4000000 in
theorem toSlotS_any (w : World) (hi : Nat) (v : Value) (xs : List Int) (hr : Rd w hi 2 v (ints xs)) (hx : xs.length ≤ 2097152) :
    Calls Try.prog 12 #[v] w fun e w' => ∃ v', e = .returned v' ∧ Row w' w.heap.size w'.heap.size 49 2 v' (ints xs) ∧ Keep 0 0 w w' := by
  obtain ⟨A, n, c, rfl, hn, hm, hl, ha⟩ := hr
  rw [ints_length] at hl
  have hm2 : n ≤ 1048576 := by omega
  have HL := Lib.hid hl
  clear hl hx
  obtain ⟨i, hi1, hz, hsz, hby⟩ := elSlot.inf
  have hmk := fun W => run_make_row2 (P := Try.prog) 29 49 i _ elSlot.und hi1 hz .i64 .i64 n n (Nat.le_refl _) (by rw [hby]; omega) (by omega) W
  rw [hsz] at hmk
  go_enter Try.func12, Try.ntmps12
  go_wp2
  go_loopw [4] (fun i wr => ∃ (k : Nat) (Z : List Value), k ≤ n ∧ i = .int .i64 k ∧ Z.length = n * 2 ∧ Row wr w.heap.size (w.heap.size + 1) 49 2 (.slice (some ⟨w.heap.size, 0, none⟩) n n) (ints (xs.take (k * 2)) ++ Z.drop (k * 2)) ∧ Keep 0 0 w wr) (fun i _ => n - (intOf i).toNat)
  case atStart =>
    refine ⟨0, (madeCells #[.int .i64 0, .int .i64 0] (n * 2)).toList, Nat.zero_le _, rfl, by simp [size_madeCells], ?_, keep_1 _ _⟩
    rw [Nat.zero_mul, List.take_zero, List.drop_zero, show ints [] = [] from rfl, List.nil_append]
    exact Row.made w _ _ n (by rw [size_madeCells]) (by unfold maxLen; omega)
  case round =>
    obtain ⟨k, Z, hk, rfl, hZ, hrow, hK⟩ := hrel
    have HZ := Lib.hid hZ
    clear hZ hmk
    by_cases hlt : k < n
    · obtain ⟨b, off, rfl, hb1, hca⟩ := ha (by omega)
      obtain ⟨x0, x1, hx, cx0, cx1⟩ := ints_at2 HL.out hca hlt
      have HX := Lib.hid hx
      have bA := World.block_lt_of_cell? _ _ cx0
      have d0 := (hK.cell0 (p := ⟨b, off + k * 2, none⟩) (by exact bA)).trans cx0
      have d1 := (hK.cell0 (p := ⟨b, off + k * 2 + 1, none⟩) (by exact bA)).trans cx1
      clear hca ha hx cx0 cx1 bA
      go_wp2_with fail
      refine (toSlot_any _ _ _).mono ?_
      rintro e w1 ⟨rfl, k1⟩
      have r1 := hrow.keep k1 (.inr (.inr (Nat.le_refl 0)))
      obtain ⟨y0, y1, ⟨e0, e1, f0, f1⟩, r2⟩ := row_fill2 r1 hlt HL.out HZ.out HX.out
      have K := ((hK.tr0 k1).setCell (p := ⟨w.heap.size, k * 2, none⟩) (.inr (Nat.le_refl _)) (.int .i64 x0)).setCell (p := ⟨w.heap.size, k * 2 + 1, none⟩) (.inr (Nat.le_refl _)) (.int .i64 x1)
      clear hrow hK k1 r1
      go_wp2
      go_roundw
      case rel => exact ⟨k + 1, Z, by omega, by go_num, HZ.out, r2, K⟩
      case measure => simp [intOf]; omega
    · have hkn : k = n := by omega
      subst hkn
      go_wp2
      go_ret
      refine ⟨_, rfl, ?_, hK⟩
      rw [List.drop_of_length_le (by rw [HZ.out]; omega), List.append_nil, List.take_of_length_le (by rw [HL.out]; omega)] at hrow
      exact hrow.clip
end Go.Proofs.Ytignedkhklfonaa
