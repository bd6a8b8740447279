/-
  Contracts of the statements' helpers on slices of entries (four integers an element): eqEntryS, markEntryS, heldEntryS, toEntryS, szEntryS.
-/
import Derived.Test.YtiakihknknignaaConv
import Derived.Test.YtiakihknknignaaMem
import Derived.WalkKit
import Derived.WalkSpells
import Derived.Deep.QuietTactic
import Derived.BigQuiet
import Derived.Deep.RegionHeld3
import Derived.Handy
namespace Go.Proofs.Ytiakihknknignaa
open Go.RowKit

theorem run_make_rowN {P : Program} (t e : TypeId) (i : TypeInfo) (z : Value) (ht : P.underlying t = some (.slice e)) (hi : P.info? e = some i) (hz : i.zero = some z)
    (kl kc : IntKind) (n c : Nat) (hnc : n ≤ c) (hbytes : i.bytes * c ≤ 281474976710656) (h63 : c ≤ 9223372036854775807) (w : World) :
    (Instr.makeSlice t (.int kl (n : Int)) (.int kc (c : Int))).run P w = .ok (.slice (some ⟨w.heap.size, 0, none⟩) n c) (w.alloc (.cells (madeCells z.cells (c * i.size)) e)) := by
  have hb : (i.bytes : Int) * (c : Int) ≤ 281474976710656 := by
    have h : ((i.bytes * c : Nat) : Int) ≤ 281474976710656 := by omega
    rwa [Int.natCast_mul] at h
  have hr := run_make (P := P) w t e i z ht hi hz kl kc n c (by omega) (by omega) hb (by omega)
  simp only [Int.toNat_natCast] at hr
  exact hr
theorem marks_at4 {w : World} {b off n k : Nat} {k0 : Int} (hc : ∀ j u, (marks k0 (n * 4))[j]? = some u → w.cell? ⟨b, off + j, none⟩ = some u) (hk : k < n) :
    w.cell? ⟨b, off + k * 4, none⟩ = some (.int .i64 (k0 + (k : Int) * 4)) ∧ w.cell? ⟨b, off + k * 4 + 1, none⟩ = some (.int .i64 (k0 + (k : Int) * 4 + 1)) ∧
    w.cell? ⟨b, off + k * 4 + 2, none⟩ = some (.int .i64 (k0 + (k : Int) * 4 + 1 + 1)) ∧ w.cell? ⟨b, off + k * 4 + 3, none⟩ = some (.int .i64 (k0 + (k : Int) * 4 + 1 + 1 + 1)) := by
  have h (j : Nat) (hj : j < 4) : w.cell? ⟨b, off + k * 4 + j, none⟩ = some (.int .i64 (k0 + ((k * 4 + j : Nat) : Int))) := by
    rw [Nat.add_assoc]
    exact hc (k * 4 + j) _ (marks_get k0 _ _ (by omega))
  refine ⟨?_, ?_, ?_, ?_⟩
  · rw [show (k0 + (k : Int) * 4) = k0 + ((k * 4 + 0 : Nat) : Int) from by omega]; exact h 0 (by omega)
  · rw [show (k0 + (k : Int) * 4 + 1) = k0 + ((k * 4 + 1 : Nat) : Int) from by omega]; exact h 1 (by omega)
  · rw [show (k0 + (k : Int) * 4 + 1 + 1) = k0 + ((k * 4 + 2 : Nat) : Int) from by omega]; exact h 2 (by omega)
  · rw [show (k0 + (k : Int) * 4 + 1 + 1 + 1) = k0 + ((k * 4 + 3 : Nat) : Int) from by omega]; exact h 3 (by omega)
theorem ints_at4 {w : World} {b off n k : Nat} {xs : List Int} (hl : xs.length = n * 4) (hc : ∀ j u, (ints xs)[j]? = some u → w.cell? ⟨b, off + j, none⟩ = some u) (hk : k < n) :
    ∃ x0 x1 x2 x3, xs.take ((k + 1) * 4) = xs.take (k * 4) ++ [x0, x1, x2, x3] ∧ w.cell? ⟨b, off + k * 4, none⟩ = some (.int .i64 x0) ∧ w.cell? ⟨b, off + k * 4 + 1, none⟩ = some (.int .i64 x1) ∧
    w.cell? ⟨b, off + k * 4 + 2, none⟩ = some (.int .i64 x2) ∧ w.cell? ⟨b, off + k * 4 + 3, none⟩ = some (.int .i64 x3) := by
  have h (j : Nat) (hj : j < 4) : w.cell? ⟨b, off + k * 4 + j, none⟩ = some (.int .i64 (xs[k * 4 + j]'(by omega))) := by
    rw [Nat.add_assoc]
    exact hc (k * 4 + j) _ (ints_get xs _ (by omega))
  refine ⟨xs[k * 4]'(by omega), xs[k * 4 + 1]'(by omega), xs[k * 4 + 2]'(by omega), xs[k * 4 + 3]'(by omega), ?_, h 0 (by omega), h 1 (by omega), h 2 (by omega), h 3 (by omega)⟩
  rw [show (k + 1) * 4 = k * 4 + 1 + 1 + 1 + 1 from by omega, List.take_succ_eq_append_getElem (by omega), List.take_succ_eq_append_getElem (by omega), List.take_succ_eq_append_getElem (by omega), List.take_succ_eq_append_getElem (by omega)]
  simp only [List.append_assoc, List.cons_append, List.nil_append]

/-- The four stores of a round, as the walk makes them. -/
theorem row_mark4 {w0 w : World} {lo hi : Nat} {E : TypeId} {A : Option Addr} {n c k : Nat} {k0 : Int} {xs : List Value} (hr : Row w lo hi E 4 (.slice A n c) (marks k0 (k * 4) ++ xs.drop (k * 4))) (hk : Keep lo hi w0 w)
    (hl : xs.length = n * 4) (hlt : k < n) : ∃ g off, A = some ⟨g, off, none⟩ ∧ lo ≤ g ∧ g < hi ∧
    ∃ x0 : Value, (w.cell? ⟨g, off + k * 4, none⟩ = some x0 ∧ w.frozen? ⟨g, off + k * 4, none⟩ = false) ∧
    ∃ x1 : Value, ((w.setCell ⟨g, off + k * 4, none⟩ (.int .i64 (k0 + (k : Int) * 4))).cell? ⟨g, off + k * 4 + 1, none⟩ = some x1 ∧ (w.setCell ⟨g, off + k * 4, none⟩ (.int .i64 (k0 + (k : Int) * 4))).frozen? ⟨g, off + k * 4 + 1, none⟩ = false) ∧
    ∃ x2 : Value, (((w.setCell ⟨g, off + k * 4, none⟩ (.int .i64 (k0 + (k : Int) * 4))).setCell ⟨g, off + k * 4 + 1, none⟩ (.int .i64 (k0 + (k : Int) * 4 + 1))).cell? ⟨g, off + k * 4 + 2, none⟩ = some x2 ∧
      ((w.setCell ⟨g, off + k * 4, none⟩ (.int .i64 (k0 + (k : Int) * 4))).setCell ⟨g, off + k * 4 + 1, none⟩ (.int .i64 (k0 + (k : Int) * 4 + 1))).frozen? ⟨g, off + k * 4 + 2, none⟩ = false) ∧
    ∃ x3 : Value, ((((w.setCell ⟨g, off + k * 4, none⟩ (.int .i64 (k0 + (k : Int) * 4))).setCell ⟨g, off + k * 4 + 1, none⟩ (.int .i64 (k0 + (k : Int) * 4 + 1))).setCell ⟨g, off + k * 4 + 2, none⟩ (.int .i64 (k0 + (k : Int) * 4 + 1 + 1))).cell? ⟨g, off + k * 4 + 3, none⟩ = some x3 ∧
      (((w.setCell ⟨g, off + k * 4, none⟩ (.int .i64 (k0 + (k : Int) * 4))).setCell ⟨g, off + k * 4 + 1, none⟩ (.int .i64 (k0 + (k : Int) * 4 + 1))).setCell ⟨g, off + k * 4 + 2, none⟩ (.int .i64 (k0 + (k : Int) * 4 + 1 + 1))).frozen? ⟨g, off + k * 4 + 3, none⟩ = false) ∧
    Row ((((w.setCell ⟨g, off + k * 4, none⟩ (.int .i64 (k0 + (k : Int) * 4))).setCell ⟨g, off + k * 4 + 1, none⟩ (.int .i64 (k0 + (k : Int) * 4 + 1))).setCell ⟨g, off + k * 4 + 2, none⟩ (.int .i64 (k0 + (k : Int) * 4 + 1 + 1))).setCell ⟨g, off + k * 4 + 3, none⟩ (.int .i64 (k0 + (k : Int) * 4 + 1 + 1 + 1)))
      lo hi E 4 (.slice (some ⟨g, off, none⟩) n c) (marks k0 (k * 4 + 1 + 1 + 1 + 1) ++ xs.drop (k * 4 + 1 + 1 + 1 + 1)) ∧
    Keep lo hi w0 ((((w.setCell ⟨g, off + k * 4, none⟩ (.int .i64 (k0 + (k : Int) * 4))).setCell ⟨g, off + k * 4 + 1, none⟩ (.int .i64 (k0 + (k : Int) * 4 + 1))).setCell ⟨g, off + k * 4 + 2, none⟩ (.int .i64 (k0 + (k : Int) * 4 + 1 + 1))).setCell ⟨g, off + k * 4 + 3, none⟩ (.int .i64 (k0 + (k : Int) * 4 + 1 + 1 + 1))) := by
  obtain ⟨g, off, rfl, hlo, hhi, _, _⟩ := hr.at_ (by omega)
  have st {w : World} {q : Nat} {y : Int} (h : Row w lo hi E 4 (.slice (some ⟨g, off, none⟩) n c) (marks k0 q ++ xs.drop q)) (hq : q < n * 4) (e : k0 + (q : Int) = y) :
      (∃ x : Value, w.cell? ⟨g, off + q, none⟩ = some x ∧ w.frozen? ⟨g, off + q, none⟩ = false) ∧ Row (w.setCell ⟨g, off + q, none⟩ (.int .i64 y)) lo hi E 4 (.slice (some ⟨g, off, none⟩) n c) (marks k0 (q + 1) ++ xs.drop (q + 1)) := by
    subst e
    obtain ⟨g', off', e', _, _, _, hat⟩ := h.at_ (by omega)
    injection e' with e'
    injection e' with e1 e2
    subst e1 e2
    refine ⟨⟨_, hat q _ ((marks_next k0 q xs).trans (List.getElem?_eq_getElem (by omega)))⟩, ?_⟩
    have := h.set_ q (.int .i64 (k0 + (q : Int)))
    rwa [marks_step k0 q xs (by omega)] at this
  obtain ⟨⟨x0, f0⟩, r1⟩ := st (q := k * 4) (y := k0 + (k : Int) * 4) hr (by omega) (by omega)
  obtain ⟨⟨x1, f1⟩, r2⟩ := st (q := k * 4 + 1) (y := k0 + (k : Int) * 4 + 1) r1 (by omega) (by omega)
  obtain ⟨⟨x2, f2⟩, r3⟩ := st (q := k * 4 + 1 + 1) (y := k0 + (k : Int) * 4 + 1 + 1) r2 (by omega) (by omega)
  obtain ⟨⟨x3, f3⟩, r4⟩ := st (q := k * 4 + 1 + 1 + 1) (y := k0 + (k : Int) * 4 + 1 + 1 + 1) r3 (by omega) (by omega)
  exact ⟨g, off, rfl, hlo, hhi, x0, f0, x1, f1, x2, f2, x3, f3, r4, (((hk.setCell (.inl ⟨hlo, hhi⟩) _).setCell (.inl ⟨hlo, hhi⟩) _).setCell (.inl ⟨hlo, hhi⟩) _).setCell (.inl ⟨hlo, hhi⟩) _⟩

set_option maxHeartbeats 2000000 in
theorem heldEntryS_any (w : World) (hi : Nat) (v : Value) (N : Nat) (k0 : Int) (hr : Rd w hi 4 v (marks k0 N)) (h0 : 0 ≤ k0) (h9 : k0 + N ≤ 4611686018427387904) :
    Calls Try.prog 25 #[v, .int .i64 k0] w fun e w' => e = .returned (.int .i64 (k0 + N)) ∧ Dr w w' := by
  obtain ⟨A, n, c, rfl, hn, hm, hl, ha⟩ := hr
  rw [marks_length] at hl
  subst hl
  unfold maxLen at hm
  have hm2 : n ≤ 9223372036854775807 := by omega
  go_enter Try.func25, Try.ntmps25
  go_wp2
  go_loopw [1, 5] (fun kk i wr => ∃ k : Nat, k ≤ n ∧ i = .int .i64 k ∧ kk = .int .i64 (k0 + k * 4) ∧ Dr w wr) (fun _ i _ => n - (intOf i).toNat)
  case atStart => exact ⟨0, Nat.zero_le _, rfl, by simp, Dr.refl _⟩
  case round =>
    obtain ⟨k, hk, rfl, rfl, ⟨q, rfl⟩⟩ := hrel
    by_cases hlt : k < n
    · obtain ⟨b, off, rfl, _, hc⟩ := ha (by omega)
      obtain ⟨c0, c1, c2, c3⟩ := marks_at4 hc hlt
      clear hc ha
      go_wp2
      go_roundw
      case rel => exact ⟨k + 1, by omega, by go_num, by go_num, Dr.mk _ _⟩
      case measure => simp [intOf]; omega
    · have hkn : k = n := by omega
      subst hkn
      go_wp2
      go_ret
      exact ⟨by simp, Dr.mk _ _⟩
set_option maxHeartbeats 2000000 in
theorem markEntryS_any (w : World) (lo hi : Nat) (v : Value) (xs : List Value) (N : Nat) (hN : xs.length = N) (k0 : Int) (hr : Row w lo hi 25 4 v xs) (h0 : 0 ≤ k0) (h9 : k0 + N ≤ 4611686018427387904) :
    Calls Try.prog 24 #[v, .int .i64 k0] w fun e w' => e = .returned (.int .i64 (k0 + N)) ∧ Row w' lo hi 25 4 v (marks k0 N) ∧ Keep lo hi w w' := by
  subst hN
  obtain ⟨A, n, c, rfl⟩ := hr.slice
  obtain ⟨hl, hn, hm⟩ := hr.len
  unfold maxLen at hm
  have hm2 : n ≤ 9223372036854775807 := by omega
  have HL := Lib.hid hl
  have h9' : k0 + n * 4 ≤ 4611686018427387904 := by omega
  clear hl h9
  go_enter Try.func24, Try.ntmps24
  go_wp2
  go_loopw [1, 5] (fun kk i wr => ∃ k : Nat, k ≤ n ∧ i = .int .i64 k ∧ kk = .int .i64 (k0 + k * 4) ∧ Row wr lo hi 25 4 (.slice A n c) (marks k0 (k * 4) ++ xs.drop (k * 4)) ∧ Keep lo hi w wr) (fun _ i _ => n - (intOf i).toNat)
  case atStart => exact ⟨0, Nat.zero_le _, rfl, by simp, by simpa [marks] using hr, Keep.refl _ _ _⟩
  case round =>
    obtain ⟨k, hk, rfl, rfl, hrow, hkeep⟩ := hrel
    by_cases hlt : k < n
    · obtain ⟨g, off, rfl, hlo, hhi, S⟩ := row_mark4 hrow hkeep HL.out hlt
      obtain ⟨x0, f0, x1, f1, x2, f2, x3, f3, hrow', hkeep'⟩ := S
      clear hrow hkeep hr
      go_wp2
      go_roundw
      case rel => exact ⟨k + 1, by omega, by go_num, by go_num, by rw [show (k + 1) * 4 = k * 4 + 1 + 1 + 1 + 1 from by omega]; exact hrow', hkeep'⟩
      case measure => simp [intOf]; omega
    · have hkn : k = n := by omega
      subst hkn
      go_wp2
      go_ret
      have hl2 := HL.out
      exact ⟨by rw [hl2]; simp, by rw [hl2]; rw [List.drop_of_length_le (by omega), List.append_nil] at hrow; exact hrow, hkeep⟩
set_option maxHeartbeats 4000000 in
theorem eqEntryS_any (w : World) (h1 h2 : Nat) (va vb : Value) (xs ys : List Int) (ra : Rd w h1 4 va (ints xs)) (rb : Rd w h2 4 vb (ints ys)) :
    Calls Try.prog 19 #[va, vb] w fun e w' => e = .returned (.bool (decide (xs = ys))) ∧ Keep 0 0 w w' := by
  obtain ⟨A, n, c, rfl, hn, hm, hl, ha⟩ := ra
  obtain ⟨B, n', c', rfl, hn', hm', hl', hb⟩ := rb
  rw [ints_length] at hl hl'
  unfold maxLen at hm hm'
  by_cases hq : xs.length = ys.length
  · obtain rfl : n' = n := by omega
    have hm2 : n' ≤ 9223372036854775807 := by omega
    have HL := Lib.hid hl
    have HL' := Lib.hid hl'
    have HQ := Lib.hid hq
    clear hl hl' hq
    go_enter Try.func19, Try.ntmps19
    go_wp2
    go_loopw [5] (fun i wr => ∃ k : Nat, k ≤ n' ∧ i = .int .i64 k ∧ xs.take (k * 4) = ys.take (k * 4) ∧ Keep 0 0 w wr) (fun i _ => n' - (intOf i).toNat)
    case atStart => exact ⟨0, Nat.zero_le _, rfl, rfl, Keep.refl _ _ _⟩
    case round =>
      obtain ⟨k, hk, rfl, ht, hK⟩ := hrel
      have HT := Lib.hid ht
      clear ht
      by_cases hlt : k < n'
      · obtain ⟨b, off, rfl, hb1, hca⟩ := ha (by omega)
        obtain ⟨b', off', rfl, hb2, hcb⟩ := hb (by omega)
        obtain ⟨x0, x1, x2, x3, hx, cx0, cx1, cx2, cx3⟩ := ints_at4 HL.out hca hlt
        obtain ⟨y0, y1, y2, y3, hy, cy0, cy1, cy2, cy3⟩ := ints_at4 HL'.out hcb hlt
        have HX := Lib.hid hx
        have HY := Lib.hid hy
        have bA := World.block_lt_of_cell? _ _ cx0
        have bB := World.block_lt_of_cell? _ _ cy0
        have S (w' : World) (h : Keep 0 0 w w') : w'.cell? ⟨b, off + k * 4, none⟩ = some (.int .i64 x0) ∧ w'.cell? ⟨b, off + k * 4 + 1, none⟩ = some (.int .i64 x1) ∧ w'.cell? ⟨b, off + k * 4 + 2, none⟩ = some (.int .i64 x2) ∧ w'.cell? ⟨b, off + k * 4 + 3, none⟩ = some (.int .i64 x3) ∧
            w'.cell? ⟨b', off' + k * 4, none⟩ = some (.int .i64 y0) ∧ w'.cell? ⟨b', off' + k * 4 + 1, none⟩ = some (.int .i64 y1) ∧ w'.cell? ⟨b', off' + k * 4 + 2, none⟩ = some (.int .i64 y2) ∧ w'.cell? ⟨b', off' + k * 4 + 3, none⟩ = some (.int .i64 y3) ∧ Keep 0 0 w w' :=
          ⟨(h.cell0 (by exact bA)).trans cx0, (h.cell0 (by exact bA)).trans cx1, (h.cell0 (by exact bA)).trans cx2, (h.cell0 (by exact bA)).trans cx3, (h.cell0 (by exact bB)).trans cy0, (h.cell0 (by exact bB)).trans cy1, (h.cell0 (by exact bB)).trans cy2, (h.cell0 (by exact bB)).trans cy3, h⟩
        have HS := Lib.hid S
        obtain ⟨d0, d1, d2, d3, d4, d5, d6, d7, _⟩ := S wr hK
        clear hca hcb ha hb hx hy cx0 cx1 cx2 cx3 cy0 cy1 cy2 cy3 bA bB S
        by_cases hxy : [x0, x1, x2, x3] = [y0, y1, y2, y3]
        · have hd : sameL [x0, x1, x2, x3] [y0, y1, y2, y3] = true := by simp only [sameL, hxy, decide_true]
          have HE := Lib.hid hxy
          clear hxy
          go_wp2
          go_region_held3 (fun w' => w'.cell? ⟨b, off + k * 4, none⟩ = some (.int .i64 x0) ∧ w'.cell? ⟨b, off + k * 4 + 1, none⟩ = some (.int .i64 x1) ∧ w'.cell? ⟨b, off + k * 4 + 2, none⟩ = some (.int .i64 x2) ∧ w'.cell? ⟨b, off + k * 4 + 3, none⟩ = some (.int .i64 x3) ∧
              w'.cell? ⟨b', off' + k * 4, none⟩ = some (.int .i64 y0) ∧ w'.cell? ⟨b', off' + k * 4 + 1, none⟩ = some (.int .i64 y1) ∧ w'.cell? ⟨b', off' + k * 4 + 2, none⟩ = some (.int .i64 y2) ∧ w'.cell? ⟨b', off' + k * 4 + 3, none⟩ = some (.int .i64 y3) ∧ Keep 0 0 w w')
            (first | exact HS.out _ hK.drew | exact HS.out _ hK | (refine HS.out _ (Keep.tr0 hK.drew ?_); assumption))
            (first | (go_at_call 18; refine (eqEntry_any _ _ _ _ _ _ _ _ _).mono ?_; rintro e w1 ⟨rfl, k1⟩))
          go_wp2
          go_roundw
          case rel => exact ⟨k + 1, by omega, by go_num, by rw [HX.out, HY.out, HT.out, HE.out], hK.drew.tr0 k1⟩
          case measure => simp [intOf]; omega
        · have hd : sameL [x0, x1, x2, x3] [y0, y1, y2, y3] = false := by simp only [sameL, hxy, decide_false]
          have hf : decide (xs = ys) = false := by
            simp only [decide_eq_false_iff_not]
            rintro rfl
            exact hxy (List.append_cancel_left (HX.out.symm.trans HY.out))
          have HF := Lib.hid hf
          clear hxy hf
          go_wp2
          go_region_held3 (fun w' => w'.cell? ⟨b, off + k * 4, none⟩ = some (.int .i64 x0) ∧ w'.cell? ⟨b, off + k * 4 + 1, none⟩ = some (.int .i64 x1) ∧ w'.cell? ⟨b, off + k * 4 + 2, none⟩ = some (.int .i64 x2) ∧ w'.cell? ⟨b, off + k * 4 + 3, none⟩ = some (.int .i64 x3) ∧
              w'.cell? ⟨b', off' + k * 4, none⟩ = some (.int .i64 y0) ∧ w'.cell? ⟨b', off' + k * 4 + 1, none⟩ = some (.int .i64 y1) ∧ w'.cell? ⟨b', off' + k * 4 + 2, none⟩ = some (.int .i64 y2) ∧ w'.cell? ⟨b', off' + k * 4 + 3, none⟩ = some (.int .i64 y3) ∧ Keep 0 0 w w')
            (first | exact HS.out _ hK.drew | exact HS.out _ hK | (refine HS.out _ (Keep.tr0 hK.drew ?_); assumption))
            (first | (go_at_call 18; refine (eqEntry_any _ _ _ _ _ _ _ _ _).mono ?_; rintro e w1 ⟨rfl, k1⟩))
          go_wp2
          go_ret
          exact ⟨by rw [HF.out]; rfl, hK.drew.tr0 k1⟩
      · go_wp2
        go_ret
        refine ⟨?_, hK⟩
        have h1 : xs.take (k * 4) = xs := List.take_of_length_le (by rw [HL.out]; omega)
        have h2 : ys.take (k * 4) = ys := List.take_of_length_le (by rw [HL'.out]; omega)
        have h3 := HT.out
        rw [h1, h2] at h3
        simp [h3]
  · have hd : ((n : Int) != n') = true := by simp; omega
    have hf : decide (xs = ys) = false := by simp; rintro rfl; exact hq rfl
    have HF := Lib.hid hf
    clear hl hl' hf hq
    go_enter Try.func19, Try.ntmps19
    go_wp2
    go_ret
    exact ⟨by rw [HF.out]; rfl, Keep.refl _ _ _⟩
theorem szEntryS_any (A : Option Addr) (n c : Nat) (hn : n ≤ 9223372036854775807) (w : World) : Calls Try.prog 14 #[.slice A n c, .int .i64 1048576] w fun e w' => e = .returned (.int .i64 (if n ≤ 1048576 then 1048576 - (n : Int) else -1)) ∧ w = w' := by
  by_cases h : n ≤ 1048576
  all_goals
    go_enter Try.func14, Try.ntmps14
    go_wp2
    go_ret
    exact ⟨by simp [*], rfl⟩
theorem elEnt : Elem Try.prog 28 25 (.agg #[.int .i64 0, .int .i64 0, .int .i64 0, .int .i64 0]) 4 32 :=
  ⟨Try.underlying28, info_parts (by kernel_rfl), rfl, by decide⟩
set_option maxHeartbeats 4000000 in
theorem toEntryS_any (w : World) (hi : Nat) (v : Value) (xs : List Int) (hr : Rd w hi 4 v (ints xs)) (hx : xs.length ≤ 4194304) :
    Calls Try.prog 16 #[v] w fun e w' => ∃ v', e = .returned v' ∧ Row w' w.heap.size w'.heap.size 25 4 v' (ints xs) ∧ Keep 0 0 w w' := by
  obtain ⟨A, n, c, rfl, hn, hm, hl, ha⟩ := hr
  rw [ints_length] at hl
  have hm2 : n ≤ 1048576 := by omega
  have HL := Lib.hid hl
  clear hl hx
  obtain ⟨i, hi1, hz, hsz, hby⟩ := elEnt.inf
  have hmk := fun W => run_make_rowN (P := Try.prog) 28 25 i _ elEnt.und hi1 hz .i64 .i64 n n (Nat.le_refl _) (by rw [hby]; omega) (by omega) W
  rw [hsz] at hmk
  go_enter Try.func16, Try.ntmps16
  go_wp2
  go_loopw [4] (fun i wr => ∃ (k : Nat) (Z : List Value), k ≤ n ∧ i = .int .i64 k ∧ Z.length = n * 4 ∧ Row wr w.heap.size (w.heap.size + 1) 25 4 (.slice (some ⟨w.heap.size, 0, none⟩) n n) (ints (xs.take (k * 4)) ++ Z.drop (k * 4)) ∧ Keep 0 0 w wr) (fun i _ => n - (intOf i).toNat)
  case atStart =>
    refine ⟨0, (madeCells #[.int .i64 0, .int .i64 0, .int .i64 0, .int .i64 0] (n * 4)).toList, Nat.zero_le _, rfl, by simp [size_madeCells], ?_, keep_1 _ _⟩
    rw [Nat.zero_mul, List.take_zero, List.drop_zero, show ints [] = [] from rfl, List.nil_append]
    exact Row.made w _ _ n (by rw [size_madeCells]) (by unfold maxLen; omega)
  case round =>
    obtain ⟨k, Z, hk, rfl, hZ, hrow, hK⟩ := hrel
    have HZ := Lib.hid hZ
    clear hZ hmk
    by_cases hlt : k < n
    · obtain ⟨b, off, rfl, hb1, hca⟩ := ha (by omega)
      obtain ⟨x0, x1, x2, x3, hx, cx0, cx1, cx2, cx3⟩ := ints_at4 HL.out hca hlt
      have HX := Lib.hid hx
      have bA := World.block_lt_of_cell? _ _ cx0
      have d0 := (hK.cell0 (p := ⟨b, off + k * 4, none⟩) (by exact bA)).trans cx0
      have d1 := (hK.cell0 (p := ⟨b, off + k * 4 + 1, none⟩) (by exact bA)).trans cx1
      have d2 := (hK.cell0 (p := ⟨b, off + k * 4 + 2, none⟩) (by exact bA)).trans cx2
      have d3 := (hK.cell0 (p := ⟨b, off + k * 4 + 3, none⟩) (by exact bA)).trans cx3
      clear hca ha hx cx0 cx1 cx2 cx3 bA
      go_wp2_with fail
      refine (toEntry_any _ _ _ _ _).mono ?_
      rintro e w1 ⟨rfl, k1⟩
      have r1 := hrow.keep k1 (.inr (.inr (Nat.le_refl 0)))
      obtain ⟨y0, y1, y2, y3, ⟨e0, e1, e2, e3, f0, f1, f2, f3⟩, r2⟩ := row_fill4 r1 hlt HL.out HZ.out HX.out
      have K := (((hK.tr0 k1).setCell (p := ⟨w.heap.size, k * 4, none⟩) (.inr (Nat.le_refl _)) (.int .i64 x0)).setCell (p := ⟨w.heap.size, k * 4 + 1, none⟩) (.inr (Nat.le_refl _)) (.int .i64 x1)).setCell (p := ⟨w.heap.size, k * 4 + 2, none⟩) (.inr (Nat.le_refl _)) (.int .i64 x2) |>.setCell (p := ⟨w.heap.size, k * 4 + 3, none⟩) (.inr (Nat.le_refl _)) (.int .i64 x3)
      clear hrow hK k1 r1
      go_wp2
      go_roundw
      case rel => exact ⟨k + 1, Z, by omega, by go_num, HZ.out, r2, K⟩
      case measure => simp [intOf]; omega
    · have hkn : k = n := by omega
      subst hkn
      go_wp2
      go_ret
      refine ⟨_, rfl, ?_, hK⟩
      rw [List.drop_of_length_le (by rw [HZ.out]; omega), List.append_nil, List.take_of_length_le (by rw [HL.out]; omega)] at hrow
      exact hrow.clip
end Go.Proofs.Ytiakihknknignaa
