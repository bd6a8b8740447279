/-
  Contracts of the statements' helpers on slices of bools: size, copy, comparison, marks.
-/
import Derived.Test.YtignedkhklfonaaOne
import Derived.Test.YtignedkhklfonaaSize
import Derived.Test.YtignedkhklfonaaProg
import Derived.WalkKit
import Derived.WalkSpells
import Derived.Deep.QuietTactic
import Derived.BigQuiet
import Derived.Handy
namespace Go.Proofs.Ytignedkhklfonaa
open Go.RowKit

theorem bols_get (l : List Bool) (k : Nat) (h : k < l.length) : (bols l)[k]? = some (.bool l[k]) := by simp [bols, h]
theorem bols_length (l : List Bool) : (bols l).length = l.length := by simp [bols]
theorem bols_one (l : List Bool) : ∀ u ∈ bols l, u.oneCell' = true := by
  intro u hu
  simp only [bols, List.mem_map] at hu
  obtain ⟨x, _, rfl⟩ := hu
  rfl
/-- The bools that a mark writes. -/
def bmark (k : Int) : Bool := k % 3 == 0
def bmarks (k : Int) (n : Nat) : List Bool := (List.range n).map fun (i : Nat) => bmark (k + (i : Int))
theorem bmarks_length (k : Int) (n : Nat) : (bmarks k n).length = n := by simp [bmarks]
theorem bmarks_get (k : Int) (n j : Nat) (h : j < n) : (bols (bmarks k n))[j]? = some (.bool (bmark (k + (j : Int)))) := by simp [bols, bmarks, h]
theorem bmarks_step (k : Int) (j : Nat) (cs : List Value) (h : j < cs.length) : (bols (bmarks k j) ++ cs.drop j).set j (.bool (bmark (k + (j : Int)))) = bols (bmarks k (j + 1)) ++ cs.drop (j + 1) := by
  have hl (n : Nat) : (bols (bmarks k n)).length = n := by rw [bols_length, bmarks_length]
  apply List.ext_getElem?
  intro i
  rw [List.getElem?_set]
  by_cases h1 : j = i
  · subst h1
    rw [if_pos rfl, if_pos (by simp [hl]; omega), List.getElem?_append_left (by rw [hl]; omega), bmarks_get _ _ _ (by omega)]
  · rw [if_neg h1]
    by_cases h2 : i < j
    · rw [List.getElem?_append_left (by rw [hl]; omega), List.getElem?_append_left (by rw [hl]; omega), bmarks_get _ _ _ h2, bmarks_get _ _ _ (by omega)]
    · rw [List.getElem?_append_right (by rw [hl]; omega), List.getElem?_append_right (by rw [hl]; omega), hl, hl, List.getElem?_drop, List.getElem?_drop]
      congr 1
      omega
theorem bmarks_next (k : Int) (j : Nat) (cs : List Value) : (bols (bmarks k j) ++ cs.drop j)[j]? = cs[j]? := by
  have hl : (bols (bmarks k j)).length = j := by rw [bols_length, bmarks_length]
  rw [List.getElem?_append_right (by rw [hl]; omega), hl, List.getElem?_drop]
  congr 1
  omega
theorem szBoolS_gen (A : Option Addr) (n c : Nat) (L : Int) (hn : n ≤ 9223372036854775807) (h0 : 0 ≤ L) (h1 : L ≤ 1048576) (w : World) : Calls Try.prog 27 #[.slice A n c, .int .i64 L] w fun e w' => e = .returned (.int .i64 (leftT L n)) ∧ w = w' := by
  unfold leftT
  by_cases h : (n : Int) ≤ L
  all_goals
    go_enter Try.func27, Try.ntmps27
    go_wp2
    go_ret
    exact ⟨by simp [*], rfl⟩
set_option maxHeartbeats 1000000 in
theorem markBoolS_any (w : World) (lo hi : Nat) (v : Value) (xs : List Value) (N : Nat) (hN : xs.length = N) (k0 : Int) (hr : Row w lo hi 4 1 v xs) (h0 : 0 ≤ k0) (h9 : k0 + N ≤ 4611686018427387904) :
    Calls Try.prog 40 #[v, .int .i64 k0] w fun e w' => e = .returned (.int .i64 (k0 + N)) ∧ Row w' lo hi 4 1 v (bols (bmarks k0 N)) ∧ Keep lo hi w w' := by
  subst hN
  obtain ⟨A, n, c, rfl⟩ := hr.slice
  obtain ⟨hl, hn, hm⟩ := hr.len
  rw [Nat.mul_one] at hl
  unfold maxLen at hm
  have hm2 : n ≤ 9223372036854775807 := by omega
  have HL := Lib.hid hl
  have h9' : k0 + n ≤ 4611686018427387904 := by omega
  clear hl h9
  go_enter Try.func40, Try.ntmps40
  go_wp2
  go_loopw [1, 5] (fun kk i wr => ∃ k : Nat, k ≤ n ∧ i = .int .i64 k ∧ kk = .int .i64 (k0 + k) ∧ Row wr lo hi 4 1 (.slice A n c) (bols (bmarks k0 k) ++ xs.drop k) ∧ Keep lo hi w wr) (fun _ i _ => n - (intOf i).toNat)
  case atStart => exact ⟨0, Nat.zero_le _, rfl, by simp, by simpa [bmarks, bols] using hr, Keep.refl _ _ _⟩
  case round =>
    obtain ⟨k, hk, rfl, rfl, hrow, hkeep⟩ := hrel
    by_cases hlt : k < n
    · obtain ⟨g, off, rfl, hlo, hhi, hgs, hat⟩ := hrow.at_ (by omega)
      have hkl : k < xs.length := by rw [HL.out]; exact hlt
      obtain ⟨hcell, hfr⟩ := hat k _ ((bmarks_next k0 k xs).trans (List.getElem?_eq_getElem hkl))
      generalize xs[k] = x at hcell
      have hrow' := hrow.set_ k (.bool (bmark (k0 + k)))
      rw [bmarks_step k0 k xs hkl] at hrow'
      have hkeep' := hkeep.setCell (p := ⟨g, off + k, none⟩) (.inl ⟨hlo, hhi⟩) (.bool (bmark (k0 + k)))
      have HR := Lib.hid hrow'
      have HK := Lib.hid hkeep'
      clear hat hrow hkeep hr hrow' hkeep'
      go_wp2
      all_goals try (go_quiet (fail); go_wp2)
      all_goals
        go_roundw
        case rel => exact ⟨k + 1, by omega, by go_num, by go_num, HR.out, HK.out⟩
        case measure => simp [intOf]; omega
    · have hkn : k = n := by omega
      subst hkn
      go_wp2
      go_ret
      have hl2 := HL.out
      exact ⟨by rw [hl2]; rfl, by rw [hl2]; rw [List.drop_of_length_le (by omega), List.append_nil] at hrow; exact hrow, hkeep⟩
set_option maxHeartbeats 1000000 in
theorem eqBoolS_any (w : World) (h1 h2 : Nat) (va vb : Value) (xs ys : List Bool) (ra : Rd w h1 1 va (bols xs)) (rb : Rd w h2 1 vb (bols ys)) :
    Calls Try.prog 34 #[va, vb] w fun e w' => e = .returned (.bool (decide (xs = ys))) ∧ Dr w w' := by
  obtain ⟨A, n, c, rfl, hn, hm, hl, ha⟩ := ra
  obtain ⟨B, n', c', rfl, hn', hm', hl', hb⟩ := rb
  rw [bols_length, Nat.mul_one] at hl hl'
  unfold maxLen at hm hm'
  by_cases hq : xs.length = ys.length
  · obtain rfl : n' = n := by omega
    have hm2 : n' ≤ 9223372036854775807 := by omega
    have HL := Lib.hid hl
    have HL' := Lib.hid hl'
    have HQ := Lib.hid hq
    clear hl hl' hq
    go_enter Try.func34, Try.ntmps34
    go_wp2
    go_loopw [5] (fun i wr => ∃ k m : Nat, k ≤ n' ∧ i = .int .i64 k ∧ xs.take k = ys.take k ∧ wr = w.drewN m) (fun i _ => n' - (intOf i).toNat)
    case atStart => exact ⟨0, 0, Nat.zero_le _, rfl, rfl, rfl⟩
    case round =>
      obtain ⟨k, m, hk, rfl, ht, rfl⟩ := hrel
      have HT := Lib.hid ht
      clear ht
      by_cases hlt : k < n'
      · obtain ⟨b, off, rfl, _, hca⟩ := ha (by omega)
        obtain ⟨b', off', rfl, _, hcb⟩ := hb (by omega)
        have ca := hca k _ (bols_get xs k (by rw [HL.out]; omega))
        have cb := hcb k _ (bols_get ys k (by rw [HL'.out]; omega))
        have HX := Lib.hid (List.take_succ_eq_append_getElem (l := xs) (i := k) (by rw [HL.out]; omega))
        have HY := Lib.hid (List.take_succ_eq_append_getElem (l := ys) (i := k) (by rw [HL'.out]; omega))
        generalize xs[k]'(by rw [HL.out]; omega) = x at ca HX
        generalize ys[k]'(by rw [HL'.out]; omega) = y at cb HY
        clear hca hcb ha hb
        by_cases hxy : x = y
        · have hd : (x == y) = true := by simp [hxy]
          have HE := Lib.hid hxy
          clear hxy
          go_wp2
          go_quiet (fail)
          go_wp2
          go_roundw
          case rel => exact ⟨k + 1, _, by omega, by go_num, by rw [HX.out, HY.out, HT.out, HE.out], rfl⟩
          case measure => simp [intOf]; omega
        · have hd : (x == y) = false := by simp [hxy]
          have hf : decide (xs = ys) = false := by
            simp only [decide_eq_false_iff_not]
            rintro rfl
            have := HX.out.symm.trans HY.out
            simp at this
            exact hxy this
          have HF := Lib.hid hf
          clear hxy hf
          go_wp2
          go_quiet (fail)
          go_wp2
          go_ret
          exact ⟨by rw [HF.out]; rfl, Dr.mk2 _ _ _⟩
      · go_wp2
        go_ret
        refine ⟨?_, Dr.mk _ _⟩
        have h1 : xs.take k = xs := List.take_of_length_le (by rw [HL.out]; omega)
        have h2 : ys.take k = ys := List.take_of_length_le (by rw [HL'.out]; omega)
        have h3 := HT.out
        rw [h1, h2] at h3
        simp [h3]
  · have hd : ((n : Int) != n') = true := by simp; omega
    have hf : decide (xs = ys) = false := by simp; rintro rfl; exact hq rfl
    have HF := Lib.hid hf
    clear hl hl' hf hq
    go_enter Try.func34, Try.ntmps34
    go_wp2
    go_ret
    exact ⟨by rw [HF.out]; rfl, Dr.refl _⟩

set_option maxHeartbeats 1000000 in
theorem heldBoolS_any (w : World) (hi : Nat) (v : Value) (m : Nat) (k0 : Int) (hr : Rd w hi 1 v (bols (bmarks k0 m))) (h0 : 0 ≤ k0) (h9 : k0 + m ≤ 4611686018427387904) :
    Calls Try.prog 41 #[v, .int .i64 k0] w fun e w' => e = .returned (.int .i64 (k0 + m)) ∧ Dr w w' := by
  obtain ⟨A, n, c, rfl, hn, hm, hl, ha⟩ := hr
  rw [bols_length, bmarks_length, Nat.mul_one] at hl
  subst hl
  unfold maxLen at hm
  have hm2 : m ≤ 9223372036854775807 := by omega
  go_enter Try.func41, Try.ntmps41
  go_wp2
  go_loopw [1, 5] (fun kk i wr => ∃ k : Nat, k ≤ m ∧ i = .int .i64 k ∧ kk = .int .i64 (k0 + k) ∧ Dr w wr) (fun _ i _ => m - (intOf i).toNat)
  case atStart => exact ⟨0, Nat.zero_le _, rfl, by simp, Dr.refl _⟩
  case round =>
    obtain ⟨k, hk, rfl, rfl, ⟨q, rfl⟩⟩ := hrel
    by_cases hlt : k < m
    · obtain ⟨b, off, rfl, _, hc⟩ := ha (by omega)
      have hcell := hc k _ (bmarks_get k0 m k hlt)
      unfold bmark at hcell
      have hd : (((k0 + (k : Int)) % 3 == 0) == ((k0 + (k : Int)) % 3 == 0)) = true := by simp
      clear hc ha
      go_wp2
      all_goals try (go_quiet (fail); go_wp2)
      go_roundw
      case rel => exact ⟨k + 1, by omega, by go_num, by go_num, by first | exact Dr.mk _ _ | exact Dr.mk2 _ _ _⟩
      case measure => simp [intOf]; omega
    · have hkn : k = m := by omega
      subst hkn
      go_wp2
      go_ret
      exact ⟨rfl, Dr.mk _ _⟩
theorem bols_fill (xs : List Bool) (Z : List Value) (k : Nat) (h : k < xs.length) (hz : k < Z.length) : (bols (xs.take k) ++ Z.drop k).set k (.bool xs[k]) = bols (xs.take (k + 1)) ++ Z.drop (k + 1) := by
  have hl : (bols (xs.take k)).length = k := by rw [bols_length, List.length_take]; omega
  rw [List.set_append_right _ _ (by omega), hl, Nat.sub_self, List.take_succ_eq_append_getElem h, List.drop_eq_getElem_cons hz, List.set_cons_zero]
  unfold bols
  rw [List.map_append, List.append_assoc]
  rfl
theorem elBol : Elem Try.prog 22 4 (.bool false) 1 1 :=
  ⟨Try.underlying22, info_parts (by kernel_rfl), rfl, by decide⟩
set_option maxHeartbeats 4000000 in
theorem toBoolS_any (w : World) (hi : Nat) (v : Value) (xs : List Bool) (hr : Rd w hi 1 v (bols xs)) (hx : xs.length ≤ 1048576) :
    Calls Try.prog 30 #[v] w fun e w' => ∃ v', e = .returned v' ∧ Row w' w.heap.size w'.heap.size 4 1 v' (bols xs) ∧ Keep 0 0 w w' := by
  obtain ⟨A, n, c, rfl, hn, hm, hl, ha⟩ := hr
  rw [bols_length, Nat.mul_one] at hl
  have hm2 : n ≤ 1048576 := by omega
  have HL := Lib.hid hl
  clear hl hx
  obtain ⟨i, hi1, hz, hsz, hby⟩ := elBol.inf
  have hmk := fun W => run_make_row2 (P := Try.prog) 22 4 i _ elBol.und hi1 hz .i64 .i64 n n (Nat.le_refl _) (by rw [hby]; omega) (by omega) W
  rw [hsz, Nat.mul_one] at hmk
  go_enter Try.func30, Try.ntmps30
  go_wp2
  go_loopw [4] (fun i wr => ∃ (k : Nat) (Z : List Value), k ≤ n ∧ i = .int .i64 k ∧ Z.length = n ∧ Row wr w.heap.size (w.heap.size + 1) 4 1 (.slice (some ⟨w.heap.size, 0, none⟩) n n) (bols (xs.take k) ++ Z.drop k) ∧ Keep 0 0 w wr) (fun i _ => n - (intOf i).toNat)
  case atStart =>
    refine ⟨0, (madeCells (Value.bool false).cells n).toList, Nat.zero_le _, rfl, by simp [size_madeCells], ?_, keep_1 _ _⟩
    rw [List.take_zero, List.drop_zero, show bols [] = [] from rfl, List.nil_append]
    exact Row.made w _ _ n (by rw [size_madeCells, Nat.mul_one]) (by unfold maxLen; omega)
  case round =>
    obtain ⟨k, Z, hk, rfl, hZ, hrow, hK⟩ := hrel
    have HZ := Lib.hid hZ
    clear hZ hmk
    by_cases hlt : k < n
    · obtain ⟨b, off, rfl, hb1, hca⟩ := ha (by omega)
      have cx := hca k _ (bols_get xs k (by rw [HL.out]; exact hlt))
      have HB := Lib.hid (bols_fill xs Z k (by rw [HL.out]; exact hlt) (by rw [HZ.out]; exact hlt))
      generalize xs[k]'(by rw [HL.out]; exact hlt) = x at cx HB
      have bA := World.block_lt_of_cell? _ _ cx
      have d0 := (hK.cell0 (p := ⟨b, off + k, none⟩) (by exact bA)).trans cx
      obtain ⟨g', off', e', _, _, _, hat⟩ := hrow.at_ (by omega)
      injection e' with e'
      injection e' with e1 e2
      subst e1 e2
      have hlen : k < (bols (xs.take k) ++ Z.drop k).length := by rw [List.length_append, bols_length, List.length_take, List.length_drop, HL.out, HZ.out]; omega
      obtain ⟨hc1, hf1⟩ := hat k _ (List.getElem?_eq_getElem hlen)
      generalize (bols (xs.take k) ++ Z.drop k)[k] = y at hc1
      have r2 := hrow.set_ k (.bool x)
      rw [HB.out] at r2
      rw [Nat.zero_add] at hc1 hf1 r2
      have K2 := hK.setCell (p := ⟨w.heap.size, k, none⟩) (.inr (Nat.le_refl _)) (.bool x)
      have HR := Lib.hid r2
      have HK := Lib.hid K2
      clear hca ha cx bA hat hlen r2 K2 hrow
      go_wp2
      all_goals try (go_quiet (fail); go_wp2)
      go_roundw
      case rel => exact ⟨k + 1, Z, by omega, by go_num, HZ.out, HR.out, HK.out⟩
      case measure => simp [intOf]; omega
    · have hkn : k = n := by omega
      subst hkn
      go_wp2
      go_ret
      refine ⟨_, rfl, ?_, hK⟩
      rw [List.drop_of_length_le (by rw [HZ.out]; omega), List.append_nil, List.take_of_length_le (by rw [HL.out]; omega)] at hrow
      exact hrow.clip
end Go.Proofs.Ytignedkhklfonaa
