/-
  Contracts of the functions on programs (slices of instructions): InsAt, ProgOk, SameProg.
-/
import Derived.Test.YtdlcchoemladnaaPair
import Derived.Test.YtdlcchoemladnaaScal
import Derived.Laws.StructEq
namespace Go.Proofs.Ytdlcchoemladnaa
open Go.RowKit

/-- Is the instruction valid? -/
def insT (op x : Int) : Bool :=
  if op = 1 ∨ op = 2 ∨ op = 5 ∨ op = 6 then inB x 0 99 else if op = 3 ∨ op = 4 then inB x 0 15 else if op = 7 then x == 0 else if op = 8 then inB x 0 11 else false
theorem op_cases (op : Int) : op = 1 ∨ op = 2 ∨ op = 3 ∨ op = 4 ∨ op = 5 ∨ op = 6 ∨ op = 7 ∨ op = 8 ∨ op < 1 ∨ 8 < op := by omega
theorem insT_out (op x : Int) (h : op < 1 ∨ 8 < op) : insT op x = false := by
  unfold insT
  rw [if_neg (by omega), if_neg (by omega), if_neg (by omega), if_neg (by omega)]
set_option maxHeartbeats 2000000 in
theorem specInsOk_any (op x : Int) (w : World) : Calls Try.prog 35 #[.agg #[.int .i64 op, .int .i64 x]] w fun e w' => e = .returned (.bool (insT op x)) ∧ Keep 0 0 w w' := by
  rcases op_cases op with rfl | rfl | rfl | rfl | rfl | rfl | rfl | rfl | h | h
  all_goals try have hT := insT_out op x (by omega)
  all_goals
    go_enter Try.func35, Try.ntmps35
    go_wp2_with (go_at_call 56; refine (l01In_any _ _ _ _).mono ?_; rintro e w' ⟨rfl, rfl⟩)
    go_ret
    exact ⟨by first | rw [hT]; rfl | simp [insT], keep_1 _ _⟩
set_option maxHeartbeats 2000000 in
theorem implInsOk_any (op x : Int) (w : World) : Calls Try.prog 34 #[.agg #[.int .i64 op, .int .i64 x]] w fun e w' => e = .returned (.bool (insT op x)) ∧ Keep 0 0 w w' := by
  rcases op_cases op with rfl | rfl | rfl | rfl | rfl | rfl | rfl | rfl | h | h
  all_goals try have hT := insT_out op x (by omega)
  all_goals
    go_enter Try.func34, Try.ntmps34
    go_wp2_with (go_at_call 55; refine (within_any _ _ _ _).mono ?_; rintro e w' ⟨rfl, rfl⟩)
    go_ret
    exact ⟨by first | rw [hT]; rfl | simp [insT], keep_1 _ _⟩
/-- The instruction at a place; a halt where there is none. -/
def insAtT (l : List Two) (pc : Int) : Two := if 0 ≤ pc then (l[pc.toNat]?).getD (7, 0) else (7, 0)
theorem insAt_in {l : List Two} {k : Nat} {e : Two} (h : l[k]? = some e) : insAtT l k = e := by simp [insAtT, h]
theorem insAt_out {l : List Two} {pc : Int} (h : pc < 0 ∨ (l.length : Int) ≤ pc) : insAtT l pc = (7, 0) := by
  unfold insAtT
  split
  · rw [List.getElem?_eq_none (by omega)]; rfl
  · rfl
theorem inB_sub {n : Nat} {pc : Int} : inB pc 0 ((n : Int) - 1) = decide (0 ≤ pc ∧ pc < n) := by
  rw [Bool.eq_iff_iff]
  simp [inB]
  omega
set_option maxHeartbeats 4000000 in
theorem specInsAt_any (w : World) (hi : Nat) (v : Value) (l : List Two) (pc : Int) (hr : Rd w hi 2 v (ints (twosI l))) (hx : l.length ≤ 1048577) (e0 e1 : Int) (hE : insAtT l pc = (e0, e1)) :
    Calls Try.prog 39 #[v, .int .i64 pc] w fun e w' => e = .returned (.agg #[.int .i64 e0, .int .i64 e1]) ∧ Keep 0 0 w w' := by
  obtain ⟨A, n, c, rfl, hn, hm, hl, ha⟩ := hr
  rw [ints_length, twosI_length] at hl
  have hl' : l.length = n := by omega
  have hm2 : n ≤ 1048577 := by omega
  by_cases hin : 0 ≤ pc ∧ pc < n
  · obtain ⟨k, rfl⟩ := Int.eq_ofNat_of_zero_le hin.1
    have hk : k < n := by omega
    obtain ⟨b, off, rfl, hb1, hca⟩ := ha (by omega)
    obtain ⟨x0, x1, hx, cx0, cx1, bA⟩ := twos_at hl' hca hk
    rw [insAt_in (get_of_take hx (by omega))] at hE
    injection hE with h0 h1
    subst h0 h1
    have hT : inB (k : Int) 0 ((n : Int) - 1) = true := inB_t (by omega) (by omega)
    clear hca ha hx hl hl' hin hn hm
    go_enter Try.func39, Try.ntmps39
    go_wp2_with (go_at_call 56; refine (l01In_any _ _ _ _).mono ?_; rintro e w' ⟨rfl, rfl⟩)
    go_returns
    exact ⟨rfl, by repeat' (first | exact Keep.refl _ _ _ | (with_reducible refine Keep.alloc ?_ _) | (with_reducible refine Keep.setCell ?_ (.inr (by first | (simp; done) | (simp; omega))) _))⟩
  · have hT : inB pc 0 ((n : Int) - 1) = false := by rw [inB_sub]; simpa using hin
    rw [insAt_out (by omega)] at hE
    injection hE with h0 h1
    subst h0 h1
    clear ha hl hl' hin hn hm
    go_enter Try.func39, Try.ntmps39
    go_wp2_with (go_at_call 56; refine (l01In_any _ _ _ _).mono ?_; rintro e w' ⟨rfl, rfl⟩)
    go_returns
    exact ⟨rfl, by repeat' (first | exact Keep.refl _ _ _ | (with_reducible refine Keep.alloc ?_ _) | (with_reducible refine Keep.setCell ?_ (.inr (by first | (simp; done) | (simp; omega))) _))⟩
set_option maxHeartbeats 4000000 in
theorem implInsAt_any (w : World) (hi : Nat) (v : Value) (l : List Two) (pc : Int) (hr : Rd w hi 2 v (ints (twosI l))) (hx : l.length ≤ 1048577) (e0 e1 : Int) (hE : insAtT l pc = (e0, e1)) :
    Calls Try.prog 38 #[v, .int .i64 pc] w fun e w' => e = .returned (.agg #[.int .i64 e0, .int .i64 e1]) ∧ Keep 0 0 w w' := by
  obtain ⟨A, n, c, rfl, hn, hm, hl, ha⟩ := hr
  rw [ints_length, twosI_length] at hl
  have hl' : l.length = n := by omega
  have hm2 : n ≤ 1048577 := by omega
  by_cases hin : 0 ≤ pc ∧ pc < n
  · obtain ⟨k, rfl⟩ := Int.eq_ofNat_of_zero_le hin.1
    have hk : k < n := by omega
    obtain ⟨b, off, rfl, hb1, hca⟩ := ha (by omega)
    obtain ⟨x0, x1, hx, cx0, cx1, bA⟩ := twos_at hl' hca hk
    rw [insAt_in (get_of_take hx (by omega))] at hE
    injection hE with h0 h1
    subst h0 h1
    have hT : inB (k : Int) 0 ((n : Int) - 1) = true := inB_t (by omega) (by omega)
    clear hca ha hx hl hl' hin hn hm
    go_enter Try.func38, Try.ntmps38
    go_wp2_with (go_at_call 65; refine (has_any _ _ _).mono ?_; rintro e w' ⟨rfl, rfl⟩)
    go_returns
    exact ⟨rfl, by repeat' (first | exact Keep.refl _ _ _ | (with_reducible refine Keep.alloc ?_ _) | (with_reducible refine Keep.setCell ?_ (.inr (by first | (simp; done) | (simp; omega))) _))⟩
  · have hT : inB pc 0 ((n : Int) - 1) = false := by rw [inB_sub]; simpa using hin
    rw [insAt_out (by omega)] at hE
    injection hE with h0 h1
    subst h0 h1
    clear ha hl hl' hin hn hm
    go_enter Try.func38, Try.ntmps38
    go_wp2_with (go_at_call 65; refine (has_any _ _ _).mono ?_; rintro e w' ⟨rfl, rfl⟩)
    go_returns
    exact ⟨rfl, by repeat' (first | exact Keep.refl _ _ _ | (with_reducible refine Keep.alloc ?_ _) | (with_reducible refine Keep.setCell ?_ (.inr (by first | (simp; done) | (simp; omega))) _))⟩
/-- Is the program valid? -/
def progOkT (l : List Two) : Bool := l.all (fun e => insT e.1 e.2) && inB l.length 1 12
theorem all_step {l : List Two} {k : Nat} {e : Two} {p : Two → Bool} (h : l.take (k + 1) = l.take k ++ [e]) (ha : (l.take k).all p = true) (he : p e = true) : (l.take (k + 1)).all p = true := by
  rw [h, List.all_append, ha]
  simp [he]
theorem prog_bad {l : List Two} {k : Nat} {x0 x1 : Int} (h : l.take (k + 1) = l.take k ++ [(x0, x1)]) (he : insT x0 x1 = false) : progOkT l = false := by
  have hm : (x0, x1) ∈ l := List.mem_of_mem_take (i := k + 1) (by rw [h]; simp)
  unfold progOkT
  rw [List.all_eq_false.2 ⟨_, hm, by simp [he]⟩]
  rfl
theorem prog_end {l : List Two} {k : Nat} (hk : l.length ≤ k) (ha : (l.take k).all (fun e => insT e.1 e.2) = true) : progOkT l = inB l.length 1 12 := by
  rw [List.take_of_length_le hk] at ha
  unfold progOkT
  rw [ha]
  rfl
set_option maxHeartbeats 4000000 in
theorem specProgOk_any (w : World) (hi : Nat) (v : Value) (l : List Two) (hr : Rd w hi 2 v (ints (twosI l))) (hx : l.length ≤ 1048577) :
    Calls Try.prog 37 #[v] w fun e w' => e = .returned (.bool (progOkT l)) ∧ Keep 0 0 w w' := by
  obtain ⟨A, n, c, rfl, hn, hm, hl, ha⟩ := hr
  rw [ints_length, twosI_length] at hl
  have hm2 : n ≤ 1048577 := by omega
  have HL := Lib.hid (show l.length = n from by omega)
  clear hl hx
  go_enter Try.func37, Try.ntmps37
  go_wp2
  go_loopw [3] (fun i wr => ∃ k : Nat, k ≤ n ∧ i = .int .i64 k ∧ (l.take k).all (fun e => insT e.1 e.2) = true ∧ Keep 0 0 w wr) (fun i _ => n - (intOf i).toNat)
  case atStart => exact ⟨0, Nat.zero_le _, rfl, rfl, Keep.refl _ _ _⟩
  case round =>
    obtain ⟨k, hk, rfl, hall, hK⟩ := hrel
    have HA := Lib.hid hall
    clear hall
    by_cases hlt : k < n
    · obtain ⟨b, off, rfl, hb1, hca⟩ := ha (by omega)
      obtain ⟨x0, x1, hx, cx0, cx1, bA⟩ := twos_at HL.out hca hlt
      have HX := Lib.hid hx
      have d0 := (hK.cell0 (p := ⟨b, off + k * 2, none⟩) (by exact bA)).trans cx0
      have d1 := (hK.cell0 (p := ⟨b, off + k * 2 + 1, none⟩) (by exact bA)).trans cx1
      clear hca ha hx cx0 cx1 bA
      rcases Bool.eq_false_or_eq_true (insT x0 x1) with hp | hp
      · have HF := Lib.hid (all_step (p := fun e => insT e.1 e.2) HX.out HA.out hp)
        go_wp2_with fail
        refine (specInsOk_any _ _ _).mono ?_
        rintro e w1 ⟨rfl, k1⟩
        go_wp2
        go_roundw
        case rel => exact ⟨k + 1, by omega, by go_num, HF.out, hK.tr0 k1⟩
        case measure => simp [intOf]; omega
      · have HF := Lib.hid (prog_bad HX.out hp)
        go_wp2_with fail
        refine (specInsOk_any _ _ _).mono ?_
        rintro e w1 ⟨rfl, k1⟩
        go_wp2
        go_ret
        exact ⟨by rw [HF.out]; rfl, hK.tr0 k1⟩
    · have hkn : k = n := by omega
      subst hkn
      have HF := Lib.hid (prog_end (by rw [HL.out]; omega) HA.out)
      go_wp2_with (go_at_call 56; refine (l01In_any _ _ _ _).mono ?_; rintro e w' ⟨rfl, rfl⟩)
      go_ret
      exact ⟨by rw [HF.out, HL.out]; rfl, hK⟩
set_option maxHeartbeats 4000000 in
theorem implProgOk_any (w : World) (hi : Nat) (v : Value) (l : List Two) (hr : Rd w hi 2 v (ints (twosI l))) (hx : l.length ≤ 1048577) :
    Calls Try.prog 36 #[v] w fun e w' => e = .returned (.bool (progOkT l)) ∧ Keep 0 0 w w' := by
  obtain ⟨A, n, c, rfl, hn, hm, hl, ha⟩ := hr
  rw [ints_length, twosI_length] at hl
  have hm2 : n ≤ 1048577 := by omega
  have HL := Lib.hid (show l.length = n from by omega)
  clear hl hx
  go_enter Try.func36, Try.ntmps36
  go_wp2
  go_loopw [7] (fun i wr => ∃ k : Nat, k ≤ n ∧ i = .int .i64 k ∧ (l.take k).all (fun e => insT e.1 e.2) = true ∧ Keep 0 0 w wr) (fun i _ => n - (intOf i).toNat)
  case atStart => exact ⟨0, Nat.zero_le _, rfl, rfl, Keep.refl _ _ _⟩
  case round =>
    obtain ⟨k, hk, rfl, hall, hK⟩ := hrel
    have HA := Lib.hid hall
    clear hall
    by_cases hlt : k < n
    · obtain ⟨b, off, rfl, hb1, hca⟩ := ha (by omega)
      obtain ⟨x0, x1, hx, cx0, cx1, bA⟩ := twos_at HL.out hca hlt
      have HX := Lib.hid hx
      have d0 := (hK.cell0 (p := ⟨b, off + k * 2, none⟩) (by exact bA)).trans cx0
      have d1 := (hK.cell0 (p := ⟨b, off + k * 2 + 1, none⟩) (by exact bA)).trans cx1
      clear hca ha hx cx0 cx1 bA
      rcases Bool.eq_false_or_eq_true (insT x0 x1) with hp | hp
      · have HF := Lib.hid (all_step (p := fun e => insT e.1 e.2) HX.out HA.out hp)
        go_wp2_with fail
        refine (implInsOk_any _ _ _).mono ?_
        rintro e w1 ⟨rfl, k1⟩
        go_wp2
        go_roundw
        case rel => exact ⟨k + 1, by omega, by go_num, HF.out, (hK.alloc _).tr0 k1⟩
        case measure => simp [intOf]; omega
      · have HF := Lib.hid (prog_bad HX.out hp)
        go_wp2_with fail
        refine (implInsOk_any _ _ _).mono ?_
        rintro e w1 ⟨rfl, k1⟩
        go_wp2
        go_ret
        exact ⟨by rw [HF.out]; rfl, (hK.alloc _).tr0 k1⟩
    · have hkn : k = n := by omega
      subst hkn
      have HF := Lib.hid (prog_end (by rw [HL.out]; omega) HA.out)
      go_wp2_with (go_at_call 55; refine (within_any _ _ _ _).mono ?_; rintro e w' ⟨rfl, rfl⟩)
      go_ret
      exact ⟨by rw [HF.out, HL.out]; rfl, hK⟩
set_option maxHeartbeats 4000000 in
theorem slicesEqualIns_any (w : World) (h1 h2 : Nat) (va vb : Value) (xs ys : List Int) (ra : Rd w h1 2 va (ints xs)) (rb : Rd w h2 2 vb (ints ys)) :
    Calls Try.prog 66 #[va, vb] w fun e w' => e = .returned (.bool (decide (xs = ys))) ∧ Dr w w' := by
  obtain ⟨A, n, c, rfl, hn, hm, hl, ha⟩ := ra
  obtain ⟨B, n', c', rfl, hn', hm', hl', hb⟩ := rb
  rw [ints_length] at hl hl'
  unfold maxLen at hm hm'
  by_cases hq : xs.length = ys.length
  · obtain rfl : n' = n := by omega
    have hm2 : n' ≤ 9223372036854775807 := by omega
    have HL := Lib.hid hl
    have HL' := Lib.hid hl'
    have HQ := Lib.hid hq
    clear hl hl' hq
    go_enter Try.func66, Try.ntmps66
    go_wp2
    go_loopw [13] (fun i wr => ∃ k m : Nat, k ≤ n' ∧ i = .int .i64 k ∧ xs.take (k * 2) = ys.take (k * 2) ∧ wr = w.drewN m) (fun i _ => n' - (intOf i).toNat)
    case atStart => exact ⟨0, 0, Nat.zero_le _, rfl, rfl, rfl⟩
    case round =>
      obtain ⟨k, m, hk, rfl, ht, rfl⟩ := hrel
      have HT := Lib.hid ht
      clear ht
      by_cases hlt : k < n'
      · obtain ⟨b, off, rfl, hb1, hca⟩ := ha (by omega)
        obtain ⟨b', off', rfl, hb2, hcb⟩ := hb (by omega)
        obtain ⟨x0, x1, hx, cx0, cx1⟩ := ints_at2 HL.out hca hlt
        obtain ⟨y0, y1, hy, cy0, cy1⟩ := ints_at2 HL'.out hcb hlt
        have HX := Lib.hid hx
        have HY := Lib.hid hy
        clear hca hcb ha hb hx hy
        by_cases hxy : x0 = y0 ∧ x1 = y1
        · obtain ⟨rfl, rfl⟩ := hxy
          go_wp2
          all_goals try (go_quiet (fail); go_wp2)
          go_roundw
          case rel => exact ⟨k + 1, _, by omega, by go_num, by rw [HX.out, HY.out, HT.out], rfl⟩
          case measure => simp [intOf]; omega
        · have hf : decide (xs = ys) = false := by
            simp only [decide_eq_false_iff_not]
            rintro rfl
            have := List.append_cancel_left (HX.out.symm.trans HY.out)
            simp only [List.cons.injEq, and_true] at this
            exact hxy this
          have HF := Lib.hid hf
          have e1 : (x0 == y0 && x1 == y1) = false := by
            rw [Bool.eq_false_iff]
            simpa using hxy
          have e2 : (x0 = y0 → ¬ x1 = y1) := fun a b => hxy ⟨a, b⟩
          clear hxy hf
          by_cases h0 : x0 = y0
          · have h1 := e2 h0
            subst h0
            have e3 : (x1 == y1) = false := by simp [h1]
            clear e1 e2
            go_wp2
            all_goals try (go_quiet (fail); go_wp2)
            go_ret
            exact ⟨by rw [HF.out]; rfl, by first | exact Dr.mk _ _ | exact Dr.mk2 _ _ _⟩
          · have e3 : (x0 == y0) = false := by simp [h0]
            clear e1 e2
            go_wp2
            all_goals try (go_quiet (fail); go_wp2)
            go_ret
            exact ⟨by rw [HF.out]; rfl, by first | exact Dr.mk _ _ | exact Dr.mk2 _ _ _⟩
      · go_wp2
        go_ret
        refine ⟨?_, Dr.mk _ _⟩
        have h1 : xs.take (k * 2) = xs := List.take_of_length_le (by rw [HL.out]; omega)
        have h2 : ys.take (k * 2) = ys := List.take_of_length_le (by rw [HL'.out]; omega)
        have h3 := HT.out
        rw [h1, h2] at h3
        simp [h3]
  · have hd : ((n : Int) != n') = true := by simp; omega
    have hf : decide (xs = ys) = false := by simp; rintro rfl; exact hq rfl
    have HF := Lib.hid hf
    clear hl hl' hf hq
    go_enter Try.func66, Try.ntmps66
    go_wp2
    go_ret
    exact ⟨by rw [HF.out]; rfl, Dr.refl _⟩
set_option maxHeartbeats 1000000 in
theorem implSameProg_any (w : World) (h1 h2 : Nat) (va vb : Value) (xs ys : List Int) (ra : Rd w h1 2 va (ints xs)) (rb : Rd w h2 2 vb (ints ys)) :
    Calls Try.prog 42 #[va, vb] w fun e w' => e = .returned (.bool (decide (xs = ys))) ∧ Dr w w' := by
  go_enter Try.func42, Try.ntmps42
  go_wp2_with fail
  refine (slicesEqualIns_any _ _ _ _ _ _ _ ra rb).mono ?_
  rintro e w1 ⟨rfl, k1⟩
  go_wp2
  go_ret
  exact ⟨rfl, k1⟩
end Go.Proofs.Ytdlcchoemladnaa
