/-
  The draws that the law of instructions reads. Nothing is said of what is drawn but its kind and its length.
-/
import Derived.Test.YtdlcchoemladnaaDrI
namespace Go.Proofs.Ytdlcchoemladnaa
open Go.RowKit


set_option maxRecDepth 100000 in
set_option maxHeartbeats 2000000 in
theorem DrawTouches_any (w : World) (v : Value) (bs : List Int) (hr : Rd w w.heap.size 1 v (byts bs)) : Calls Try.prog 27 #[v] w fun e w' => ∃ a b : Int, e = .returned (.agg #[.int .i64 a, .int .i64 b]) ∧ Keep 0 0 w w' := by
  have k0 := keep_1 w (.cells #[.int .i64 0, .int .i64 0] 44)
  have hr0 := (hr.keep k0 (Nat.le_refl _) (.inr (Nat.le_refl 0))).mono k0.size
  have R0 := Lo.new w 44 #[.int .i64 0, .int .i64 0] rfl
  go_enter Try.func27, Try.ntmps27
  go_wp2_with fail
  generalize w.alloc (.cells #[.int .i64 0, .int .i64 0] 44) = W0 at k0 hr0 R0 ⊢
  refine (l01New_any W0 v bs hr0).mono ?_
  rintro e W1 ⟨rfl, hc1, j1⟩
  have R1 := R0.keep0 j1
  have k1 := k0.tr0 j1
  have z0 : w.heap.size < W0.heap.size := R0.lt
  have zz : w.heap.size ≤ W0.heap.size := Nat.le_of_lt z0
  clear k0 j1 hr0 R0
  go_wp2_with fail
  refine (l10AnyIns_any W1 _ hc1).mono ?_
  rintro e W2 ⟨a, b, rfl, hc2, j2⟩
  have R2 : Lo W2 w.heap.size 44 #[.int .i64 0, .int .i64 0] := ⟨(j2.block _ R1.lt (.inl z0)).trans R1.row⟩
  have k2 := k1.trm j2 zz
  clear k1 j2 hc1 R1
  obtain ⟨r0, r1, f0, f1⟩ := R2.c2
  go_wp2
  refine bodyPost_ret (v := .agg #[.int .i64 a, .int .i64 b]) (by simp [results, Try.results27, go_sem, r0, r1]) rfl ?_
  exact ⟨a, b, rfl, (k2.setCell (p := ⟨w.heap.size, 0, none⟩) (.inr (Nat.le_refl _)) _).setCell (p := ⟨w.heap.size, 1, none⟩) (.inr (Nat.le_refl _)) _⟩
set_option maxHeartbeats 2000000 in
theorem DrawProgOk_any (w : World) (v : Value) (bs : List Int) (hr : Rd w w.heap.size 1 v (byts bs)) : Calls Try.prog 30 #[v] w fun e w' => ∃ (u : Value) (l : List Two), e = .returned u ∧ l.length ≤ 13 ∧ Row w' 0 w'.heap.size 44 2 u (ints (twosI l)) ∧ Keep 0 0 w w' := by
  go_enter Try.func30, Try.ntmps30
  go_wp2_with fail
  refine (l01New_any w v bs hr).mono ?_
  rintro e W1 ⟨rfl, hc1, k1⟩
  go_wp2_with fail
  refine (l10AnyProg_any W1 _ hc1).mono ?_
  rintro e W2 ⟨u, l, rfl, hl, r2, hc2, j2⟩
  have k2 := k1.trm j2 (Nat.le_refl _)
  clear k1 j2 hc1
  go_wp2
  go_ret
  exact ⟨u, l, rfl, hl, r2.mono (Nat.zero_le _) (Nat.le_refl _), k2⟩
set_option maxHeartbeats 2000000 in
theorem DrawInsAt_any (w : World) (v : Value) (bs : List Int) (hr : Rd w w.heap.size 1 v (byts bs)) : Calls Try.prog 31 #[v] w fun e w' => ∃ (u : Value) (l : List Two) (pc : Int), e = .returned (.tuple #[u, .int .i64 pc]) ∧ l.length ≤ 13 ∧ Row w' 0 w'.heap.size 44 2 u (ints (twosI l)) ∧ Keep 0 0 w w' := by
  go_enter Try.func31, Try.ntmps31
  go_wp2_with fail
  refine (l01New_any w v bs hr).mono ?_
  rintro e W1 ⟨rfl, hc1, k1⟩
  go_wp2_with fail
  refine (l10AnyProg_any W1 _ hc1).mono ?_
  rintro e W2 ⟨u, l, rfl, hl, r2, hc2, j2⟩
  have k2 := k1.trm j2 (Nat.le_refl _)
  have hg := hc1.lt
  clear k1 j2
  go_wp2_with fail
  refine (l01PickInt_lit W2 _ hc2 [0, 1, 5, 12, -1, 9223372036854775807] 6 rfl (by omega) (by omega) rfl).mono ?_
  rintro e W3 ⟨pc, rfl, _, hc3, j3⟩
  have k3 := k2.trm j3 (Nat.le_refl _)
  have r3 := r2.keep j3 (.inr (.inl hg))
  have hs := j3.size
  clear k2 j3 r2 hc1 hc2
  go_wp2
  go_returns
  exact ⟨u, l, pc, rfl, hl, r3.mono (Nat.zero_le _) hs, k3⟩
set_option maxHeartbeats 2000000 in
theorem DrawOpName_any (w : World) (v : Value) (bs : List Int) (hr : Rd w w.heap.size 1 v (byts bs)) : Calls Try.prog 32 #[v] w fun e w' => ∃ x : Int, e = .returned (.int .i64 x) ∧ Keep 0 0 w w' := by
  go_enter Try.func32, Try.ntmps32
  go_wp2_with fail
  refine (l01New_any w v bs hr).mono ?_
  rintro e W1 ⟨rfl, hc1, k1⟩
  go_wp2_with fail
  refine (l01Below_any W1 _ hc1 11 (by omega) (by omega)).mono ?_
  rintro e W2 ⟨x, rfl, x0, x1, hc2, j2⟩
  have k2 := k1.trm j2 (Nat.le_refl _)
  clear k1 j2 hc1
  go_wp2
  go_ret
  exact ⟨x - 1, rfl, k2⟩
set_option maxHeartbeats 2000000 in
theorem DrawSameProg_any (w : World) (v : Value) (bs : List Int) (hr : Rd w w.heap.size 1 v (byts bs)) : Calls Try.prog 33 #[v] w fun e w' => ∃ (u u2 : Value) (l l2 : List Two), e = .returned (.tuple #[u, u2]) ∧ Row w' 0 w'.heap.size 44 2 u (ints (twosI l)) ∧ Row w' 0 w'.heap.size 44 2 u2 (ints (twosI l2)) ∧ Keep 0 0 w w' := by
  go_enter Try.func33, Try.ntmps33
  go_wp2_with fail
  refine (l01New_any w v bs hr).mono ?_
  rintro e W1 ⟨rfl, hc1, k1⟩
  go_wp2_with fail
  refine (l10AnyProg_any W1 _ hc1).mono ?_
  rintro e W2 ⟨u, l, rfl, hl, r2, hc2, j2⟩
  have k2 := k1.trm j2 (Nat.le_refl _)
  have hg := hc1.lt
  clear k1 j2
  go_wp2_with fail
  refine (l01Once_any W2 _ hc2 2 (by omega) (by omega)).mono ?_
  rintro e W3 ⟨b, rfl, hc3, j3⟩
  have k3 := k2.trm j3 (Nat.le_refl _)
  have r3 := (r2.keep j3 (.inr (.inl hg))).mono (Nat.le_refl _) j3.size
  clear k2 j3 r2 hc1 hc2
  rcases b with _ | _
  · go_wp2_with fail
    refine (l10AnyProg_any W3 _ hc3).mono ?_
    rintro e W4 ⟨u2, l2, rfl, hl2, q4, hc4, j4⟩
    have k4 := k3.trm j4 (Nat.le_refl _)
    have r4 := (r3.keep j4 (.inr (.inl hg))).mono (Nat.zero_le _) j4.size
    clear k3 j4 r3 hc3
    go_wp2
    go_returns
    exact ⟨u, u2, l, l2, rfl, r4, q4.mono (Nat.zero_le _) (Nat.le_refl _), k4⟩
  · obtain ⟨A, n, c, hu, _, hm, hll, _⟩ := id r3
    subst hu
    rw [ints_length, twosI_length] at hll
    have hn : n ≤ 13 := by omega
    have hb0 := Bld.lit (B := W3.heap.size) W3 44 2 (Nat.le_refl _) (g := W3.heap.size) rfl
    have hr2 := r3.rd.drew_alloc (Nat.le_refl _) (.cells #[] 44)
    clear hll hm
    go_wp2_with (at_builtin; refine wpList_append_rd rfl _ _ 47 rfl elIns rfl hb0 rfl hr2 (ints_one _) (by omega) (by unfold maxLen; omega) (fun v4 w4 hb4 hs4 => ?_))
    have hq := bld_post0 hb4 (List.nil_append _)
    have r4 := (r3.keep hq.2 (.inr (.inr (Nat.le_refl 0)))).mono (Nat.zero_le _) hq.2.size
    have K4 := k3.tr0 hq.2
    have q4 := hq.1.mono (Nat.zero_le _) (Nat.le_refl _)
    clear hr2 hb4 hb0 hq hs4
    go_wp2
    go_returns
    exact ⟨_, v4, l, l, rfl, r4, q4, K4⟩
theorem touch_in {op x : Int} (h : insT op x = true) : -1 ≤ touchP op x ∧ touchP op x ≤ 3 := by
  unfold insT at h
  unfold touchP
  by_cases h34 : op = 3 ∨ op = 4
  · rw [if_neg (by omega), if_pos h34] at h
    rw [if_pos h34]
    rcases inB_cases x 0 15 with hx | ⟨hf, _⟩
    · have hx : x = 0 ∨ x = 1 ∨ x = 2 ∨ x = 3 ∨ x = 4 ∨ x = 5 ∨ x = 6 ∨ x = 7 ∨ x = 8 ∨ x = 9 ∨ x = 10 ∨ x = 11 ∨ x = 12 ∨ x = 13 ∨ x = 14 ∨ x = 15 := by omega
      rcases hx with rfl | rfl | rfl | rfl | rfl | rfl | rfl | rfl | rfl | rfl | rfl | rfl | rfl | rfl | rfl | rfl <;> first | (simp [pageT, wrap64]; done) | (decide +kernel)
    · rw [hf] at h
      cases h
  · rw [if_neg h34]
    omega
theorem at_nil (w : World) : Calls Try.prog 38 #[.slice none 0 0, .int .i64 0] w fun e w' => e = .returned (.agg #[.int .i64 7, .int .i64 0]) ∧ Keep 0 0 w w' :=
  implInsAt_any w 0 (.slice none 0 0) [] 0 ⟨none, 0, 0, rfl, Nat.le_refl _, Nat.zero_le _, rfl, fun h => absurd h (Nat.lt_irrefl 0)⟩ (by simp) 7 0 rfl
theorem at_lit (w : World) (g : Nat) (hg : w.heap.size = g) : Calls Try.prog 38 #[.slice (some ⟨g, 0, none⟩) 1 1, .int .i64 0] (w.alloc (.cells #[.int .i64 1, .int .i64 5] 44)) fun e w' => e = .returned (.agg #[.int .i64 1, .int .i64 5]) ∧ Keep 0 0 w w' := by
  subst hg
  refine (implInsAt_any _ _ _ [(1, 5)] 0 (Row.lit w 44 (sz := 2) (cs := ints (twosI [(1, 5)])) 1 rfl (by unfold maxLen; omega)).rd (by simp) 1 5 rfl).mono ?_
  rintro e w' ⟨rfl, k⟩
  exact ⟨rfl, ((Keep.refl 0 0 w).alloc _).tr0 k⟩
theorem name_8 (w : World) : Calls Try.prog 40 #[.int .i64 8] w fun e w' => e = .returned (.string ⟨#[106, 117, 109, 112]⟩) ∧ Keep 0 0 w w' := implOpName_any 8 w
end Go.Proofs.Ytdlcchoemladnaa
