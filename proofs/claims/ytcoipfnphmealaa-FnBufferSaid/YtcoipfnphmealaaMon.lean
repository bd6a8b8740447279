/-
  Contracts of FlushMon, the program's and the reference's, and of slices.Contains at integers.
-/
import Derived.Test.YtcoipfnphmealaaFlush
import Derived.Test.YtcoipfnphmealaaTraps
import Derived.Test.YtcoipfnphmealaaApp
import Derived.Test.YtcoipfnphmealaaInts
namespace Go.Proofs.Ytcoipfnphmealaa
open Go.RowKit

/-- Which entries flushing a hypervisor drops. -/
def inL (xs : List Int) (x : Int) : Bool := xs.contains x
def flMon (m : Int) (e : Ent) : Bool := inL (tagsT m) e.1
theorem idx_hit {xs : List Int} {k : Nat} {x y : Int} (h : xs.take (k + 1) = xs.take k ++ [y]) (hxy : x = y) : xs.contains x = true := by
  subst hxy
  simp only [List.contains_iff_mem]
  exact List.mem_of_mem_take (i := k + 1) (by rw [h]; simp)
theorem idx_skip {xs : List Int} {k : Nat} {x y : Int} (h : xs.take (k + 1) = xs.take k ++ [y]) (hn : (xs.take k).contains x = false) (hxy : ¬ x = y) : (xs.take (k + 1)).contains x = false := by
  rw [h]
  simp only [List.contains_eq_mem, List.mem_append, List.mem_singleton, decide_eq_false_iff_not, not_or] at hn ⊢
  exact ⟨hn, hxy⟩
set_option maxHeartbeats 2000000 in
theorem slicesIndex_any (w : World) (hi : Nat) (v : Value) (xs : List Int) (x : Int) (hr : Rd w hi 1 v (ints xs)) :
    Calls Try.prog 92 #[v, .int .i64 x] w fun e w' => ∃ r : Int, e = .returned (.int .i64 r) ∧ decide (0 ≤ r) = xs.contains x ∧ Dr w w' := by
  obtain ⟨A, n, c, rfl, hn, hm, hl, ha⟩ := hr
  rw [ints_length, Nat.mul_one] at hl
  unfold maxLen at hm
  have hm2 : n ≤ 9223372036854775807 := by omega
  have HL := Lib.hid hl
  clear hl
  go_enter Try.func92, Try.ntmps92
  go_wp2
  go_loopw [8] (fun i wr => ∃ k m : Nat, k ≤ n ∧ i = .int .i64 k ∧ (xs.take k).contains x = false ∧ wr = w.drewN m) (fun i _ => n - (intOf i).toNat)
  case atStart => exact ⟨0, 0, Nat.zero_le _, rfl, rfl, rfl⟩
  case round =>
    obtain ⟨k, m, hk, rfl, hnone, rfl⟩ := hrel
    have HN := Lib.hid hnone
    clear hnone
    by_cases hlt : k < n
    · obtain ⟨b, off, rfl, _, hca⟩ := ha (by omega)
      have ca := hca k _ (ints_get xs k (by rw [HL.out]; omega))
      have HX := Lib.hid (List.take_succ_eq_append_getElem (l := xs) (i := k) (by rw [HL.out]; omega))
      generalize xs[k]'(by rw [HL.out]; omega) = y at ca HX
      clear hca ha
      by_cases hxy : x = y
      · have HF := Lib.hid (idx_hit HX.out hxy)
        have hd : (x == y) = true := by simp [hxy]
        clear hxy
        go_wp2
        all_goals try (go_quiet (fail); go_wp2)
        go_ret
        exact ⟨_, rfl, by rw [HF.out]; simp, by first | exact Dr.mk _ _ | exact Dr.mk2 _ _ _⟩
      · have HF := Lib.hid (idx_skip HX.out HN.out hxy)
        have hd : (x == y) = false := by simp [hxy]
        clear hxy
        go_wp2
        all_goals try (go_quiet (fail); go_wp2)
        go_roundw
        case rel => exact ⟨k + 1, _, by omega, by go_num, HF.out, rfl⟩
        case measure => simp [intOf]; omega
    · have hkn : k = n := by omega
      subst hkn
      go_wp2
      go_ret
      have h1 := HN.out
      rw [List.take_of_length_le (by rw [HL.out]; omega)] at h1
      exact ⟨_, rfl, by rw [h1]; simp, Dr.mk _ _⟩
set_option maxHeartbeats 2000000 in
theorem slicesContains_any (w : World) (hi : Nat) (v : Value) (xs : List Int) (x : Int) (hr : Rd w hi 1 v (ints xs)) :
    Calls Try.prog 71 #[v, .int .i64 x] w fun e w' => e = .returned (.bool (inL xs x)) ∧ Dr w w' := by
  go_enter Try.func71, Try.ntmps71
  go_wp2_with fail
  refine (slicesIndex_any _ _ _ _ _ hr).mono ?_
  rintro e w1 ⟨r, rfl, hr2, hD⟩
  have HR := Lib.hid hr2
  clear hr2
  by_cases h0 : 0 ≤ r
  all_goals
    go_wp2
    go_ret
    exact ⟨by unfold inL; rw [← HR.out]; simp [h0], hD⟩
set_option maxHeartbeats 1000000 in
theorem FlushMonDrop_any (w : World) (hi : Nat) (x0 x1 x2 x3 m : Int) (A : Option Addr) (n c : Nat) (c0 : Addr) (h0 : w.cell? c0 = some (.slice A n c)) (hr : Rd w hi 1 (.slice A n c) (ints (tagsT m))) (hhi : hi ≤ w.heap.size) :
    Calls Try.prog 70 #[.agg #[.int .i64 x0, .int .i64 x1, .int .i64 x2, .int .i64 x3], .pointer (some c0)] w fun e w' => e = .returned (.bool (flMon m (x0, x1, x2, x3))) ∧ Keep 0 0 w w' := by
  obtain ⟨b0, o0, s0⟩ := c0
  obtain rfl : s0 = none := by simpa [Addr.add] using World.cell?_spot h0
  have z0 := World.block_lt_of_cell? _ _ h0
  simp only at z0
  have hr1 := hr.drew_alloc hhi (.cells #[.int .i64 x0, .int .i64 x1, .int .i64 x2, .int .i64 x3] 26)
  go_enter Try.func70, Try.ntmps70
  go_wp2_with fail
  refine (slicesContains_any _ _ _ _ _ hr1).mono ?_
  rintro e w1 ⟨rfl, hD⟩
  go_wp2
  go_ret
  exact ⟨rfl, (keep_1 _ _).tr0 (hD.keep 0 0)⟩
set_option maxHeartbeats 4000000 in
theorem withoutFlushMon_any (w : World) (hi : Nat) (v : Value) (l : List Ent) (m0 : Int) (TA : Option Addr) (tn tc tw : Nat) (c0 : Addr) (h0 : w.cell? c0 = some (.slice TA tn tc)) (ht : Rd w tw 1 (.slice TA tn tc) (ints (tagsT m0))) (htw : tw ≤ w.heap.size) (hr : Rd w hi 4 v (ints (entsI l))) (hx : l.length ≤ 1048577) :
    Calls Try.prog 65 #[v, .func (.func 70) #[] #[.pointer (some c0)]] w fun e w' => ∃ v', e = .returned v' ∧ Row w' w.heap.size w'.heap.size 26 4 v' (ints (entsI (l.filter fun e => !(flMon m0 e)))) ∧ Keep 0 0 w w' := by
  obtain ⟨A, n, c, rfl, hn, hm, hl, ha⟩ := hr
  rw [ints_length, entsI_length] at hl
  have hm2 : n ≤ 1048577 := by omega
  have HL := Lib.hid (show l.length = n from by omega)
  clear hl hx
  have hb0 := Bld.lit (B := w.heap.size) w 26 4 (Nat.le_refl _) (g := w.heap.size) rfl
  obtain ⟨b0, o0, s0⟩ := c0
  obtain rfl : s0 = none := by simpa [Addr.add] using World.cell?_spot h0
  have z0 := World.block_lt_of_cell? _ _ h0
  simp only at z0
  go_enter Try.func65, Try.ntmps65
  go_wp2
  go_loopw [5, 11] (fun v i wr => ∃ k m : Nat, k ≤ n ∧ i = .int .i64 k ∧ m ≤ k ∧ Bld w w.heap.size 26 4 wr v m (ints (entsI ((l.take k).filter fun e => !(flMon m0 e))))) (fun _ i _ => n - (intOf i).toNat)
  case atStart => exact ⟨0, 0, Nat.zero_le _, rfl, Nat.le_refl _, hb0⟩
  case round =>
    obtain ⟨k, m, hk, rfl, hmk, hb⟩ := hrel
    clear hb0
    by_cases hlt : k < n
    · obtain ⟨b, off, rfl, hb1, hca⟩ := ha (by omega)
      obtain ⟨x0, x1, x2, x3, hx, cx0, cx1, cx2, cx3, bA⟩ := ents_at HL.out hca hlt
      have HX := Lib.hid hx
      have d0 := (hb.cell (p := ⟨b, off + k * 4, none⟩) (by exact bA)).trans cx0
      have d1 := (hb.cell (p := ⟨b, off + k * 4 + 1, none⟩) (by exact bA)).trans cx1
      have d2 := (hb.cell (p := ⟨b, off + k * 4 + 2, none⟩) (by exact bA)).trans cx2
      have d3 := (hb.cell (p := ⟨b, off + k * 4 + 3, none⟩) (by exact bA)).trans cx3
      clear hca ha hx cx0 cx1 cx2 cx3 bA
      have hK := (Keep.of_below hb.bel).alloc (.cells #[.int .i64 x0, .int .i64 x1, .int .i64 x2, .int .i64 x3] 26)
      rcases Bool.eq_false_or_eq_true (flMon m0 (x0, x1, x2, x3)) with hp | hp
      · have HF := Lib.hid (filter_skip l (fun e => !(flMon m0 e)) k (x0, x1, x2, x3) HX.out (by simp [hp]))
        go_wp2_with fail
        refine (FlushMonDrop_any _ tw x0 x1 x2 x3 m0 TA tn tc ⟨b0, o0, none⟩ ((hK.cell0 (by exact z0)).trans h0) (ht.keep hK htw (.inr (Nat.le_refl 0))) (Nat.le_trans htw hK.size)).mono ?_
        rintro e w1 ⟨rfl, k1⟩
        have hb1 := (hb.alloc (.cells #[.int .i64 x0, .int .i64 x1, .int .i64 x2, .int .i64 x3] 26)).keep k1
        go_wp2
        go_roundw
        case rel =>
          refine ⟨k + 1, m, by omega, by go_num, by omega, ?_⟩
          rw [HF.out]
          exact hb1
        case measure => simp [intOf]; omega
      · have HF := Lib.hid (filter_step l (fun e => !(flMon m0 e)) k (x0, x1, x2, x3) HX.out (by simp [hp]))
        go_wp2_with fail
        refine (FlushMonDrop_any _ tw x0 x1 x2 x3 m0 TA tn tc ⟨b0, o0, none⟩ ((hK.cell0 (by exact z0)).trans h0) (ht.keep hK htw (.inr (Nat.le_refl 0))) (Nat.le_trans htw hK.size)).mono ?_
        rintro e w1 ⟨rfl, k1⟩
        have g0 : w1.cell? ⟨wr.heap.size, 0, none⟩ = some (.int .i64 x0) := (k1.cell0 (p := ⟨wr.heap.size, 0, none⟩) (by simp)).trans (by go_cell)
        have g1 : w1.cell? ⟨wr.heap.size, 1, none⟩ = some (.int .i64 x1) := (k1.cell0 (p := ⟨wr.heap.size, 1, none⟩) (by simp)).trans (by go_cell)
        have g2 : w1.cell? ⟨wr.heap.size, 2, none⟩ = some (.int .i64 x2) := (k1.cell0 (p := ⟨wr.heap.size, 2, none⟩) (by simp)).trans (by go_cell)
        have g3 : w1.cell? ⟨wr.heap.size, 3, none⟩ = some (.int .i64 x3) := (k1.cell0 (p := ⟨wr.heap.size, 3, none⟩) (by simp)).trans (by go_cell)
        have hb1 := (hb.alloc (.cells #[.int .i64 x0, .int .i64 x1, .int .i64 x2, .int .i64 x3] 26)).keep k1
        go_wp2_with (at_builtin; refine wpList_append_one rfl _ _ 24 rfl elEnt rfl hb1 1 [_, _, _, _] _ rfl (by first | rfl | simp) rfl (by simp [Value.oneCell']) (by omega) (by unfold maxLen; omega) (fun v' w' hb' hsz => ?_))
        go_roundw
        case rel =>
          refine ⟨k + 1, m + 1, by omega, by go_num, by omega, ?_⟩
          rw [HF.out, ← ents_snoc]
          assumption
        case measure => simp [intOf]; omega
    · have hkn : k = n := by omega
      subst hkn
      go_wp2
      go_ret
      exact ⟨_, rfl, bld_post0 hb (by rw [List.take_of_length_le (by rw [HL.out]; omega)])⟩
set_option maxHeartbeats 1000000 in
theorem implFlushMon_any (w : World) (hi : Nat) (v : Value) (l : List Ent) (m : Int) (hr : Rd w hi 4 v (ints (entsI l))) (hhi : hi ≤ w.heap.size) (hx : l.length ≤ 1048577) :
    Calls Try.prog 33 #[v, .int .i64 m] w fun e w' => ∃ v', e = .returned v' ∧ Row w' w.heap.size w'.heap.size 26 4 v' (ints (entsI (l.filter fun e => !(flMon m e)))) ∧ Keep 0 0 w w' := by
  go_enter Try.func33, Try.ntmps33
  go_wp2_with fail
  refine (implTagsOf_any _ _).mono ?_
  rintro e w1 ⟨vt, rfl, rt, k1⟩
  obtain ⟨TA, tn, tc, rfl⟩ := rt.slice
  have K2 := keep_1 w1 (.cells #[.slice TA tn tc] 37)
  have ht := rt.rd.keep K2 (Nat.le_refl _) (.inr (Nat.le_refl 0))
  have hb := hr.keep (k1.tr0 K2) hhi (.inr (Nat.le_refl 0))
  have KK := k1.tr0 K2
  clear rt hr
  go_wp2_with fail
  refine (withoutFlushMon_any _ hi v l m TA tn tc w1.heap.size _ (by go_cell) ht (by simp) hb hx).mono ?_
  rintro e w2 ⟨v2, rfl, r2, k2⟩
  go_wp2
  go_ret
  exact ⟨_, rfl, r2.mono KK.size (Nat.le_refl _), KK.tr0 k2⟩
theorem filter_tags (l : List Ent) (ts : List Int) (k : Nat) (y : Int) (h : ts.take (k + 1) = ts.take k ++ [y]) :
    (l.filter fun e => !((ts.take k).contains e.1)).filter (fun e => !(flTag y e)) = l.filter fun e => !((ts.take (k + 1)).contains e.1) := by
  rw [List.filter_filter]
  congr 1
  funext e
  rw [h]
  simp only [flTag, List.contains_eq_mem, List.mem_append, List.mem_singleton]
  by_cases h1 : e.1 = y <;> by_cases h2 : e.1 ∈ ts.take k <;> simp [h1, h2]
  all_goals simp_all
set_option maxHeartbeats 4000000 in
theorem specFlushMon_any (w : World) (hi : Nat) (v : Value) (l : List Ent) (m : Int) (hr : Rd w hi 4 v (ints (entsI l))) (hhi : hi ≤ w.heap.size) (hx : l.length ≤ 1048577) :
    Calls Try.prog 45 #[v, .int .i64 m] w fun e w' => ∃ v', e = .returned v' ∧ Row w' w.heap.size w'.heap.size 26 4 v' (ints (entsI (l.filter fun e => !(flMon m e)))) ∧ Keep 0 0 w w' := by
  obtain ⟨A, n, c, rfl, hn, hm, hl, ha⟩ := hr
  have hr : Rd w hi 4 (.slice A n c) (ints (entsI l)) := ⟨A, n, c, rfl, hn, hm, hl, ha⟩
  rw [ints_length, entsI_length] at hl
  have hm2 : n ≤ 1048577 := by omega
  have hb0 := Bld.lit (B := w.heap.size) w 26 4 (Nat.le_refl _) (g := w.heap.size) rfl
  have hr1 := hr.drew_alloc hhi (.cells #[] 26)
  clear hl ha hr hn
  go_enter Try.func45, Try.ntmps45
  go_wp2_with (first
    | (at_builtin; refine wpList_append_rd rfl _ _ 24 rfl elEnt rfl hb0 rfl hr1 (ints_one _) (by omega) (by unfold maxLen; omega) (fun v1 w1 hb1 hs1 => ?_))
    | (go_at_call 44; fail))
  have k1 := (bld_post0 hb1 rfl).2
  have r1 := (bld_post0 hb1 rfl).1
  clear hb0 hb1 hr1 hs1
  go_wp2_with fail
  refine (specTagsOf_any _ _).mono ?_
  rintro e w2 ⟨vt, rfl, rt, k2⟩
  have hT := rt.rd
  obtain ⟨TA, tn, tc, rfl, htn, htm, htl, hta⟩ := hT
  rw [ints_length, Nat.mul_one] at htl
  unfold maxLen at htm
  have htm2 : tn ≤ 9223372036854775807 := by omega
  have HTL := Lib.hid htl
  have K2 := k1.tr0 k2
  have r2 := (r1.keep k2 (.inr (.inr (Nat.le_refl 0)))).mono (Nat.le_refl _) k2.size
  have hlt := Lib.hid hx
  clear rt r1 k1 k2 htl hx
  go_wp2
  go_loopw [5, 7] (fun v i wr => ∃ k : Nat, k ≤ tn ∧ i = .int .i64 k ∧ Row wr w.heap.size wr.heap.size 26 4 v (ints (entsI (l.filter fun e => !(inL ((tagsT m).take k) e.1)))) ∧ Keep 0 0 w2 wr) (fun _ i _ => tn - (intOf i).toNat)
  case atStart =>
    refine ⟨0, Nat.zero_le _, rfl, ?_, Keep.refl _ _ _⟩
    rw [show (l.filter fun e => !(inL ((tagsT m).take 0) e.1)) = l from by simp [inL]]
    simpa using r2
  case round =>
    obtain ⟨k, hk, rfl, hrow, hK⟩ := hrel
    have hle : (l.filter fun e => !(inL ((tagsT m).take k) e.1)).length ≤ 1048577 := Nat.le_trans (List.length_filter_le _ _) hlt.out
    have HLE := Lib.hid hle
    clear hle r2
    by_cases hlt2 : k < tn
    · obtain ⟨b, off, rfl, hb1, hca⟩ := hta (by omega)
      have ca := hca k _ (ints_get (tagsT m) k (by rw [HTL.out]; omega))
      have bA := World.block_lt_of_cell? _ _ ca
      have cb := (hK.cell0 (p := ⟨b, off + k, none⟩) (by exact bA)).trans ca
      have HX := Lib.hid (List.take_succ_eq_append_getElem (l := tagsT m) (i := k) (by rw [HTL.out]; omega))
      generalize (tagsT m)[k]'(by rw [HTL.out]; omega) = y at cb HX
      clear hca hta ca bA
      go_wp2_with fail
      refine (specFlushTag_any _ _ _ _ y hrow.rd HLE.out).mono ?_
      rintro e w3 ⟨v3, rfl, r3, k3⟩
      rw [show ((l.filter fun e => !(inL ((tagsT m).take k) e.1)).filter fun e => !(flTag y e)) = l.filter fun e => !(inL ((tagsT m).take (k + 1)) e.1) from filter_tags l (tagsT m) k y HX.out] at r3
      have r4 := r3.mono (Nat.le_trans K2.size hK.size) (Nat.le_refl _)
      have K4 := hK.tr0 k3
      clear r3 hrow k3 hK
      go_wp2
      go_roundw
      case rel => exact ⟨k + 1, by omega, by go_num, r4, K4⟩
      case measure => simp [intOf]; omega
    · have hkn : k = tn := by omega
      subst hkn
      go_wp2
      go_ret
      rw [List.take_of_length_le (by rw [HTL.out]; omega)] at hrow
      exact ⟨_, rfl, hrow, K2.tr0 hK⟩
end Go.Proofs.Ytcoipfnphmealaa
