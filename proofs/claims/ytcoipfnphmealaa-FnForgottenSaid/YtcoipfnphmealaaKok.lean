/-
  Contracts of KeptOk, the program's and the reference's.
-/
import Derived.Test.YtcoipfnphmealaaComp
import Derived.Test.YtcoipfnphmealaaKept
import Derived.Laws.StructEq
import Derived.Deep.QuietTactic
import Derived.BigQuiet
import Derived.Deep.Cut
namespace Go.Proofs.Ytcoipfnphmealaa
open Go.RowKit

def wantT (k : Bool) (a : Two) (outer : List Two) : Two := if k then compT a outer else (-1, 0)
def okAt (ks : List Bool) (sl inner outer : List Two) (i : Nat) : Bool := sl.getD i (0, 0) == wantT (ks.getD i false) (inner.getD i (0, 0)) outer
def okUpto (ks : List Bool) (sl inner outer : List Two) (n : Nat) : Bool := (List.range n).all (okAt ks sl inner outer)
def keptOkT (ks : List Bool) (sl inner outer : List Two) : Bool := decide (ks.length = inner.length) && decide (sl.length = inner.length) && okUpto ks sl inner outer inner.length
theorem okUpto_succ (ks : List Bool) (sl inner outer : List Two) (k : Nat) : okUpto ks sl inner outer (k + 1) = (okUpto ks sl inner outer k && okAt ks sl inner outer k) := by
  simp [okUpto, List.range_succ]
theorem okUpto_bad {ks : List Bool} {sl inner outer : List Two} {k n : Nat} (hk : k < n) (h : okAt ks sl inner outer k = false) : okUpto ks sl inner outer n = false := by
  unfold okUpto
  rw [List.all_eq_false]
  exact ⟨k, List.mem_range.2 hk, by rw [h]; simp⟩
theorem okAt_eq {ks : List Bool} {sl inner outer : List Two} {k : Nat} {b : Bool} {y0 y1 i0 i1 x0 x1 : Int} (h1 : ks[k]? = some b) (h2 : sl[k]? = some (y0, y1)) (h3 : inner[k]? = some (i0, i1)) (h4 : wantT b (i0, i1) outer = (x0, x1)) :
    okAt ks sl inner outer k = ((y0 == x0) && (y1 == x1)) := by
  unfold okAt
  rw [List.getD_eq_getElem?_getD, List.getD_eq_getElem?_getD, List.getD_eq_getElem?_getD, h1, h2, h3]
  simp only [Option.getD_some]
  rw [h4]
  rfl
set_option maxRecDepth 100000 in
set_option maxHeartbeats 8000000 in
theorem specKeptOk_any (w : World) (h1 h2 h3 h4 : Nat) (va vb vi vo : Value) (ks : List Bool) (sl inner outer : List Two) (ra : Rd w h1 1 va (bols ks)) (rb : Rd w h2 2 vb (ints (twosI sl))) (ri : Rd w h3 2 vi (ints (twosI inner))) (ro : Rd w h4 2 vo (ints (twosI outer)))
    (z4 : h4 ≤ w.heap.size) :
    Calls Try.prog 55 #[.agg #[va, vb], vi, vo] w fun e w' => e = .returned (.bool (keptOkT ks sl inner outer)) ∧ Keep 0 0 w w' := by
  obtain ⟨A, n, c, rfl, hn, hm, hl, ha⟩ := id ra
  obtain ⟨B, m, d, rfl, hn2, hm2, hl2, hb⟩ := id rb
  obtain ⟨I, q, f, rfl, hn3, hm3, hl3, hi⟩ := id ri
  obtain ⟨O, r, g, rfl, _⟩ := id ro
  rw [bols_length, Nat.mul_one] at hl
  rw [ints_length, twosI_length] at hl2 hl3
  unfold maxLen at hm hm2 hm3
  have hn9 : n ≤ 9223372036854775807 := by omega
  have hm9 : m ≤ 9223372036854775807 := by omega
  have hq9 : q ≤ 9223372036854775807 := by omega
  have HL1 := Lib.hid hl
  have HL2 := Lib.hid (show sl.length = m from by omega)
  have HL3 := Lib.hid (show inner.length = q from by omega)
  have HA := Lib.hid ha
  have HB := Lib.hid hb
  have HI := Lib.hid hi
  have K0 := keep_1 w (.cells #[.slice A n c, .slice B m d] 55)
  have RO := Lib.hid ro
  have bx : w.heap.size < (w.alloc (.cells #[.slice A n c, .slice B m d] 55)).heap.size := by simp
  have X0 := Lib.hid (show (w.alloc (.cells #[.slice A n c, .slice B m d] 55)).cell? ⟨w.heap.size, 0, none⟩ = some (.slice A n c) from by go_cell)
  have X1 := Lib.hid (show (w.alloc (.cells #[.slice A n c, .slice B m d] 55)).cell? ⟨w.heap.size, 1, none⟩ = some (.slice B m d) from by go_cell)
  clear hl hl2 hl3 ha hb hi ra rb ri ro
  by_cases e1 : n = q
  rotate_left
  · have hd : ((n : Int) != q) = true := by simp; omega
    have hf := Lib.hid (show keptOkT ks sl inner outer = false from by unfold keptOkT; rw [HL1.out, HL3.out]; simp [e1])
    clear e1
    go_enter Try.func55, Try.ntmps55
    go_wp2
    go_ret
    exact ⟨by rw [hf.out]; rfl, K0⟩
  by_cases e2 : m = q
  rotate_left
  · have hd0 : ((n : Int) != q) = false := by simp; omega
    have hd : ((m : Int) != q) = true := by simp; omega
    have hf := Lib.hid (show keptOkT ks sl inner outer = false from by unfold keptOkT; rw [HL2.out, HL3.out]; simp [e2])
    clear e1 e2
    go_enter Try.func55, Try.ntmps55
    go_wp2
    go_ret
    exact ⟨by rw [hf.out]; rfl, K0⟩
  have hd0 : ((n : Int) != q) = false := by simp; omega
  have hd1 : ((m : Int) != q) = false := by simp; omega
  have hnq : n ≤ q := by omega
  have hqn : q ≤ n := by omega
  have hmq : m ≤ q := by omega
  have hqm : q ≤ m := by omega
  have hT := Lib.hid (show keptOkT ks sl inner outer = okUpto ks sl inner outer q from by unfold keptOkT; rw [HL1.out, HL2.out, HL3.out]; simp [e1, e2])
  clear e1 e2
  go_enter Try.func55, Try.ntmps55
  go_wp2
  go_loopw [7] (fun i wr => ∃ k : Nat, k ≤ q ∧ i = .int .i64 k ∧ okUpto ks sl inner outer k = true ∧ Keep 0 0 (w.alloc (.cells #[.slice A n c, .slice B m d] 55)) wr) (fun i _ => q - (intOf i).toNat)
  case atStart => exact ⟨0, Nat.zero_le _, rfl, rfl, Keep.refl _ _ _⟩
  case round =>
    obtain ⟨k, hk, rfl, hok, hK⟩ := hrel
    have HOK := Lib.hid hok
    clear hok
    by_cases hlt : k < q
    rotate_left
    · have HE := Lib.hid (show keptOkT ks sl inner outer = true from by rw [hT.out, show q = k from by omega]; exact HOK.out)
      have hge : q ≤ k := by omega
      clear hlt
      go_wp2
      go_ret
      exact ⟨by rw [HE.out]; rfl, K0.tr0 hK⟩
    have hkn : k < n := by omega
    have hkm : k < m := by omega
    obtain ⟨b1, o1, rfl, _, hca⟩ := HA.out (by omega)
    obtain ⟨b2, o2, rfl, _, hcb⟩ := HB.out (by omega)
    obtain ⟨b3, o3, rfl, _, hci⟩ := HI.out (by omega)
    have cb0 := hca k _ (bols_get ks k (by rw [HL1.out]; exact hkn))
    have HK := Lib.hid (List.getElem?_eq_getElem (l := ks) (i := k) (by rw [HL1.out]; exact hkn))
    generalize ks[k]'(by rw [HL1.out]; exact hkn) = bk at cb0 HK
    obtain ⟨y0, y1, hy, cy0, cy1, bB⟩ := twos_at HL2.out hcb hkm
    obtain ⟨i0, i1, hii, ci0, ci1, bI⟩ := twos_at HL3.out hci hlt
    have bA := World.block_lt_of_cell? _ _ cb0
    simp only at bA
    have hY := get_of_take hy (by rw [HL2.out]; exact hkm)
    have hI := get_of_take hii (by rw [HL3.out]; exact hlt)
    obtain ⟨x0, x1, hW⟩ : ∃ x0 x1, wantT bk (i0, i1) outer = (x0, x1) := ⟨_, _, rfl⟩
    have HOA := Lib.hid (okAt_eq HK.out hY hI hW)
    have KK := K0.tr0 hK
    -- what lies where, at every later world
    have S := Lib.hid (show ∀ w', Keep 0 0 wr w' → w'.cell? ⟨w.heap.size, 0, none⟩ = some (.slice (some ⟨b1, o1, none⟩) n c) ∧ w'.cell? ⟨w.heap.size, 1, none⟩ = some (.slice (some ⟨b2, o2, none⟩) m d) ∧ w'.cell? ⟨b1, o1 + k, none⟩ = some (.bool bk) ∧
        w'.cell? ⟨b2, o2 + k * 2, none⟩ = some (.int .i64 y0) ∧ w'.cell? ⟨b2, o2 + k * 2 + 1, none⟩ = some (.int .i64 y1) ∧ w'.cell? ⟨b3, o3 + k * 2, none⟩ = some (.int .i64 i0) ∧ w'.cell? ⟨b3, o3 + k * 2 + 1, none⟩ = some (.int .i64 i1) from fun w' h =>
      ⟨(hK.tr0 h).cells bx X0.out, (hK.tr0 h).cells bx X1.out, (KK.tr0 h).cells bA cb0, (KK.tr0 h).cells bB cy0, (KK.tr0 h).cells bB cy1, (KK.tr0 h).cells bI ci0, (KK.tr0 h).cells bI ci1⟩)
    have RO1 := Lib.hid (show ∀ w', Keep 0 0 wr w' → Rd w' h4 2 (.slice O r g) (ints (twosI outer)) ∧ h4 ≤ w'.heap.size from fun w' h => ⟨RO.out.keep (KK.tr0 h) z4 (.inr (Nat.le_refl 0)), Nat.le_trans z4 (KK.tr0 h).size⟩)
    have HW := Lib.hid hW
    have KQ := Lib.hid KK
    have KR := Lib.hid hK
    clear hca hcb hci cb0 cy0 cy1 ci0 ci1 bB bI bA hy hii hY hI hW KK
    go_wp2_with fail
    refine (specNoSlot_any _).mono ?_
    rintro e w1 ⟨rfl, KA⟩
    have KB := KA.alloc (.cells #[.int .i64 (-1), .int .i64 0] 67)
    obtain ⟨s0, s1, s2, s3, s4, s5, s6⟩ := S.out _ KB
    rcases Bool.eq_false_or_eq_true bk with rfl | rfl
    · have HC := Lib.hid (show compT (i0, i1) outer = (x0, x1) from HW.out)
      obtain ⟨ro1, zo1⟩ := RO1.out _ KB
      go_wp2_with fail
      refine (specComposeSlot_to _ _ _ outer i0 i1 x0 x1 ro1 zo1 HC.out).mono ?_
      rintro e w2 ⟨rfl, k2⟩
      clear s0 s1 s2 s3 s4 s5 s6 ro1 zo1
      have n0 : w2.cell? ⟨w1.heap.size, 0, none⟩ = some (.int .i64 (-1)) := k2.cells (by simp) (by go_cell)
      have n1 : w2.cell? ⟨w1.heap.size, 1, none⟩ = some (.int .i64 0) := k2.cells (by simp) (by go_cell)
      have f0 : w2.frozen? ⟨w1.heap.size, 0, none⟩ = false := k2.free (by simp) (by simp)
      have f1 : w2.frozen? ⟨w1.heap.size, 1, none⟩ = false := k2.free (by simp) (by simp)
      have KC := KB.tr0 k2
      have zz := KA.size
      have KX := (((Keep.refl 0 0 w1).alloc (.cells #[.int .i64 (-1), .int .i64 0] 67)).tr0 k2).setCell (p := ⟨w1.heap.size, 0, none⟩) (.inr (Nat.le_refl _)) (.int .i64 x0) |>.setCell (p := ⟨w1.heap.size, 1, none⟩) (.inr (Nat.le_refl _)) (.int .i64 x1)
      have m0 : ((w2.setCell ⟨w1.heap.size, 0, none⟩ (.int .i64 x0)).setCell ⟨w1.heap.size, 1, none⟩ (.int .i64 x1)).cell? ⟨w1.heap.size, 0, none⟩ = some (.int .i64 x0) := (World.cell?_setCell_other _ _ _ _ (by simp)).trans (World.cell?_setCell_same _ _ _ n0)
      have m1 : ((w2.setCell ⟨w1.heap.size, 0, none⟩ (.int .i64 x0)).setCell ⟨w1.heap.size, 1, none⟩ (.int .i64 x1)).cell? ⟨w1.heap.size, 1, none⟩ = some (.int .i64 x1) := World.cell?_setCell_same _ _ _ ((World.cell?_setCell_other _ _ _ _ (by simp)).trans n1)
      have M0 := Lib.hid m0
      have M1 := Lib.hid m1
      have KX2 := KX
      clear m0 m1 KC k2 KB KX zz
      go_wp2_with fail
      generalize (w2.setCell ⟨w1.heap.size, 0, none⟩ (.int .i64 x0)).setCell ⟨w1.heap.size, 1, none⟩ (.int .i64 x1) = X at M0 M1 KX2 ⊢
      have KZ := KA.tr0 KX2
      obtain ⟨s0, s1, s2, s3, s4, s5, s6⟩ := S.out X KZ
      have m0 := M0.out
      have m1 := M1.out
      have KF := Lib.hid (KR.out.tr0 KZ)
      have KG := Lib.hid (K0.tr0 KF.out)
      clear KZ
      rcases Bool.eq_false_or_eq_true (y0 == x0) with q1 | q1 <;> rcases Bool.eq_false_or_eq_true (y1 == x1) with q2 | q2
      all_goals
        have HP := HOA.out
        rw [q1, q2] at HP
        have HQ := Lib.hid HP
        clear HP HOA
      · go_wp2
        all_goals try (go_quiet (fail); go_wp2)
        go_roundw
        case rel => exact ⟨k + 1, by omega, by go_num, by rw [okUpto_succ, HOK.out, HQ.out]; rfl, by first | exact KF.out | exact KF.out.drewN _⟩
        case measure => simp [intOf]; omega
      all_goals
        have HR := Lib.hid (hT.out.trans (okUpto_bad hlt HQ.out))
        go_wp2
        all_goals try (go_quiet (fail); go_wp2)
        go_ret
        exact ⟨by rw [HR.out]; rfl, by first | exact KG.out | exact KG.out.drewN _⟩
    · have KX2 := keep_1 w1 (.cells #[.int .i64 (-1), .int .i64 0] 67)
      have M0 := Lib.hid (show (w1.alloc (.cells #[.int .i64 (-1), .int .i64 0] 67)).cell? ⟨w1.heap.size, 0, none⟩ = some (.int .i64 (-1)) from by go_cell)
      have M1 := Lib.hid (show (w1.alloc (.cells #[.int .i64 (-1), .int .i64 0] 67)).cell? ⟨w1.heap.size, 1, none⟩ = some (.int .i64 0) from by go_cell)
      have hw : ((-1 : Int), (0 : Int)) = (x0, x1) := HW.out
      injection hw with hw0 hw1
      subst hw0 hw1
      go_wp2_with fail
      clear s0 s1 s2 s3 s4 s5 s6
      generalize w1.alloc (.cells #[.int .i64 (-1), .int .i64 0] 67) = X at M0 M1 KX2 ⊢
      have KZ := KA.tr0 KX2
      obtain ⟨s0, s1, s2, s3, s4, s5, s6⟩ := S.out X KZ
      have m0 := M0.out
      have m1 := M1.out
      have KF := Lib.hid (KR.out.tr0 KZ)
      have KG := Lib.hid (K0.tr0 KF.out)
      clear KZ
      rcases Bool.eq_false_or_eq_true (y0 == -1) with q1 | q1 <;> rcases Bool.eq_false_or_eq_true (y1 == 0) with q2 | q2
      all_goals
        have HP := HOA.out
        rw [q1, q2] at HP
        have HQ := Lib.hid HP
        clear HP HOA
      · go_wp2
        all_goals try (go_quiet (fail); go_wp2)
        go_roundw
        case rel => exact ⟨k + 1, by omega, by go_num, by rw [okUpto_succ, HOK.out, HQ.out]; rfl, by first | exact KF.out | exact KF.out.drewN _⟩
        case measure => simp [intOf]; omega
      all_goals
        have HR := Lib.hid (hT.out.trans (okUpto_bad hlt HQ.out))
        go_wp2
        all_goals try (go_quiet (fail); go_wp2)
        go_ret
        exact ⟨by rw [HR.out]; rfl, by first | exact KG.out | exact KG.out.drewN _⟩
set_option maxRecDepth 100000 in
set_option maxHeartbeats 8000000 in
theorem implKeptOk_any (w : World) (h1 h2 h3 h4 : Nat) (va vb vi vo : Value) (ks : List Bool) (sl inner outer : List Two) (ra : Rd w h1 1 va (bols ks)) (rb : Rd w h2 2 vb (ints (twosI sl))) (ri : Rd w h3 2 vi (ints (twosI inner))) (ro : Rd w h4 2 vo (ints (twosI outer)))
    (z4 : h4 ≤ w.heap.size) :
    Calls Try.prog 52 #[.agg #[va, vb], vi, vo] w fun e w' => e = .returned (.bool (keptOkT ks sl inner outer)) ∧ Keep 0 0 w w' := by
  obtain ⟨A, n, c, rfl, hn, hm, hl, ha⟩ := id ra
  obtain ⟨B, m, d, rfl, hn2, hm2, hl2, hb⟩ := id rb
  obtain ⟨I, q, f, rfl, hn3, hm3, hl3, hi⟩ := id ri
  obtain ⟨O, r, g, rfl, _⟩ := id ro
  rw [bols_length, Nat.mul_one] at hl
  rw [ints_length, twosI_length] at hl2 hl3
  unfold maxLen at hm hm2 hm3
  have hn9 : n ≤ 9223372036854775807 := by omega
  have hm9 : m ≤ 9223372036854775807 := by omega
  have hq9 : q ≤ 9223372036854775807 := by omega
  have HL1 := Lib.hid hl
  have HL2 := Lib.hid (show sl.length = m from by omega)
  have HL3 := Lib.hid (show inner.length = q from by omega)
  have HA := Lib.hid ha
  have HB := Lib.hid hb
  have HI := Lib.hid hi
  have K0 := keep_1 w (.cells #[.slice A n c, .slice B m d] 55)
  have RO := Lib.hid ro
  have bx : w.heap.size < (w.alloc (.cells #[.slice A n c, .slice B m d] 55)).heap.size := by simp
  have X0 := Lib.hid (show (w.alloc (.cells #[.slice A n c, .slice B m d] 55)).cell? ⟨w.heap.size, 0, none⟩ = some (.slice A n c) from by go_cell)
  have X1 := Lib.hid (show (w.alloc (.cells #[.slice A n c, .slice B m d] 55)).cell? ⟨w.heap.size, 1, none⟩ = some (.slice B m d) from by go_cell)
  clear hl hl2 hl3 ha hb hi ra rb ri ro
  by_cases e1 : n = q
  rotate_left
  · have hd : ((n : Int) != q) = true := by simp; omega
    have hf := Lib.hid (show keptOkT ks sl inner outer = false from by unfold keptOkT; rw [HL1.out, HL3.out]; simp [e1])
    clear e1
    go_enter Try.func52, Try.ntmps52
    go_wp2
    go_ret
    exact ⟨by rw [hf.out]; rfl, K0⟩
  by_cases e2 : m = q
  rotate_left
  · have hd0 : ((n : Int) != q) = false := by simp; omega
    have hd : ((m : Int) != q) = true := by simp; omega
    have hf := Lib.hid (show keptOkT ks sl inner outer = false from by unfold keptOkT; rw [HL2.out, HL3.out]; simp [e2])
    clear e1 e2
    go_enter Try.func52, Try.ntmps52
    go_wp2
    go_ret
    exact ⟨by rw [hf.out]; rfl, K0⟩
  have hd0 : ((n : Int) != q) = false := by simp; omega
  have hd1 : ((m : Int) != q) = false := by simp; omega
  have hnq : n ≤ q := by omega
  have hqn : q ≤ n := by omega
  have hmq : m ≤ q := by omega
  have hqm : q ≤ m := by omega
  have hT := Lib.hid (show keptOkT ks sl inner outer = okUpto ks sl inner outer q from by unfold keptOkT; rw [HL1.out, HL2.out, HL3.out]; simp [e1, e2])
  clear e1 e2
  go_enter Try.func52, Try.ntmps52
  go_wp2
  go_loopw [27] (fun i wr => ∃ k : Nat, k ≤ q ∧ i = .int .i64 k ∧ okUpto ks sl inner outer k = true ∧ Keep 0 0 (w.alloc (.cells #[.slice A n c, .slice B m d] 55)) wr) (fun i _ => q - (intOf i).toNat)
  case atStart => exact ⟨0, Nat.zero_le _, rfl, rfl, Keep.refl _ _ _⟩
  case round =>
    obtain ⟨k, hk, rfl, hok, hK⟩ := hrel
    have HOK := Lib.hid hok
    clear hok
    by_cases hlt : k < q
    rotate_left
    · have HE := Lib.hid (show keptOkT ks sl inner outer = true from by rw [hT.out, show q = k from by omega]; exact HOK.out)
      have hge : q ≤ k := by omega
      clear hlt
      go_wp2
      go_ret
      exact ⟨by rw [HE.out]; rfl, K0.tr0 hK⟩
    have hkn : k < n := by omega
    have hkm : k < m := by omega
    obtain ⟨b1, o1, rfl, _, hca⟩ := HA.out (by omega)
    obtain ⟨b2, o2, rfl, _, hcb⟩ := HB.out (by omega)
    obtain ⟨b3, o3, rfl, _, hci⟩ := HI.out (by omega)
    have cb0 := hca k _ (bols_get ks k (by rw [HL1.out]; exact hkn))
    have HK := Lib.hid (List.getElem?_eq_getElem (l := ks) (i := k) (by rw [HL1.out]; exact hkn))
    generalize ks[k]'(by rw [HL1.out]; exact hkn) = bk at cb0 HK
    obtain ⟨y0, y1, hy, cy0, cy1, bB⟩ := twos_at HL2.out hcb hkm
    obtain ⟨i0, i1, hii, ci0, ci1, bI⟩ := twos_at HL3.out hci hlt
    have bA := World.block_lt_of_cell? _ _ cb0
    simp only at bA
    have hY := get_of_take hy (by rw [HL2.out]; exact hkm)
    have hI := get_of_take hii (by rw [HL3.out]; exact hlt)
    obtain ⟨x0, x1, hW⟩ : ∃ x0 x1, wantT bk (i0, i1) outer = (x0, x1) := ⟨_, _, rfl⟩
    have HOA := Lib.hid (okAt_eq HK.out hY hI hW)
    have KK := K0.tr0 hK
    -- what lies where, at every later world
    have S := Lib.hid (show ∀ w', Keep 0 0 wr w' → w'.cell? ⟨w.heap.size, 0, none⟩ = some (.slice (some ⟨b1, o1, none⟩) n c) ∧ w'.cell? ⟨w.heap.size, 1, none⟩ = some (.slice (some ⟨b2, o2, none⟩) m d) ∧ w'.cell? ⟨b1, o1 + k, none⟩ = some (.bool bk) ∧
        w'.cell? ⟨b2, o2 + k * 2, none⟩ = some (.int .i64 y0) ∧ w'.cell? ⟨b2, o2 + k * 2 + 1, none⟩ = some (.int .i64 y1) ∧ w'.cell? ⟨b3, o3 + k * 2, none⟩ = some (.int .i64 i0) ∧ w'.cell? ⟨b3, o3 + k * 2 + 1, none⟩ = some (.int .i64 i1) from fun w' h =>
      ⟨(hK.tr0 h).cells bx X0.out, (hK.tr0 h).cells bx X1.out, (KK.tr0 h).cells bA cb0, (KK.tr0 h).cells bB cy0, (KK.tr0 h).cells bB cy1, (KK.tr0 h).cells bI ci0, (KK.tr0 h).cells bI ci1⟩)
    have RO1 := Lib.hid (show ∀ w', Keep 0 0 wr w' → Rd w' h4 2 (.slice O r g) (ints (twosI outer)) ∧ h4 ≤ w'.heap.size from fun w' h => ⟨RO.out.keep (KK.tr0 h) z4 (.inr (Nat.le_refl 0)), Nat.le_trans z4 (KK.tr0 h).size⟩)
    have HW := Lib.hid hW
    have KQ := Lib.hid KK
    have KR := Lib.hid hK
    clear hca hcb hci cb0 cy0 cy1 ci0 ci1 bB bI bA hy hii hY hI hW KK
    obtain ⟨s0, s1, s2, s3, s4, s5, s6⟩ := S.out _ (Keep.refl 0 0 wr)
    go_wp2_with fail
    refine (implNoSlot_any _).mono ?_
    rintro e w1 ⟨rfl, k1⟩
    clear s0 s1 s2 s3 s4 s5 s6
    have KA := (keep_1 wr (.cells #[.int .i64 y0, .int .i64 y1] 67)).tr0 k1
    have sb0 := Lib.hid (k1.cells (q := wr.heap.size) (j := 0) (v := .int .i64 y0) (by simp) (by go_cell))
    have sb1 := Lib.hid (k1.cells (q := wr.heap.size) (j := 1) (v := .int .i64 y1) (by simp) (by go_cell))
    have sbz := Lib.hid (show wr.heap.size < w1.heap.size from by have := k1.size; simp at this; omega)
    clear k1
    have KB := KA.alloc (.cells #[.int .i64 (-1), .int .i64 0] 67)
    obtain ⟨s0, s1, s2, s3, s4, s5, s6⟩ := S.out _ KB
    rcases Bool.eq_false_or_eq_true bk with rfl | rfl
    · have HC := Lib.hid (show compT (i0, i1) outer = (x0, x1) from HW.out)
      obtain ⟨ro1, zo1⟩ := RO1.out _ KB
      go_wp2_with fail
      refine (implComposeSlot_to _ _ _ outer i0 i1 x0 x1 ro1 zo1 HC.out).mono ?_
      rintro e w2 ⟨rfl, k2⟩
      clear s0 s1 s2 s3 s4 s5 s6 ro1 zo1
      have n0 : w2.cell? ⟨w1.heap.size, 0, none⟩ = some (.int .i64 (-1)) := k2.cells (by simp) (by go_cell)
      have n1 : w2.cell? ⟨w1.heap.size, 1, none⟩ = some (.int .i64 0) := k2.cells (by simp) (by go_cell)
      have f0 : w2.frozen? ⟨w1.heap.size, 0, none⟩ = false := k2.free (by simp) (by simp)
      have f1 : w2.frozen? ⟨w1.heap.size, 1, none⟩ = false := k2.free (by simp) (by simp)
      have KC := KB.tr0 k2
      have zz := KA.size
      have KX := (((Keep.refl 0 0 w1).alloc (.cells #[.int .i64 (-1), .int .i64 0] 67)).tr0 k2).setCell (p := ⟨w1.heap.size, 0, none⟩) (.inr (Nat.le_refl _)) (.int .i64 x0) |>.setCell (p := ⟨w1.heap.size, 1, none⟩) (.inr (Nat.le_refl _)) (.int .i64 x1)
      have m0 : ((w2.setCell ⟨w1.heap.size, 0, none⟩ (.int .i64 x0)).setCell ⟨w1.heap.size, 1, none⟩ (.int .i64 x1)).cell? ⟨w1.heap.size, 0, none⟩ = some (.int .i64 x0) := (World.cell?_setCell_other _ _ _ _ (by simp)).trans (World.cell?_setCell_same _ _ _ n0)
      have m1 : ((w2.setCell ⟨w1.heap.size, 0, none⟩ (.int .i64 x0)).setCell ⟨w1.heap.size, 1, none⟩ (.int .i64 x1)).cell? ⟨w1.heap.size, 1, none⟩ = some (.int .i64 x1) := World.cell?_setCell_same _ _ _ ((World.cell?_setCell_other _ _ _ _ (by simp)).trans n1)
      have M0 := Lib.hid m0
      have M1 := Lib.hid m1
      have KX2 := KX
      clear m0 m1 KC k2 KB KX zz
      go_upto_region 9 with (fail)
      generalize (w2.setCell ⟨w1.heap.size, 0, none⟩ (.int .i64 x0)).setCell ⟨w1.heap.size, 1, none⟩ (.int .i64 x1) = X at M0 M1 KX2 ⊢
      have KZ := KA.tr0 KX2
      obtain ⟨s0, s1, s2, s3, s4, s5, s6⟩ := S.out X KZ
      have m0 := M0.out
      have m1 := M1.out
      have t0 : X.cell? ⟨wr.heap.size, 0, none⟩ = some (.int .i64 y0) := KX2.cells sbz.out sb0.out
      have t1 : X.cell? ⟨wr.heap.size, 1, none⟩ = some (.int .i64 y1) := KX2.cells sbz.out sb1.out
      have KF := Lib.hid (KR.out.tr0 KZ)
      have KG := Lib.hid (K0.tr0 KF.out)
      clear KZ
      rcases Bool.eq_false_or_eq_true (y0 == x0) with q1 | q1 <;> rcases Bool.eq_false_or_eq_true (y1 == x1) with q2 | q2
      all_goals
        have HP := HOA.out
        rw [q1, q2] at HP
        have HQ := Lib.hid HP
        clear HP HOA
      · go_wp2
        all_goals try (go_quiet (fail); go_wp2)
        go_roundw
        case rel => exact ⟨k + 1, by omega, by go_num, by rw [okUpto_succ, HOK.out, HQ.out]; rfl, by first | exact KF.out | exact KF.out.drewN _⟩
        case measure => simp [intOf]; omega
      all_goals
        have HR := Lib.hid (hT.out.trans (okUpto_bad hlt HQ.out))
        go_wp2
        all_goals try (go_quiet (fail); go_wp2)
        go_ret
        exact ⟨by rw [HR.out]; rfl, by first | exact KG.out | exact KG.out.drewN _⟩
    · have KX2 := keep_1 w1 (.cells #[.int .i64 (-1), .int .i64 0] 67)
      have M0 := Lib.hid (show (w1.alloc (.cells #[.int .i64 (-1), .int .i64 0] 67)).cell? ⟨w1.heap.size, 0, none⟩ = some (.int .i64 (-1)) from by go_cell)
      have M1 := Lib.hid (show (w1.alloc (.cells #[.int .i64 (-1), .int .i64 0] 67)).cell? ⟨w1.heap.size, 1, none⟩ = some (.int .i64 0) from by go_cell)
      have hw : ((-1 : Int), (0 : Int)) = (x0, x1) := HW.out
      injection hw with hw0 hw1
      subst hw0 hw1
      go_upto_region 9 with (fail)
      clear s0 s1 s2 s3 s4 s5 s6
      generalize w1.alloc (.cells #[.int .i64 (-1), .int .i64 0] 67) = X at M0 M1 KX2 ⊢
      have KZ := KA.tr0 KX2
      obtain ⟨s0, s1, s2, s3, s4, s5, s6⟩ := S.out X KZ
      have m0 := M0.out
      have m1 := M1.out
      have t0 : X.cell? ⟨wr.heap.size, 0, none⟩ = some (.int .i64 y0) := KX2.cells sbz.out sb0.out
      have t1 : X.cell? ⟨wr.heap.size, 1, none⟩ = some (.int .i64 y1) := KX2.cells sbz.out sb1.out
      have KF := Lib.hid (KR.out.tr0 KZ)
      have KG := Lib.hid (K0.tr0 KF.out)
      clear KZ
      rcases Bool.eq_false_or_eq_true (y0 == -1) with q1 | q1 <;> rcases Bool.eq_false_or_eq_true (y1 == 0) with q2 | q2
      all_goals
        have HP := HOA.out
        rw [q1, q2] at HP
        have HQ := Lib.hid HP
        clear HP HOA
      · go_wp2
        all_goals try (go_quiet (fail); go_wp2)
        go_roundw
        case rel => exact ⟨k + 1, by omega, by go_num, by rw [okUpto_succ, HOK.out, HQ.out]; rfl, by first | exact KF.out | exact KF.out.drewN _⟩
        case measure => simp [intOf]; omega
      all_goals
        have HR := Lib.hid (hT.out.trans (okUpto_bad hlt HQ.out))
        go_wp2
        all_goals try (go_quiet (fail); go_wp2)
        go_ret
        exact ⟨by rw [HR.out]; rfl, by first | exact KG.out | exact KG.out.drewN _⟩
end Go.Proofs.Ytcoipfnphmealaa
