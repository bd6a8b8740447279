/-
  Contracts of Fill, the program's and the reference's.
-/
import Derived.Test.YtcoipfnphmealaaForget
import Derived.Test.YtcoipfnphmealaaKok
namespace Go.Proofs.Ytcoipfnphmealaa
open Go.RowKit

def fillT (ks : List Bool) (sl inner outer : List Two) (p : Int) : List Bool × List Two :=
  if inBoth ks.length sl.length p && inB p 0 ((inner.length : Int) - 1) then (ks.set p.toNat true, sl.set p.toNat (compT (inner.getD p.toNat (0, 0)) outer)) else (ks, sl)
theorem fillT_length (ks : List Bool) (sl inner outer : List Two) (p : Int) : (fillT ks sl inner outer p).1.length = ks.length ∧ (fillT ks sl inner outer p).2.length = sl.length := by
  unfold fillT
  split <;> simp
theorem fill_cases (n m q : Nat) (p : Int) : (∃ k : Nat, p = k ∧ k < n ∧ k < m ∧ k < q ∧ inBoth n m p = true) ∨ (∃ k : Nat, p = k ∧ k < n ∧ k < m ∧ q ≤ k ∧ inBoth n m p = true) ∨
    (∃ k : Nat, p = k ∧ k < n ∧ m ≤ k ∧ inB p 0 ((n : Int) - 1) = true ∧ inB p 0 ((m : Int) - 1) = false ∧ inBoth n m p = false) ∨ (inB p 0 ((n : Int) - 1) = false ∧ inBoth n m p = false) := by
  rcases page_cases n m p with ⟨k, h1, h2, h3, h4⟩ | h | h
  · rcases Nat.lt_or_ge k q with h5 | h5
    · exact .inl ⟨k, h1, h2, h3, h5, h4⟩
    · exact .inr (.inl ⟨k, h1, h2, h3, h5, h4⟩)
  · exact .inr (.inr (.inl h))
  · exact .inr (.inr (.inr h))
theorem fillT_no {ks : List Bool} {sl inner outer : List Two} {p : Int} (h : inBoth ks.length sl.length p = false) : fillT ks sl inner outer p = (ks, sl) := by unfold fillT; rw [h]; rfl
theorem fillT_big {ks : List Bool} {sl inner outer : List Two} {k : Nat} (h : inner.length ≤ k) : fillT ks sl inner outer (k : Int) = (ks, sl) := by
  unfold fillT
  rw [show inB (k : Int) 0 ((inner.length : Int) - 1) = false from inB_f2 (by omega), Bool.and_false]
  rfl
theorem fillT_yes {ks : List Bool} {sl inner outer : List Two} {k : Nat} {a : Two} {x : Two} (h : inBoth ks.length sl.length (k : Int) = true) (h2 : k < inner.length) (h3 : inner[k]? = some a) (h4 : compT a outer = x) :
    fillT ks sl inner outer (k : Int) = (ks.set k true, sl.set k x) := by
  unfold fillT
  rw [h, show inB (k : Int) 0 ((inner.length : Int) - 1) = true from inB_t (by omega) (by omega), show ((k : Int)).toNat = k from by simp, List.getD_eq_getElem?_getD, h3]
  simp only [Option.getD_some, Bool.and_self, if_true]
  rw [h4]
set_option maxRecDepth 100000 in
set_option maxHeartbeats 8000000 in
theorem specFill_any (w : World) (h1 h2 h3 h4 : Nat) (va vb vi vo : Value) (ks : List Bool) (sl inner outer : List Two) (p : Int) (ra : Rd w h1 1 va (bols ks)) (rb : Rd w h2 2 vb (ints (twosI sl))) (ri : Rd w h3 2 vi (ints (twosI inner))) (ro : Rd w h4 2 vo (ints (twosI outer))) (z1 : h1 ≤ w.heap.size) (z2 : h2 ≤ w.heap.size) (z4 : h4 ≤ w.heap.size) (hx1 : ks.length ≤ 1048576) (hx2 : (twosI sl).length ≤ 2097152) :
    Calls Try.prog 100 #[.agg #[va, vb], vi, vo, .int .i64 p] w fun e w' => ∃ vc vd, e = .returned (.agg #[vc, vd]) ∧ Duo w' w.heap.size w'.heap.size vc vd (bols (fillT ks sl inner outer p).1) (ints (twosI (fillT ks sl inner outer p).2)) ∧ Keep 0 0 w w' := by
  obtain ⟨A, n, c, rfl, _, hcm, hl1, _⟩ := id ra
  obtain ⟨B, m, d, rfl, _, hdm, hl2, _⟩ := id rb
  obtain ⟨I, q, fi, rfl, _, hqm, hl3, hat3⟩ := id ri
  rw [ints_length, twosI_length] at hl3
  have HL3 := Lib.hid (show inner.length = q from by omega)
  unfold maxLen at hqm
  have hq9 : q ≤ 9223372036854775807 := by omega
  have HI := Lib.hid hat3
  have RO := Lib.hid ro
  clear hqm hl3 hat3 ro ri
  rw [bols_length, Nat.mul_one] at hl1
  rw [ints_length, twosI_length] at hl2
  have HL1 := Lib.hid hl1
  have HL2 := Lib.hid (show sl.length = m from by omega)
  have KW := keep_2 w (.cells #[.slice A n c, .slice B m d] 55) (.cells #[.slice none 0 0, .slice none 0 0] 55)
  have ra1 := ra.keep KW z1 (.inr (Nat.le_refl 0))
  have rb1 := rb.keep KW z2 (.inr (Nat.le_refl 0))
  have HP := Lib.hid (fill_cases n m q p)
  clear hl1 hl2 ra rb
  go_enter Try.func100, Try.ntmps100
  go_wp2_with fail
  refine (speccopy_any _ _ _ _ _ ks _ ra1 rb1 (Nat.le_trans z1 KW.size) (Nat.le_trans z2 KW.size) hx1 hx2).mono ?_
  rintro e w1 ⟨vc, vd, rfl, hd, k1⟩
  obtain ⟨C, n1, c1, rfl⟩ := hd.a.slice
  obtain ⟨D, m1, d1, rfl⟩ := hd.b.slice
  have hn1 : n1 = n := by have := hd.a.len.1; rw [bols_length, HL1.out] at this; omega
  have hm1 : m1 = m := by have := hd.b.len.1; rw [ints_length, twosI_length, HL2.out] at this; omega
  subst hn1 hm1
  have lc := hd.a.len.2
  have ld := hd.b.len.2
  unfold maxLen at lc ld
  have hn9 : n1 ≤ 9223372036854775807 := by omega
  have hm9 : m1 ≤ 9223372036854775807 := by omega
  have hs1 := k1.size
  simp at hs1
  have b0 : w1.cell? ⟨w.heap.size, 0, none⟩ = some (.slice A n1 c) := k1.cells (by simp; omega) (by first | go_cell | (simp [go_sem]; done))
  have b1 : w1.cell? ⟨w.heap.size, 1, none⟩ = some (.slice B m1 d) := k1.cells (by simp; omega) (by first | go_cell | (simp [go_sem]; done))
  have f0 : w1.frozen? ⟨w.heap.size, 0, none⟩ = false := k1.free (by simp; omega) (by first | (simp [go_sem]; done) | simp)
  have f1 : w1.frozen? ⟨w.heap.size, 1, none⟩ = false := k1.free (by simp; omega) (by first | (simp [go_sem]; done) | simp)
  have r0 : w1.cell? ⟨w.heap.size + 1, 0, none⟩ = some (.slice none 0 0) := k1.cells (by simp) (by first | go_cell | (simp [go_sem]; done))
  have r1 : w1.cell? ⟨w.heap.size + 1, 1, none⟩ = some (.slice none 0 0) := k1.cells (by simp) (by first | go_cell | (simp [go_sem]; done))
  have g0 : w1.frozen? ⟨w.heap.size + 1, 0, none⟩ = false := k1.free (by simp) (by first | (simp [go_sem]; done) | simp)
  have g1 : w1.frozen? ⟨w.heap.size + 1, 1, none⟩ = false := k1.free (by simp) (by first | (simp [go_sem]; done) | simp)
  have hsz := show ((w.alloc (.cells #[.slice A n1 c, .slice B m1 d] 55)).alloc (.cells #[.slice none 0 0, .slice none 0 0] 55)).heap.size = w.heap.size + 2 from by simp
  rw [hsz] at hd
  have kS : Keep w.heap.size (w.heap.size + 1) w1 ((w1.setCell ⟨w.heap.size, 0, none⟩ (.slice C n1 c1)).setCell ⟨w.heap.size, 1, none⟩ (.slice D m1 d1)) :=
    ((Keep.refl w.heap.size (w.heap.size + 1) w1).setCell (p := ⟨w.heap.size, 0, none⟩) (.inl ⟨Nat.le_refl _, Nat.lt_succ_self _⟩) _).setCell (p := ⟨w.heap.size, 1, none⟩) (.inl ⟨Nat.le_refl _, Nat.lt_succ_self _⟩) _
  have KX := (KW.tr0 k1).trm kS (Nat.le_refl _)
  have HD := Lib.hid (hd.keep kS (by omega))
  have hc0 := Lib.hid (show ((w1.setCell ⟨w.heap.size, 0, none⟩ (.slice C n1 c1)).setCell ⟨w.heap.size, 1, none⟩ (.slice D m1 d1)).cell? ⟨w.heap.size, 0, none⟩ = some (.slice C n1 c1) from (World.cell?_setCell_other _ _ _ _ (by simp)).trans (World.cell?_setCell_same _ _ _ b0))
  have hc1 := Lib.hid (show ((w1.setCell ⟨w.heap.size, 0, none⟩ (.slice C n1 c1)).setCell ⟨w.heap.size, 1, none⟩ (.slice D m1 d1)).cell? ⟨w.heap.size, 1, none⟩ = some (.slice D m1 d1) from World.cell?_setCell_same _ _ _ ((World.cell?_setCell_other _ _ _ _ (by simp)).trans b1))
  have hr0 := Lib.hid ((kS.cell (p := ⟨w.heap.size + 1, 0, none⟩) (by show w.heap.size + 1 < _; omega) (.inr (Nat.le_refl _))).trans r0)
  have hr1 := Lib.hid ((kS.cell (p := ⟨w.heap.size + 1, 1, none⟩) (by show w.heap.size + 1 < _; omega) (.inr (Nat.le_refl _))).trans r1)
  have hg0 := Lib.hid ((kS.frozen (p := ⟨w.heap.size + 1, 0, none⟩) (by show w.heap.size + 1 < _; omega) (.inr (Nat.le_refl _))).trans g0)
  have hg1 := Lib.hid ((kS.frozen (p := ⟨w.heap.size + 1, 1, none⟩) (by show w.heap.size + 1 < _; omega) (.inr (Nat.le_refl _))).trans g1)
  have hxs : w.heap.size + 1 < ((w1.setCell ⟨w.heap.size, 0, none⟩ (.slice C n1 c1)).setCell ⟨w.heap.size, 1, none⟩ (.slice D m1 d1)).heap.size := by simp [World.setCell]; omega
  clear hsz kS k1 ra1 rb1 hd
  go_wp2_with fail
  clear b0 b1 f0 f1 r0 r1 g0 g1
  generalize ((w1.setCell ⟨w.heap.size, 0, none⟩ (.slice C n1 c1)).setCell ⟨w.heap.size, 1, none⟩ (.slice D m1 d1)) = X1 at KX HD hc0 hc1 hr0 hr1 hg0 hg1 hxs ⊢
  refine (l07Has_any _ _ _ _ _ _ p _ hn9).mono ?_
  rintro e X ⟨rfl, k2⟩
  have c0 := k2.cells (Nat.lt_of_succ_lt hxs) hc0.out
  have c1' := k2.cells (Nat.lt_of_succ_lt hxs) hc1.out
  have q0 := k2.cells hxs hr0.out
  have q1 := k2.cells hxs hr1.out
  have e0 := k2.free hxs hg0.out
  have e1 := k2.free hxs hg1.out
  have KY := KX.tr0 k2
  have HE := Lib.hid (HD.out.keep k2 (.inr (.inr (Nat.le_refl 0))))
  have HXS := Lib.hid (Nat.lt_of_lt_of_le hxs k2.size)
  have zb : w.heap.size < X.heap.size := Nat.lt_of_lt_of_le (Nat.lt_of_succ_lt hxs) k2.size
  have HS1 := Lib.hid (Nat.le_trans (Nat.le_of_eq (show w1.heap.size = w1.heap.size from rfl)) (Nat.le_refl _))
  clear k2 KX HD hc0 hc1 hr0 hr1 hg0 hg1 hxs HS1
  rcases HP.out with ⟨k, rfl, hk1, hk2, hkq, hk3⟩ | ⟨k, rfl, hk1, hk2, hkq, hk3⟩ | hno
  rotate_left
  · have HF := Lib.hid (show fillT ks sl inner outer (k : Int) = (ks, sl) from fillT_big (by rw [HL3.out]; exact hkq))
    rw [hk3]
    have hd : decide ((k : Int) < (q : Int)) = false := by simp; omega
    have hd2 : decide (k < q) = false := by simp; omega
    clear hk3
    go_wp2
    refine bodyPost_ret (v := .agg #[.slice C n1 c1, .slice D m1 d1]) (by simp [results, Try.results100, go_sem, q0, q1]) rfl ?_
    rw [HF.out]
    exact ⟨_, _, rfl, forget_end KY HE.out HXS.out⟩
  · have hno2 : inBoth n1 m1 p = false := by rcases hno with ⟨k, rfl, _, _, _, _, h⟩ | ⟨_, h⟩ <;> exact h
    have HF := Lib.hid (show fillT ks sl inner outer p = (ks, sl) from fillT_no (by rw [HL1.out, HL2.out, hno2]))
    rw [hno2]
    clear hno hno2
    go_wp2
    refine bodyPost_ret (v := .agg #[.slice C n1 c1, .slice D m1 d1]) (by simp [results, Try.results100, go_sem, q0, q1]) rfl ?_
    rw [HF.out]
    exact ⟨_, _, rfl, forget_end KY HE.out HXS.out⟩
  · obtain ⟨gi, oi, rfl, hgi, hati⟩ := HI.out (by omega)
    obtain ⟨i0, i1, hii, ci0, ci1, bI⟩ := twos_at HL3.out hati hkq
    have hI := get_of_take hii (by rw [HL3.out]; exact hkq)
    have zw0 := KY.cells bI ci0
    have zw1 := KY.cells bI ci1
    obtain ⟨x0, x1, hW⟩ : ∃ x0 x1, compT (i0, i1) outer = (x0, x1) := ⟨_, _, rfl⟩
    have HW := Lib.hid hW
    have HF := Lib.hid (show fillT ks sl inner outer (k : Int) = (ks.set k true, sl.set k (x0, x1)) from fillT_yes (by rw [HL1.out, HL2.out]; exact hk3) (by rw [HL3.out]; exact hkq) hI hW)
    have hw : w.heap.size < X.heap.size := Nat.lt_of_succ_lt HXS.out
    have bJ := Nat.lt_of_lt_of_le bI KY.size
    clear hii hI hW hati
    rw [hk3]
    have hd : decide ((k : Int) < (q : Int)) = true := by simp; omega
    have HEa := HE.out.a
    obtain ⟨ga, oa, rfl, ha1, ha2, ha3, hata⟩ := HEa.at_ (by omega)
    obtain ⟨hca, hfa⟩ := hata k _ (bols_get ks k (by rw [HL1.out]; exact hk1))
    generalize ks[k]'(by rw [HL1.out]; exact hk1) = bk at hca
    obtain ⟨gb, ob, rfl, hb1, hb2, hb3, hatb⟩ := HE.out.b.at_ (by omega)
    have hga : w.heap.size + 1 < ga := by omega
    have hgb : w.heap.size + 1 < gb := by omega
    have kA : Keep ga (ga + 1) X (X.setCell ⟨ga, oa + k, none⟩ (.bool true)) := (Keep.refl ga (ga + 1) X).setCell (p := ⟨ga, oa + k, none⟩) (.inl ⟨Nat.le_refl _, Nat.lt_succ_self _⟩) _
    have HG := Lib.hid (show Duo (X.setCell ⟨ga, oa + k, none⟩ (.bool true)) (w.heap.size + 2) w1.heap.size (.slice (some ⟨ga, oa, none⟩) n1 c1) (.slice (some ⟨gb, ob, none⟩) m1 d1) (bols (ks.set k true)) (ints (twosI sl)) from by rw [← bols_set]; exact HE.out.set_a (by omega) _)
    have KZ := KY.trm kA (by omega)
    have zs := HXS.out
    have t0 := Lib.hid ((kA.cell (p := ⟨w.heap.size, 0, none⟩) zb (by show w.heap.size < ga ∨ ga + 1 ≤ w.heap.size; omega)).trans c0)
    have t1 := Lib.hid ((kA.cell (p := ⟨w.heap.size, 1, none⟩) zb (by show w.heap.size < ga ∨ ga + 1 ≤ w.heap.size; omega)).trans c1')
    have t2 := Lib.hid ((kA.cell (p := ⟨w.heap.size + 1, 0, none⟩) zs (.inl hga)).trans q0)
    have t3 := Lib.hid ((kA.cell (p := ⟨w.heap.size + 1, 1, none⟩) zs (.inl hga)).trans q1)
    have t4 := Lib.hid ((kA.frozen (p := ⟨w.heap.size + 1, 0, none⟩) zs (.inl hga)).trans e0)
    have t5 := Lib.hid ((kA.frozen (p := ⟨w.heap.size + 1, 1, none⟩) zs (.inl hga)).trans e1)
    have u0 := Lib.hid ((kA.cell (p := ⟨gi, oi + k * 2, none⟩) bJ (by show gi < ga ∨ ga + 1 ≤ gi; omega)).trans zw0)
    have u1 := Lib.hid ((kA.cell (p := ⟨gi, oi + k * 2 + 1, none⟩) bJ (by show gi < ga ∨ ga + 1 ≤ gi; omega)).trans zw1)
    have bK := Nat.lt_of_lt_of_le bJ kA.size
    have zs3 := Nat.lt_of_lt_of_le zs kA.size
    have zb3 := Nat.lt_of_lt_of_le zb kA.size
    clear hata hatb kA KY HEa
    go_wp2_with fail
    clear hca hfa c0 c1' q0 q1 e0 e1 HE zs HXS zb zw0 zw1 bJ
    generalize X.setCell ⟨ga, oa + k, none⟩ (.bool true) = X3 at HG KZ t0 t1 t2 t3 t4 t5 zs3 zb3 u0 u1 bK ⊢
    obtain ⟨gb', ob', e', _, _, hb3', hatb⟩ := HG.out.b.at_ (by omega)
    injection e' with e'
    injection e' with e'1 e'2
    subst e'1 e'2
    have hkl : k < sl.length := by rw [HL2.out]; exact hk2
    have hl4 : (ints (twosI sl)).length = sl.length * 2 := by rw [ints_length, twosI_length]
    obtain ⟨hy0, hv0⟩ := hatb (k * 2) _ (List.getElem?_eq_getElem (by rw [hl4]; omega))
    obtain ⟨hy1, hv1⟩ := hatb (k * 2 + 1) _ (List.getElem?_eq_getElem (by rw [hl4]; omega))
    generalize (ints (twosI sl))[k * 2]'(by rw [hl4]; omega) = y0 at hy0
    generalize (ints (twosI sl))[k * 2 + 1]'(by rw [hl4]; omega) = y1 at hy1
    have Y0 := Lib.hid hy0
    have Y1 := Lib.hid (show X3.cell? ⟨gb, ob + k * 2 + 1, none⟩ = some y1 from hy1)
    have V0 := Lib.hid hv0
    have V1 := Lib.hid (show X3.frozen? ⟨gb, ob + k * 2 + 1, none⟩ = false from hv1)
    have HS := Lib.hid (show ∀ w', Keep 0 0 X3 w' → w'.cell? ⟨w.heap.size, 0, none⟩ = some (.slice (some ⟨ga, oa, none⟩) n1 c1) ∧ w'.cell? ⟨w.heap.size, 1, none⟩ = some (.slice (some ⟨gb, ob, none⟩) m1 d1) ∧ w'.cell? ⟨gi, oi + k * 2, none⟩ = some (.int .i64 i0) ∧ w'.cell? ⟨gi, oi + k * 2 + 1, none⟩ = some (.int .i64 i1) from fun w' h => ⟨h.cells zb3 t0.out, h.cells zb3 t1.out, h.cells bK u0.out, h.cells bK u1.out⟩)
    have HB := Lib.hid (show ∀ (w' : World) (u v : Value), (w'.cell? ⟨w.heap.size, 0, none⟩ = some (.slice (some ⟨ga, oa, none⟩) n1 c1) ∧ w'.cell? ⟨w.heap.size, 1, none⟩ = some (.slice (some ⟨gb, ob, none⟩) m1 d1) ∧ w'.cell? ⟨gi, oi + k * 2, none⟩ = some (.int .i64 i0) ∧ w'.cell? ⟨gi, oi + k * 2 + 1, none⟩ = some (.int .i64 i1)) →
        ((w'.setCell ⟨gb, ob + k * 2, none⟩ u).setCell ⟨gb, ob + k * 2 + 1, none⟩ v).cell? ⟨w.heap.size, 0, none⟩ = some (.slice (some ⟨ga, oa, none⟩) n1 c1) ∧ ((w'.setCell ⟨gb, ob + k * 2, none⟩ u).setCell ⟨gb, ob + k * 2 + 1, none⟩ v).cell? ⟨w.heap.size, 1, none⟩ = some (.slice (some ⟨gb, ob, none⟩) m1 d1) ∧ ((w'.setCell ⟨gb, ob + k * 2, none⟩ u).setCell ⟨gb, ob + k * 2 + 1, none⟩ v).cell? ⟨gi, oi + k * 2, none⟩ = some (.int .i64 i0) ∧ ((w'.setCell ⟨gb, ob + k * 2, none⟩ u).setCell ⟨gb, ob + k * 2 + 1, none⟩ v).cell? ⟨gi, oi + k * 2 + 1, none⟩ = some (.int .i64 i1) from fun w' u v h =>
      have hne : gb ≠ w.heap.size := by omega
      have hne2 : gb ≠ gi := by omega
      ⟨(World.cell?_setCell_far _ _ _ _ hne).trans ((World.cell?_setCell_far _ _ _ _ hne).trans h.1), (World.cell?_setCell_far _ _ _ _ hne).trans ((World.cell?_setCell_far _ _ _ _ hne).trans h.2.1), (World.cell?_setCell_far _ _ _ _ hne2).trans ((World.cell?_setCell_far _ _ _ _ hne2).trans h.2.2.1), (World.cell?_setCell_far _ _ _ _ hne2).trans ((World.cell?_setCell_far _ _ _ _ hne2).trans h.2.2.2)⟩)
    have KD := (Keep.refl 0 0 X3).drew
    clear hatb hy0 hy1 hv0 hv1 hkl hl4
    go_region_held3 (fun w' => w'.cell? ⟨w.heap.size, 0, none⟩ = some (.slice (some ⟨ga, oa, none⟩) n1 c1) ∧ w'.cell? ⟨w.heap.size, 1, none⟩ = some (.slice (some ⟨gb, ob, none⟩) m1 d1) ∧ w'.cell? ⟨gi, oi + k * 2, none⟩ = some (.int .i64 i0) ∧ w'.cell? ⟨gi, oi + k * 2 + 1, none⟩ = some (.int .i64 i1))
      (first | (with_reducible exact HS.out _ KD) | (exact HS.out _ (KD.tr0 k4)) | (refine HB.out _ _ _ ?_; with_reducible assumption) | fail)
      (first
        | (go_at_call 86; refine (specComposeSlot_to _ _ _ outer i0 i1 x0 x1 (RO.out.keep (KZ.tr0 KD) z4 (.inr (Nat.le_refl 0))) (Nat.le_trans z4 (KZ.tr0 KD).size) HW.out).mono ?_; rintro e X4 ⟨rfl, k4⟩; have y0' := (KD.tr0 k4).cells hb3' Y0.out; have y1' := (KD.tr0 k4).cells hb3' Y1.out; have v0' := (KD.tr0 k4).free hb3' V0.out; have v1' := (KD.tr0 k4).free hb3' V1.out)
        | fail)
    have K4 := KD.tr0 k4
    have K5 := KZ.tr0 K4
    have kB : Keep gb (gb + 1) X4 ((X4.setCell ⟨gb, ob + k * 2, none⟩ (.int .i64 x0)).setCell ⟨gb, ob + k * 2 + 1, none⟩ (.int .i64 x1)) :=
      ((Keep.refl gb (gb + 1) X4).setCell (p := ⟨gb, ob + k * 2, none⟩) (.inl ⟨Nat.le_refl _, Nat.lt_succ_self _⟩) _).setCell (p := ⟨gb, ob + k * 2 + 1, none⟩) (.inl ⟨Nat.le_refl _, Nat.lt_succ_self _⟩) _
    have HH := Lib.hid (show Duo ((X4.setCell ⟨gb, ob + k * 2, none⟩ (.int .i64 x0)).setCell ⟨gb, ob + k * 2 + 1, none⟩ (.int .i64 x1)) (w.heap.size + 2) w1.heap.size (.slice (some ⟨ga, oa, none⟩) n1 c1) (.slice (some ⟨gb, ob, none⟩) m1 d1) (bols (ks.set k true)) (ints (twosI (sl.set k (x0, x1)))) from by
      rw [← twos_set sl k x0 x1 (by rw [HL2.out]; exact hk2)]
      exact ((HG.out.keep K4 (.inr (.inr (Nat.le_refl 0)))).set_b (j := k * 2) (by omega) (.int .i64 x0)).set_b (j := k * 2 + 1) (by omega) (.int .i64 x1))
    have zs4 := Nat.lt_of_lt_of_le zs3 K4.size
    have zb4 := Nat.lt_of_lt_of_le zb3 K4.size
    have c0 := (kB.cell (p := ⟨w.heap.size, 0, none⟩) zb4 (by show w.heap.size < gb ∨ gb + 1 ≤ w.heap.size; omega)).trans (K4.cells zb3 t0.out)
    have c1' := (kB.cell (p := ⟨w.heap.size, 1, none⟩) zb4 (by show w.heap.size < gb ∨ gb + 1 ≤ w.heap.size; omega)).trans (K4.cells zb3 t1.out)
    have q0 := (kB.cell (p := ⟨w.heap.size + 1, 0, none⟩) zs4 (.inl hgb)).trans (K4.cells zs3 t2.out)
    have q1 := (kB.cell (p := ⟨w.heap.size + 1, 1, none⟩) zs4 (.inl hgb)).trans (K4.cells zs3 t3.out)
    have e0 := (kB.frozen (p := ⟨w.heap.size + 1, 0, none⟩) zs4 (.inl hgb)).trans (K4.free zs3 t4.out)
    have e1 := (kB.frozen (p := ⟨w.heap.size + 1, 1, none⟩) zs4 (.inl hgb)).trans (K4.free zs3 t5.out)
    have KE := K5.trm kB (by omega)
    have HXS := Lib.hid (Nat.lt_of_lt_of_le zs4 kB.size)
    clear u0 u1 bK
    clear kB K4 K5 KD k4 y0' y1' v0' v1' t0 t1 t2 t3 t4 t5 zs3 zs4 zb3 zb4 HG KZ
    generalize (X4.setCell ⟨gb, ob + k * 2, none⟩ (.int .i64 x0)).setCell ⟨gb, ob + k * 2 + 1, none⟩ (.int .i64 x1) = X5 at HH c0 c1' q0 q1 e0 e1 KE HXS ⊢
    go_wp2
    refine bodyPost_ret (v := .agg #[.slice (some ⟨ga, oa, none⟩) n1 c1, .slice (some ⟨gb, ob, none⟩) m1 d1]) (by simp [results, Try.results100, go_sem, q0, q1]) rfl ?_
    rw [HF.out]
    exact ⟨_, _, rfl, forget_end KE HH.out HXS.out⟩
set_option maxRecDepth 100000 in
set_option maxHeartbeats 8000000 in
theorem implFill_any (w : World) (h1 h2 h3 h4 : Nat) (va vb vi vo : Value) (ks : List Bool) (sl inner outer : List Two) (p : Int) (ra : Rd w h1 1 va (bols ks)) (rb : Rd w h2 2 vb (ints (twosI sl))) (ri : Rd w h3 2 vi (ints (twosI inner))) (ro : Rd w h4 2 vo (ints (twosI outer))) (z1 : h1 ≤ w.heap.size) (z2 : h2 ≤ w.heap.size) (z4 : h4 ≤ w.heap.size) (hx1 : ks.length ≤ 1048576) (hx2 : (twosI sl).length ≤ 2097152) :
    Calls Try.prog 48 #[.agg #[va, vb], vi, vo, .int .i64 p] w fun e w' => ∃ vc vd, e = .returned (.agg #[vc, vd]) ∧ Duo w' w.heap.size w'.heap.size vc vd (bols (fillT ks sl inner outer p).1) (ints (twosI (fillT ks sl inner outer p).2)) ∧ Keep 0 0 w w' := by
  obtain ⟨A, n, c, rfl, _, hcm, hl1, _⟩ := id ra
  obtain ⟨B, m, d, rfl, _, hdm, hl2, _⟩ := id rb
  obtain ⟨I, q, fi, rfl, _, hqm, hl3, hat3⟩ := id ri
  rw [ints_length, twosI_length] at hl3
  have HL3 := Lib.hid (show inner.length = q from by omega)
  unfold maxLen at hqm
  have hq9 : q ≤ 9223372036854775807 := by omega
  have HI := Lib.hid hat3
  have RO := Lib.hid ro
  clear hqm hl3 hat3 ro ri
  rw [bols_length, Nat.mul_one] at hl1
  rw [ints_length, twosI_length] at hl2
  have HL1 := Lib.hid hl1
  have HL2 := Lib.hid (show sl.length = m from by omega)
  have KW := keep_2 w (.cells #[.slice A n c, .slice B m d] 55) (.cells #[.slice none 0 0, .slice none 0 0] 55)
  have ra1 := ra.keep KW z1 (.inr (Nat.le_refl 0))
  have rb1 := rb.keep KW z2 (.inr (Nat.le_refl 0))
  have HP := Lib.hid (fill_cases n m q p)
  clear hl1 hl2 ra rb
  go_enter Try.func48, Try.ntmps48
  go_wp2_with fail
  refine (implcopy_any _ _ _ _ _ ks _ ra1 rb1 (Nat.le_trans z1 KW.size) (Nat.le_trans z2 KW.size) hx1 hx2).mono ?_
  rintro e w1 ⟨vc, vd, rfl, hd, k1⟩
  obtain ⟨C, n1, c1, rfl⟩ := hd.a.slice
  obtain ⟨D, m1, d1, rfl⟩ := hd.b.slice
  have hn1 : n1 = n := by have := hd.a.len.1; rw [bols_length, HL1.out] at this; omega
  have hm1 : m1 = m := by have := hd.b.len.1; rw [ints_length, twosI_length, HL2.out] at this; omega
  subst hn1 hm1
  have lc := hd.a.len.2
  have ld := hd.b.len.2
  unfold maxLen at lc ld
  have hn9 : n1 ≤ 9223372036854775807 := by omega
  have hm9 : m1 ≤ 9223372036854775807 := by omega
  have hs1 := k1.size
  simp at hs1
  have KA := k1.alloc (.cells #[.slice C n1 c1, .slice D m1 d1] 55)
  have b0 := KA.cells (q := w.heap.size) (j := 0) (v := .slice A n1 c) (by simp; omega) (by first | go_cell | (simp [go_sem]; done))
  have b1 := KA.cells (q := w.heap.size) (j := 1) (v := .slice B m1 d) (by simp; omega) (by first | go_cell | (simp [go_sem]; done))
  have q0 := KA.cells (q := w.heap.size + 1) (j := 0) (v := .slice none 0 0) (by simp) (by first | go_cell | (simp [go_sem]; done))
  have q1 := KA.cells (q := w.heap.size + 1) (j := 1) (v := .slice none 0 0) (by simp) (by first | go_cell | (simp [go_sem]; done))
  have e0 := KA.free (q := w.heap.size + 1) (j := 0) (by simp) (by first | (simp [go_sem]; done) | simp)
  have e1 := KA.free (q := w.heap.size + 1) (j := 1) (by simp) (by first | (simp [go_sem]; done) | simp)
  have hsz := show ((w.alloc (.cells #[.slice A n1 c, .slice B m1 d] 55)).alloc (.cells #[.slice none 0 0, .slice none 0 0] 55)).heap.size = w.heap.size + 2 from by simp
  rw [hsz] at hd
  have c0 : (w1.alloc (.cells #[.slice C n1 c1, .slice D m1 d1] 55)).cell? ⟨w1.heap.size, 0, none⟩ = some (.slice C n1 c1) := by go_cell
  have c1' : (w1.alloc (.cells #[.slice C n1 c1, .slice D m1 d1] 55)).cell? ⟨w1.heap.size, 1, none⟩ = some (.slice D m1 d1) := by go_cell
  have KY := KW.tr0 KA
  have HE := Lib.hid (hd.keep (keep_1 w1 (.cells #[.slice C n1 c1, .slice D m1 d1] 55)) (.inr (.inr (Nat.le_refl 0))))
  have HXS := Lib.hid (show w.heap.size + 1 < (w1.alloc (.cells #[.slice C n1 c1, .slice D m1 d1] 55)).heap.size from by simp; omega)
  have zb : w1.heap.size < (w1.alloc (.cells #[.slice C n1 c1, .slice D m1 d1] 55)).heap.size := by simp
  clear hsz k1 ra1 rb1 hd KA
  go_upto_region 2 with (fail)
  generalize w1.alloc (.cells #[.slice C n1 c1, .slice D m1 d1] 55) = X at b0 b1 q0 q1 e0 e1 c0 c1' KY HE HXS zb ⊢
  rcases HP.out with ⟨k, rfl, hk1, hk2, hkq, hk3⟩ | ⟨k, rfl, hk1, hk2, hkq, hk3⟩ | hno
  rotate_left
  · have HF := Lib.hid (show fillT ks sl inner outer (k : Int) = (ks, sl) from fillT_big (by rw [HL3.out]; exact hkq))
    clear hk3
    have hia : inB (k : Int) 0 ((n1 : Int) - 1) = true := inB_t (by omega) (by omega)
    have hib : inB (k : Int) 0 ((m1 : Int) - 1) = true := inB_t (by omega) (by omega)
    have hic : inB (k : Int) 0 ((q : Int) - 1) = false := inB_f2 (by omega)
    go_wp2_with (go_at_call 74; refine (has_any _ _ _).mono ?_; rintro e w' ⟨rfl, rfl⟩)
    refine bodyPost_ret (v := .agg #[.slice C n1 c1, .slice D m1 d1]) (by simp [results, Try.results48, go_sem, q0, q1]) rfl ?_
    rw [HF.out]
    exact ⟨_, _, rfl, forget_end KY HE.out HXS.out⟩
  · have hno2 : inBoth n1 m1 p = false := by rcases hno with ⟨k, rfl, _, _, _, _, h⟩ | ⟨_, h⟩ <;> exact h
    have HF := Lib.hid (show fillT ks sl inner outer p = (ks, sl) from fillT_no (by rw [HL1.out, HL2.out, hno2]))
    clear hno2
    rcases hno with ⟨k, rfl, hk1, hk2, hia, hib, _⟩ | ⟨hia, _⟩
    all_goals
      go_wp2_with (go_at_call 74; refine (has_any _ _ _).mono ?_; rintro e w' ⟨rfl, rfl⟩)
      refine bodyPost_ret (v := .agg #[.slice C n1 c1, .slice D m1 d1]) (by simp [results, Try.results48, go_sem, q0, q1]) rfl ?_
      rw [HF.out]
      exact ⟨_, _, rfl, forget_end KY HE.out HXS.out⟩
  · obtain ⟨gi, oi, rfl, hgi, hati⟩ := HI.out (by omega)
    obtain ⟨i0, i1, hii, ci0, ci1, bI⟩ := twos_at HL3.out hati hkq
    have hI := get_of_take hii (by rw [HL3.out]; exact hkq)
    have zw0 := KY.cells bI ci0
    have zw1 := KY.cells bI ci1
    obtain ⟨x0, x1, hW⟩ : ∃ x0 x1, compT (i0, i1) outer = (x0, x1) := ⟨_, _, rfl⟩
    have HW := Lib.hid hW
    have HF := Lib.hid (show fillT ks sl inner outer (k : Int) = (ks.set k true, sl.set k (x0, x1)) from fillT_yes (by rw [HL1.out, HL2.out]; exact hk3) (by rw [HL3.out]; exact hkq) hI hW)
    have hw : w.heap.size < X.heap.size := Nat.lt_of_succ_lt HXS.out
    have bJ := Nat.lt_of_lt_of_le bI KY.size
    clear hii hI hW hati
    have hia : inB (k : Int) 0 ((n1 : Int) - 1) = true := inB_t (by omega) (by omega)
    have hib : inB (k : Int) 0 ((m1 : Int) - 1) = true := inB_t (by omega) (by omega)
    have hic : inB (k : Int) 0 ((q : Int) - 1) = true := inB_t (by omega) (by omega)
    have HEa := HE.out.a
    obtain ⟨ga, oa, rfl, ha1, ha2, ha3, hata⟩ := HEa.at_ (by omega)
    obtain ⟨hca, hfa⟩ := hata k _ (bols_get ks k (by rw [HL1.out]; exact hk1))
    generalize ks[k]'(by rw [HL1.out]; exact hk1) = bk at hca
    obtain ⟨gb, ob, rfl, hb1, hb2, hb3, hatb⟩ := HE.out.b.at_ (by omega)
    have hga : w.heap.size + 1 < ga := by omega
    have hgb : w.heap.size + 1 < gb := by omega
    have kA : Keep ga (ga + 1) X (X.setCell ⟨ga, oa + k, none⟩ (.bool true)) := (Keep.refl ga (ga + 1) X).setCell (p := ⟨ga, oa + k, none⟩) (.inl ⟨Nat.le_refl _, Nat.lt_succ_self _⟩) _
    have HG := Lib.hid (show Duo (X.setCell ⟨ga, oa + k, none⟩ (.bool true)) (w.heap.size + 2) w1.heap.size (.slice (some ⟨ga, oa, none⟩) n1 c1) (.slice (some ⟨gb, ob, none⟩) m1 d1) (bols (ks.set k true)) (ints (twosI sl)) from by rw [← bols_set]; exact HE.out.set_a (by omega) _)
    have KZ := KY.trm kA (by omega)
    have zs := HXS.out
    have t0 := Lib.hid ((kA.cell (p := ⟨w1.heap.size, 0, none⟩) zb (by show w1.heap.size < ga ∨ ga + 1 ≤ w1.heap.size; omega)).trans c0)
    have t1 := Lib.hid ((kA.cell (p := ⟨w1.heap.size, 1, none⟩) zb (by show w1.heap.size < ga ∨ ga + 1 ≤ w1.heap.size; omega)).trans c1')
    have t2 := Lib.hid ((kA.cell (p := ⟨w.heap.size + 1, 0, none⟩) zs (.inl hga)).trans q0)
    have t3 := Lib.hid ((kA.cell (p := ⟨w.heap.size + 1, 1, none⟩) zs (.inl hga)).trans q1)
    have t4 := Lib.hid ((kA.frozen (p := ⟨w.heap.size + 1, 0, none⟩) zs (.inl hga)).trans e0)
    have t5 := Lib.hid ((kA.frozen (p := ⟨w.heap.size + 1, 1, none⟩) zs (.inl hga)).trans e1)
    have u0 := Lib.hid ((kA.cell (p := ⟨gi, oi + k * 2, none⟩) bJ (by show gi < ga ∨ ga + 1 ≤ gi; omega)).trans zw0)
    have u1 := Lib.hid ((kA.cell (p := ⟨gi, oi + k * 2 + 1, none⟩) bJ (by show gi < ga ∨ ga + 1 ≤ gi; omega)).trans zw1)
    have bK := Nat.lt_of_lt_of_le bJ kA.size
    have zs3 := Nat.lt_of_lt_of_le zs kA.size
    have zb3 := Nat.lt_of_lt_of_le zb kA.size
    clear hata hatb kA KY HEa
    go_wp2_with (go_at_call 74; refine (has_any _ _ _).mono ?_; rintro e w' ⟨rfl, rfl⟩)
    clear hca hfa c0 c1' q0 q1 e0 e1 HE zs HXS zb zw0 zw1 bJ
    generalize X.setCell ⟨ga, oa + k, none⟩ (.bool true) = X3 at HG KZ t0 t1 t2 t3 t4 t5 zs3 zb3 u0 u1 bK ⊢
    obtain ⟨gb', ob', e', _, _, hb3', hatb⟩ := HG.out.b.at_ (by omega)
    injection e' with e'
    injection e' with e'1 e'2
    subst e'1 e'2
    have hkl : k < sl.length := by rw [HL2.out]; exact hk2
    have hl4 : (ints (twosI sl)).length = sl.length * 2 := by rw [ints_length, twosI_length]
    obtain ⟨hy0, hv0⟩ := hatb (k * 2) _ (List.getElem?_eq_getElem (by rw [hl4]; omega))
    obtain ⟨hy1, hv1⟩ := hatb (k * 2 + 1) _ (List.getElem?_eq_getElem (by rw [hl4]; omega))
    generalize (ints (twosI sl))[k * 2]'(by rw [hl4]; omega) = y0 at hy0
    generalize (ints (twosI sl))[k * 2 + 1]'(by rw [hl4]; omega) = y1 at hy1
    have Y0 := Lib.hid hy0
    have Y1 := Lib.hid (show X3.cell? ⟨gb, ob + k * 2 + 1, none⟩ = some y1 from hy1)
    have V0 := Lib.hid hv0
    have V1 := Lib.hid (show X3.frozen? ⟨gb, ob + k * 2 + 1, none⟩ = false from hv1)
    have HS := Lib.hid (show ∀ w', Keep 0 0 X3 w' → w'.cell? ⟨w1.heap.size, 0, none⟩ = some (.slice (some ⟨ga, oa, none⟩) n1 c1) ∧ w'.cell? ⟨w1.heap.size, 1, none⟩ = some (.slice (some ⟨gb, ob, none⟩) m1 d1) ∧ w'.cell? ⟨gi, oi + k * 2, none⟩ = some (.int .i64 i0) ∧ w'.cell? ⟨gi, oi + k * 2 + 1, none⟩ = some (.int .i64 i1) from fun w' h => ⟨h.cells zb3 t0.out, h.cells zb3 t1.out, h.cells bK u0.out, h.cells bK u1.out⟩)
    have HB := Lib.hid (show ∀ (w' : World) (u v : Value), (w'.cell? ⟨w1.heap.size, 0, none⟩ = some (.slice (some ⟨ga, oa, none⟩) n1 c1) ∧ w'.cell? ⟨w1.heap.size, 1, none⟩ = some (.slice (some ⟨gb, ob, none⟩) m1 d1) ∧ w'.cell? ⟨gi, oi + k * 2, none⟩ = some (.int .i64 i0) ∧ w'.cell? ⟨gi, oi + k * 2 + 1, none⟩ = some (.int .i64 i1)) →
        ((w'.setCell ⟨gb, ob + k * 2, none⟩ u).setCell ⟨gb, ob + k * 2 + 1, none⟩ v).cell? ⟨w1.heap.size, 0, none⟩ = some (.slice (some ⟨ga, oa, none⟩) n1 c1) ∧ ((w'.setCell ⟨gb, ob + k * 2, none⟩ u).setCell ⟨gb, ob + k * 2 + 1, none⟩ v).cell? ⟨w1.heap.size, 1, none⟩ = some (.slice (some ⟨gb, ob, none⟩) m1 d1) ∧ ((w'.setCell ⟨gb, ob + k * 2, none⟩ u).setCell ⟨gb, ob + k * 2 + 1, none⟩ v).cell? ⟨gi, oi + k * 2, none⟩ = some (.int .i64 i0) ∧ ((w'.setCell ⟨gb, ob + k * 2, none⟩ u).setCell ⟨gb, ob + k * 2 + 1, none⟩ v).cell? ⟨gi, oi + k * 2 + 1, none⟩ = some (.int .i64 i1) from fun w' u v h =>
      have hne : gb ≠ w1.heap.size := by omega
      have hne2 : gb ≠ gi := by omega
      ⟨(World.cell?_setCell_far _ _ _ _ hne).trans ((World.cell?_setCell_far _ _ _ _ hne).trans h.1), (World.cell?_setCell_far _ _ _ _ hne).trans ((World.cell?_setCell_far _ _ _ _ hne).trans h.2.1), (World.cell?_setCell_far _ _ _ _ hne2).trans ((World.cell?_setCell_far _ _ _ _ hne2).trans h.2.2.1), (World.cell?_setCell_far _ _ _ _ hne2).trans ((World.cell?_setCell_far _ _ _ _ hne2).trans h.2.2.2)⟩)
    have KD := (Keep.refl 0 0 X3).drew
    clear hatb hy0 hy1 hv0 hv1 hkl hl4
    go_region_held3 (fun w' => w'.cell? ⟨w1.heap.size, 0, none⟩ = some (.slice (some ⟨ga, oa, none⟩) n1 c1) ∧ w'.cell? ⟨w1.heap.size, 1, none⟩ = some (.slice (some ⟨gb, ob, none⟩) m1 d1) ∧ w'.cell? ⟨gi, oi + k * 2, none⟩ = some (.int .i64 i0) ∧ w'.cell? ⟨gi, oi + k * 2 + 1, none⟩ = some (.int .i64 i1))
      (first | (with_reducible exact HS.out _ KD) | (exact HS.out _ (KD.tr0 k4)) | (refine HB.out _ _ _ ?_; with_reducible assumption) | fail)
      (first
        | (go_at_call 81; refine (implComposeSlot_to _ _ _ outer i0 i1 x0 x1 (RO.out.keep (KZ.tr0 KD) z4 (.inr (Nat.le_refl 0))) (Nat.le_trans z4 (KZ.tr0 KD).size) HW.out).mono ?_; rintro e X4 ⟨rfl, k4⟩; have y0' := (KD.tr0 k4).cells hb3' Y0.out; have y1' := (KD.tr0 k4).cells hb3' Y1.out; have v0' := (KD.tr0 k4).free hb3' V0.out; have v1' := (KD.tr0 k4).free hb3' V1.out)
        | fail)
    have K4 := KD.tr0 k4
    have K5 := KZ.tr0 K4
    have kB : Keep gb (gb + 1) X4 ((X4.setCell ⟨gb, ob + k * 2, none⟩ (.int .i64 x0)).setCell ⟨gb, ob + k * 2 + 1, none⟩ (.int .i64 x1)) :=
      ((Keep.refl gb (gb + 1) X4).setCell (p := ⟨gb, ob + k * 2, none⟩) (.inl ⟨Nat.le_refl _, Nat.lt_succ_self _⟩) _).setCell (p := ⟨gb, ob + k * 2 + 1, none⟩) (.inl ⟨Nat.le_refl _, Nat.lt_succ_self _⟩) _
    have HH := Lib.hid (show Duo ((X4.setCell ⟨gb, ob + k * 2, none⟩ (.int .i64 x0)).setCell ⟨gb, ob + k * 2 + 1, none⟩ (.int .i64 x1)) (w.heap.size + 2) w1.heap.size (.slice (some ⟨ga, oa, none⟩) n1 c1) (.slice (some ⟨gb, ob, none⟩) m1 d1) (bols (ks.set k true)) (ints (twosI (sl.set k (x0, x1)))) from by
      rw [← twos_set sl k x0 x1 (by rw [HL2.out]; exact hk2)]
      exact ((HG.out.keep K4 (.inr (.inr (Nat.le_refl 0)))).set_b (j := k * 2) (by omega) (.int .i64 x0)).set_b (j := k * 2 + 1) (by omega) (.int .i64 x1))
    have zs4 := Nat.lt_of_lt_of_le zs3 K4.size
    have zb4 := Nat.lt_of_lt_of_le zb3 K4.size
    have c0 := (kB.cell (p := ⟨w1.heap.size, 0, none⟩) zb4 (by show w1.heap.size < gb ∨ gb + 1 ≤ w1.heap.size; omega)).trans (K4.cells zb3 t0.out)
    have c1' := (kB.cell (p := ⟨w1.heap.size, 1, none⟩) zb4 (by show w1.heap.size < gb ∨ gb + 1 ≤ w1.heap.size; omega)).trans (K4.cells zb3 t1.out)
    have q0 := (kB.cell (p := ⟨w.heap.size + 1, 0, none⟩) zs4 (.inl hgb)).trans (K4.cells zs3 t2.out)
    have q1 := (kB.cell (p := ⟨w.heap.size + 1, 1, none⟩) zs4 (.inl hgb)).trans (K4.cells zs3 t3.out)
    have e0 := (kB.frozen (p := ⟨w.heap.size + 1, 0, none⟩) zs4 (.inl hgb)).trans (K4.free zs3 t4.out)
    have e1 := (kB.frozen (p := ⟨w.heap.size + 1, 1, none⟩) zs4 (.inl hgb)).trans (K4.free zs3 t5.out)
    have KE := K5.trm kB (by omega)
    have HXS := Lib.hid (Nat.lt_of_lt_of_le zs4 kB.size)
    clear u0 u1 bK
    clear kB K4 K5 KD k4 y0' y1' v0' v1' t0 t1 t2 t3 t4 t5 zs3 zs4 zb3 zb4 HG KZ
    generalize (X4.setCell ⟨gb, ob + k * 2, none⟩ (.int .i64 x0)).setCell ⟨gb, ob + k * 2 + 1, none⟩ (.int .i64 x1) = X5 at HH c0 c1' q0 q1 e0 e1 KE HXS ⊢
    go_wp2
    refine bodyPost_ret (v := .agg #[.slice (some ⟨ga, oa, none⟩) n1 c1, .slice (some ⟨gb, ob, none⟩) m1 d1]) (by simp [results, Try.results48, go_sem, q0, q1]) rfl ?_
    rw [HF.out]
    exact ⟨_, _, rfl, forget_end KE HH.out HXS.out⟩
end Go.Proofs.Ytcoipfnphmealaa
