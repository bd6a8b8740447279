/-
  Contracts of Forget, the program's and the reference's.
-/
import Derived.Test.YtcoipfnphmealaaCopy
import Derived.Test.YtcoipfnphmealaaComp
import Derived.Deep.Cut
namespace Go.Proofs.Ytcoipfnphmealaa
open Go.RowKit

section
variable {w : World} {lo hi g off n c j : Nat} {va vb : Value} {cs ds : List Value}
theorem Duo.set_a (h : Duo w lo hi (.slice (some ⟨g, off, none⟩) n c) vb cs ds) (hn : 0 < n) (u : Value) : Duo (w.setCell ⟨g, off + j, none⟩ u) lo hi (.slice (some ⟨g, off, none⟩) n c) vb (cs.set j u) ds := by
  obtain ⟨m, h1, h2, ⟨h3, h4⟩ | ⟨h3, h4⟩⟩ := h
  · obtain ⟨g', off', e, h5, h6, _⟩ := h3.at_ hn
    injection e with e; injection e with e1 e2; subst e1 e2
    exact ⟨m, h1, h2, .inl ⟨h3.set_ j u, h4.keep (lo' := g) (hi' := g + 1) ((Keep.refl g (g + 1) w).setCell (p := ⟨g, off + j, none⟩) (.inl ⟨Nat.le_refl _, Nat.lt_succ_self _⟩) u) (by omega)⟩⟩
  · obtain ⟨g', off', e, h5, h6, _⟩ := h3.at_ hn
    injection e with e; injection e with e1 e2; subst e1 e2
    exact ⟨m, h1, h2, .inr ⟨h3.set_ j u, h4.keep (lo' := g) (hi' := g + 1) ((Keep.refl g (g + 1) w).setCell (p := ⟨g, off + j, none⟩) (.inl ⟨Nat.le_refl _, Nat.lt_succ_self _⟩) u) (by omega)⟩⟩
theorem Duo.set_b (h : Duo w lo hi va (.slice (some ⟨g, off, none⟩) n c) cs ds) (hn : 0 < n) (u : Value) : Duo (w.setCell ⟨g, off + j, none⟩ u) lo hi va (.slice (some ⟨g, off, none⟩) n c) cs (ds.set j u) := by
  obtain ⟨m, h1, h2, ⟨h4, h3⟩ | ⟨h4, h3⟩⟩ := h
  · obtain ⟨g', off', e, h5, h6, _⟩ := h3.at_ hn
    injection e with e; injection e with e1 e2; subst e1 e2
    exact ⟨m, h1, h2, .inl ⟨h4.keep (lo' := g) (hi' := g + 1) ((Keep.refl g (g + 1) w).setCell (p := ⟨g, off + j, none⟩) (.inl ⟨Nat.le_refl _, Nat.lt_succ_self _⟩) u) (by omega), h3.set_ j u⟩⟩
  · obtain ⟨g', off', e, h5, h6, _⟩ := h3.at_ hn
    injection e with e; injection e with e1 e2; subst e1 e2
    exact ⟨m, h1, h2, .inr ⟨h4.keep (lo' := g) (hi' := g + 1) ((Keep.refl g (g + 1) w).setCell (p := ⟨g, off + j, none⟩) (.inl ⟨Nat.le_refl _, Nat.lt_succ_self _⟩) u) (by omega), h3.set_ j u⟩⟩
end
theorem Duo.cast {w : World} {lo hi : Nat} {va vb : Value} {P : List Bool × List Two} {RK : List Bool} {RL : List Two} (h : Duo w lo hi va vb (bols P.1) (ints (twosI P.2))) (e : P = (RK, RL)) : Duo w lo hi va vb (bols RK) (ints (twosI RL)) := by
  subst e
  exact h
theorem bols_set (ks : List Bool) (k : Nat) (b : Bool) : (bols ks).set k (.bool b) = bols (ks.set k b) := by simp [bols, List.map_set]
theorem twos_set (l : List Two) (k : Nat) (a b : Int) (h : k < l.length) : ((ints (twosI l)).set (k * 2) (.int .i64 a)).set (k * 2 + 1) (.int .i64 b) = ints (twosI (l.set k (a, b))) := by
  induction l generalizing k with
  | nil => simp at h
  | cons x l ih =>
    have e (y : Two) (l : List Two) : ints (twosI (y :: l)) = .int .i64 y.1 :: .int .i64 y.2 :: ints (twosI l) := rfl
    cases k with
    | zero => rw [List.set_cons_zero, e, e]; rfl
    | succ k =>
      rw [List.set_cons_succ, e, e, show (k + 1) * 2 = k * 2 + 1 + 1 from by omega, show k * 2 + 1 + 1 + 1 = (k * 2 + 1) + 1 + 1 from rfl, List.set_cons_succ, List.set_cons_succ, List.set_cons_succ, List.set_cons_succ, ih k (by simpa using h)]
/-- A page that is asked for lies in both lists. -/
def inBoth (n m : Nat) (p : Int) : Bool := inB p 0 ((n : Int) - 1) && inB p 0 ((m : Int) - 1)
def forgetT (ks : List Bool) (sl : List Two) (p : Int) : List Bool × List Two := if inBoth ks.length sl.length p then (ks.set p.toNat false, sl.set p.toNat (-1, 0)) else (ks, sl)
theorem forgetT_length (ks : List Bool) (sl : List Two) (p : Int) : (forgetT ks sl p).1.length = ks.length ∧ (forgetT ks sl p).2.length = sl.length := by
  unfold forgetT
  split <;> simp
theorem inBoth_t {n m k : Nat} (h1 : k < n) (h2 : k < m) : inBoth n m (k : Int) = true := by unfold inBoth; rw [inB_t (by omega) (by omega), inB_t (by omega) (by omega)]; rfl
theorem page_cases (n m : Nat) (p : Int) : (∃ k : Nat, p = k ∧ k < n ∧ k < m ∧ inBoth n m p = true) ∨ (∃ k : Nat, p = k ∧ k < n ∧ m ≤ k ∧ inB p 0 ((n : Int) - 1) = true ∧ inB p 0 ((m : Int) - 1) = false ∧ inBoth n m p = false) ∨ (inB p 0 ((n : Int) - 1) = false ∧ inBoth n m p = false) := by
  rcases inB_cases p 0 ((n : Int) - 1) with ⟨h, h1, h2⟩ | ⟨h, _⟩
  · obtain ⟨k, rfl⟩ := Int.eq_ofNat_of_zero_le h1
    rcases Nat.lt_or_ge k m with h3 | h3
    · exact .inl ⟨k, rfl, by omega, h3, inBoth_t (by omega) h3⟩
    · have h4 : inB (k : Int) 0 ((m : Int) - 1) = false := inB_f2 (by omega)
      exact .inr (.inl ⟨k, rfl, by omega, h3, h, h4, by unfold inBoth; rw [h4, Bool.and_false]⟩)
  · exact .inr (.inr ⟨h, by unfold inBoth; rw [h]; rfl⟩)
set_option maxHeartbeats 1000000 in
theorem l07Has_any (A : Option Addr) (n c : Nat) (B : Option Addr) (m d : Nat) (p : Int) (w : World) (hn : n ≤ 9223372036854775807) : Calls Try.prog 120 #[.agg #[.slice A n c, .slice B m d], .int .i64 p] w fun e w' => e = .returned (.bool (inBoth n m p)) ∧ Keep 0 0 w w' := by
  rcases page_cases n m p with ⟨k, rfl, h1, h2, h3⟩ | ⟨k, rfl, h1, h2, h3, h4, h5⟩ | ⟨h1, h2⟩
  · have H3 := Lib.hid h3
    have h5 : inB (k : Int) 0 ((n : Int) - 1) = true := inB_t (by omega) (by omega)
    have h6 : decide ((k : Int) < (m : Int)) = true := by simp; omega
    clear h3
    go_enter Try.func120, Try.ntmps120
    go_wp2_with (go_at_call 72; refine (l01In_any _ _ _ _).mono ?_; rintro e w' ⟨rfl, rfl⟩)
    go_ret
    exact ⟨by rw [H3.out]; rfl, keep_1 _ _⟩
  · have H5 := Lib.hid h5
    have h6 : decide ((k : Int) < (m : Int)) = false := by simp; omega
    have h7 : decide (k < m) = false := by simp; omega
    clear h4 h5
    go_enter Try.func120, Try.ntmps120
    go_wp2_with (go_at_call 72; refine (l01In_any _ _ _ _).mono ?_; rintro e w' ⟨rfl, rfl⟩)
    go_ret
    exact ⟨by rw [H5.out]; rfl, keep_1 _ _⟩
  · have H2 := Lib.hid h2
    clear h2
    go_enter Try.func120, Try.ntmps120
    go_wp2_with (go_at_call 72; refine (l01In_any _ _ _ _).mono ?_; rintro e w' ⟨rfl, rfl⟩)
    go_ret
    exact ⟨by rw [H2.out]; rfl, keep_1 _ _⟩
theorem forget_end {w X : World} {C D : Option Addr} {n1 c1 m1 d1 hi : Nat} {cs ds : List Value} (KY : Keep 0 0 w X) (hd : Duo X (w.heap.size + 2) hi (.slice C n1 c1) (.slice D m1 d1) cs ds) (hx : w.heap.size + 1 < X.heap.size) :
    Duo ((X.setCell ⟨w.heap.size + 1, 0, none⟩ (.slice C n1 c1)).setCell ⟨w.heap.size + 1, 1, none⟩ (.slice D m1 d1)) w.heap.size ((X.setCell ⟨w.heap.size + 1, 0, none⟩ (.slice C n1 c1)).setCell ⟨w.heap.size + 1, 1, none⟩ (.slice D m1 d1)).heap.size (.slice C n1 c1) (.slice D m1 d1) cs ds ∧
    Keep 0 0 w ((X.setCell ⟨w.heap.size + 1, 0, none⟩ (.slice C n1 c1)).setCell ⟨w.heap.size + 1, 1, none⟩ (.slice D m1 d1)) := by
  have kT : Keep (w.heap.size + 1) (w.heap.size + 2) X ((X.setCell ⟨w.heap.size + 1, 0, none⟩ (.slice C n1 c1)).setCell ⟨w.heap.size + 1, 1, none⟩ (.slice D m1 d1)) :=
    ((Keep.refl (w.heap.size + 1) (w.heap.size + 2) X).setCell (p := ⟨w.heap.size + 1, 0, none⟩) (.inl ⟨Nat.le_refl _, Nat.lt_succ_self _⟩) _).setCell (p := ⟨w.heap.size + 1, 1, none⟩) (.inl ⟨Nat.le_refl _, Nat.lt_succ_self _⟩) _
  have h1 := duo_of (hd.a.clip.mono (Nat.le_refl _) (Nat.le_refl _)) (hd.b.clip) (by omega)
  exact ⟨(h1.keep kT (by omega)).mono (by omega) kT.size, KY.trm kT (by omega)⟩
set_option maxRecDepth 100000 in
set_option maxHeartbeats 8000000 in
theorem implForget_any (w : World) (h1 h2 : Nat) (va vb : Value) (ks : List Bool) (sl : List Two) (p : Int) (ra : Rd w h1 1 va (bols ks)) (rb : Rd w h2 2 vb (ints (twosI sl))) (z1 : h1 ≤ w.heap.size) (z2 : h2 ≤ w.heap.size) (hx1 : ks.length ≤ 1048576) (hx2 : (twosI sl).length ≤ 2097152) :
    Calls Try.prog 83 #[.agg #[va, vb], .int .i64 p] w fun e w' => ∃ vc vd, e = .returned (.agg #[vc, vd]) ∧ Duo w' w.heap.size w'.heap.size vc vd (bols (forgetT ks sl p).1) (ints (twosI (forgetT ks sl p).2)) ∧ Keep 0 0 w w' := by
  obtain ⟨A, n, c, rfl, _, hcm, hl1, _⟩ := id ra
  obtain ⟨B, m, d, rfl, _, hdm, hl2, _⟩ := id rb
  rw [bols_length, Nat.mul_one] at hl1
  rw [ints_length, twosI_length] at hl2
  have HL1 := Lib.hid hl1
  have HL2 := Lib.hid (show sl.length = m from by omega)
  have KW := keep_2 w (.cells #[.slice A n c, .slice B m d] 55) (.cells #[.slice none 0 0, .slice none 0 0] 55)
  have ra1 := ra.keep KW z1 (.inr (Nat.le_refl 0))
  have rb1 := rb.keep KW z2 (.inr (Nat.le_refl 0))
  have HP := Lib.hid (page_cases n m p)
  clear hl1 hl2 ra rb
  go_enter Try.func83, Try.ntmps83
  go_wp2_with fail
  refine (implcopy_any _ _ _ _ _ ks _ ra1 rb1 (Nat.le_trans z1 KW.size) (Nat.le_trans z2 KW.size) hx1 hx2).mono ?_
  rintro e w1 ⟨vc, vd, rfl, hd, k1⟩
  obtain ⟨C, n1, c1, rfl⟩ := hd.a.slice
  obtain ⟨D, m1, d1, rfl⟩ := hd.b.slice
  have hn1 : n1 = n := by have := hd.a.len.1; rw [bols_length, HL1.out] at this; omega
  have hm1 : m1 = m := by have := hd.b.len.1; rw [ints_length, twosI_length, HL2.out] at this; omega
  subst hn1 hm1
  have lc := hd.a.len.2
  have ld := hd.b.len.2
  unfold maxLen at lc ld
  have hn9 : n1 ≤ 9223372036854775807 := by omega
  have hm9 : m1 ≤ 9223372036854775807 := by omega
  have hs1 := k1.size
  simp at hs1
  have KA := k1.alloc (.cells #[.slice C n1 c1, .slice D m1 d1] 55)
  have b0 := KA.cells (q := w.heap.size) (j := 0) (v := .slice A n1 c) (by simp; omega) (by first | go_cell | (simp [go_sem]; done))
  have b1 := KA.cells (q := w.heap.size) (j := 1) (v := .slice B m1 d) (by simp; omega) (by first | go_cell | (simp [go_sem]; done))
  have q0 := KA.cells (q := w.heap.size + 1) (j := 0) (v := .slice none 0 0) (by simp) (by first | go_cell | (simp [go_sem]; done))
  have q1 := KA.cells (q := w.heap.size + 1) (j := 1) (v := .slice none 0 0) (by simp) (by first | go_cell | (simp [go_sem]; done))
  have e0 := KA.free (q := w.heap.size + 1) (j := 0) (by simp) (by first | (simp [go_sem]; done) | simp)
  have e1 := KA.free (q := w.heap.size + 1) (j := 1) (by simp) (by first | (simp [go_sem]; done) | simp)
  have hsz := show ((w.alloc (.cells #[.slice A n1 c, .slice B m1 d] 55)).alloc (.cells #[.slice none 0 0, .slice none 0 0] 55)).heap.size = w.heap.size + 2 from by simp
  rw [hsz] at hd
  have c0 : (w1.alloc (.cells #[.slice C n1 c1, .slice D m1 d1] 55)).cell? ⟨w1.heap.size, 0, none⟩ = some (.slice C n1 c1) := by go_cell
  have c1' : (w1.alloc (.cells #[.slice C n1 c1, .slice D m1 d1] 55)).cell? ⟨w1.heap.size, 1, none⟩ = some (.slice D m1 d1) := by go_cell
  have KY := KW.tr0 KA
  have HE := Lib.hid (hd.keep (keep_1 w1 (.cells #[.slice C n1 c1, .slice D m1 d1] 55)) (.inr (.inr (Nat.le_refl 0))))
  have HXS := Lib.hid (show w.heap.size + 1 < (w1.alloc (.cells #[.slice C n1 c1, .slice D m1 d1] 55)).heap.size from by simp; omega)
  have zb : w1.heap.size < (w1.alloc (.cells #[.slice C n1 c1, .slice D m1 d1] 55)).heap.size := by simp
  clear hsz k1 ra1 rb1 hd KA
  go_upto_region 2 with (fail)
  generalize w1.alloc (.cells #[.slice C n1 c1, .slice D m1 d1] 55) = X at b0 b1 q0 q1 e0 e1 c0 c1' KY HE HXS zb ⊢
  rcases HP.out with ⟨k, rfl, hk1, hk2, hk3⟩ | hno
  rotate_left
  · have hno2 : inBoth n1 m1 p = false := by rcases hno with ⟨k, rfl, _, _, _, _, h⟩ | ⟨_, h⟩ <;> exact h
    have HF := Lib.hid (show forgetT ks sl p = (ks, sl) from by unfold forgetT; rw [HL1.out, HL2.out, hno2]; rfl)
    clear hno2
    rcases hno with ⟨k, rfl, hk1, hk2, hia, hib, _⟩ | ⟨hia, _⟩
    all_goals
      go_wp2_with (go_at_call 74; refine (has_any _ _ _).mono ?_; rintro e w' ⟨rfl, rfl⟩)
      refine bodyPost_ret (v := .agg #[.slice C n1 c1, .slice D m1 d1]) (by simp [results, Try.results83, go_sem, q0, q1]) rfl ?_
      rw [HF.out]
      exact ⟨_, _, rfl, forget_end KY HE.out HXS.out⟩
  · have HF := Lib.hid (show forgetT ks sl (k : Int) = (ks.set k false, sl.set k (-1, 0)) from by unfold forgetT; rw [HL1.out, HL2.out, hk3]; rfl)
    have hia : inB (k : Int) 0 ((n1 : Int) - 1) = true := inB_t (by omega) (by omega)
    have hib : inB (k : Int) 0 ((m1 : Int) - 1) = true := inB_t (by omega) (by omega)
    have HEa := HE.out.a
    obtain ⟨ga, oa, rfl, ha1, ha2, ha3, hata⟩ := HEa.at_ (by omega)
    obtain ⟨hca, hfa⟩ := hata k _ (bols_get ks k (by rw [HL1.out]; exact hk1))
    generalize ks[k]'(by rw [HL1.out]; exact hk1) = bk at hca
    obtain ⟨gb, ob, rfl, hb1, hb2, hb3, hatb⟩ := HE.out.b.at_ (by omega)
    have hga : w.heap.size + 1 < ga := by omega
    have hgb : w.heap.size + 1 < gb := by omega
    have kA : Keep ga (ga + 1) X (X.setCell ⟨ga, oa + k, none⟩ (.bool false)) := (Keep.refl ga (ga + 1) X).setCell (p := ⟨ga, oa + k, none⟩) (.inl ⟨Nat.le_refl _, Nat.lt_succ_self _⟩) _
    have HG := Lib.hid (show Duo (X.setCell ⟨ga, oa + k, none⟩ (.bool false)) (w.heap.size + 2) w1.heap.size (.slice (some ⟨ga, oa, none⟩) n1 c1) (.slice (some ⟨gb, ob, none⟩) m1 d1) (bols (ks.set k false)) (ints (twosI sl)) from by rw [← bols_set]; exact HE.out.set_a (by omega) _)
    have KZ := KY.trm kA (by omega)
    have zs := HXS.out
    have t0 := Lib.hid ((kA.cell (p := ⟨w1.heap.size, 0, none⟩) zb (by show w1.heap.size < ga ∨ ga + 1 ≤ w1.heap.size; omega)).trans c0)
    have t1 := Lib.hid ((kA.cell (p := ⟨w1.heap.size, 1, none⟩) zb (by show w1.heap.size < ga ∨ ga + 1 ≤ w1.heap.size; omega)).trans c1')
    have t2 := Lib.hid ((kA.cell (p := ⟨w.heap.size + 1, 0, none⟩) zs (.inl hga)).trans q0)
    have t3 := Lib.hid ((kA.cell (p := ⟨w.heap.size + 1, 1, none⟩) zs (.inl hga)).trans q1)
    have t4 := Lib.hid ((kA.frozen (p := ⟨w.heap.size + 1, 0, none⟩) zs (.inl hga)).trans e0)
    have t5 := Lib.hid ((kA.frozen (p := ⟨w.heap.size + 1, 1, none⟩) zs (.inl hga)).trans e1)
    have zs3 := Nat.lt_of_lt_of_le zs kA.size
    have zb3 := Nat.lt_of_lt_of_le zb kA.size
    clear hata hatb kA KY HEa
    go_wp2_with (go_at_call 74; refine (has_any _ _ _).mono ?_; rintro e w' ⟨rfl, rfl⟩)
    clear hca hfa c0 c1' q0 q1 e0 e1 HE zs HXS zb
    generalize X.setCell ⟨ga, oa + k, none⟩ (.bool false) = X3 at HG KZ t0 t1 t2 t3 t4 t5 zs3 zb3 ⊢
    obtain ⟨gb', ob', e', _, _, hb3', hatb⟩ := HG.out.b.at_ (by omega)
    injection e' with e'
    injection e' with e'1 e'2
    subst e'1 e'2
    have hkl : k < sl.length := by rw [HL2.out]; exact hk2
    have hl4 : (ints (twosI sl)).length = sl.length * 2 := by rw [ints_length, twosI_length]
    obtain ⟨hy0, hv0⟩ := hatb (k * 2) _ (List.getElem?_eq_getElem (by rw [hl4]; omega))
    obtain ⟨hy1, hv1⟩ := hatb (k * 2 + 1) _ (List.getElem?_eq_getElem (by rw [hl4]; omega))
    generalize (ints (twosI sl))[k * 2]'(by rw [hl4]; omega) = y0 at hy0
    generalize (ints (twosI sl))[k * 2 + 1]'(by rw [hl4]; omega) = y1 at hy1
    have Y0 := Lib.hid hy0
    have Y1 := Lib.hid (show X3.cell? ⟨gb, ob + k * 2 + 1, none⟩ = some y1 from hy1)
    have V0 := Lib.hid hv0
    have V1 := Lib.hid (show X3.frozen? ⟨gb, ob + k * 2 + 1, none⟩ = false from hv1)
    have HS := Lib.hid (show ∀ w', Keep 0 0 X3 w' → w'.cell? ⟨w1.heap.size, 0, none⟩ = some (.slice (some ⟨ga, oa, none⟩) n1 c1) ∧ w'.cell? ⟨w1.heap.size, 1, none⟩ = some (.slice (some ⟨gb, ob, none⟩) m1 d1) from fun w' h => ⟨h.cells zb3 t0.out, h.cells zb3 t1.out⟩)
    have HB := Lib.hid (show ∀ (w' : World) (u v : Value), (w'.cell? ⟨w1.heap.size, 0, none⟩ = some (.slice (some ⟨ga, oa, none⟩) n1 c1) ∧ w'.cell? ⟨w1.heap.size, 1, none⟩ = some (.slice (some ⟨gb, ob, none⟩) m1 d1)) →
        ((w'.setCell ⟨gb, ob + k * 2, none⟩ u).setCell ⟨gb, ob + k * 2 + 1, none⟩ v).cell? ⟨w1.heap.size, 0, none⟩ = some (.slice (some ⟨ga, oa, none⟩) n1 c1) ∧ ((w'.setCell ⟨gb, ob + k * 2, none⟩ u).setCell ⟨gb, ob + k * 2 + 1, none⟩ v).cell? ⟨w1.heap.size, 1, none⟩ = some (.slice (some ⟨gb, ob, none⟩) m1 d1) from fun w' u v h =>
      have hne : gb ≠ w1.heap.size := by omega
      ⟨(World.cell?_setCell_far _ _ _ _ hne).trans ((World.cell?_setCell_far _ _ _ _ hne).trans h.1), (World.cell?_setCell_far _ _ _ _ hne).trans ((World.cell?_setCell_far _ _ _ _ hne).trans h.2)⟩)
    have KD := (Keep.refl 0 0 X3).drew
    clear hatb hy0 hy1 hv0 hv1 hkl hl4
    go_region_held3 (fun w' => w'.cell? ⟨w1.heap.size, 0, none⟩ = some (.slice (some ⟨ga, oa, none⟩) n1 c1) ∧ w'.cell? ⟨w1.heap.size, 1, none⟩ = some (.slice (some ⟨gb, ob, none⟩) m1 d1))
      (first | (with_reducible exact HS.out _ KD) | (exact HS.out _ (KD.tr0 k4)) | (refine HB.out _ _ _ ?_; with_reducible assumption) | fail)
      (first
        | (go_at_call 82; refine (implNoSlot_any _).mono ?_; rintro e X4 ⟨rfl, k4⟩; have y0' := (KD.tr0 k4).cells hb3' Y0.out; have y1' := (KD.tr0 k4).cells hb3' Y1.out; have v0' := (KD.tr0 k4).free hb3' V0.out; have v1' := (KD.tr0 k4).free hb3' V1.out)
        | fail)
    have K4 := KD.tr0 k4
    have K5 := KZ.tr0 K4
    have kB : Keep gb (gb + 1) X4 ((X4.setCell ⟨gb, ob + k * 2, none⟩ (.int .i64 (-1))).setCell ⟨gb, ob + k * 2 + 1, none⟩ (.int .i64 0)) :=
      ((Keep.refl gb (gb + 1) X4).setCell (p := ⟨gb, ob + k * 2, none⟩) (.inl ⟨Nat.le_refl _, Nat.lt_succ_self _⟩) _).setCell (p := ⟨gb, ob + k * 2 + 1, none⟩) (.inl ⟨Nat.le_refl _, Nat.lt_succ_self _⟩) _
    have HH := Lib.hid (show Duo ((X4.setCell ⟨gb, ob + k * 2, none⟩ (.int .i64 (-1))).setCell ⟨gb, ob + k * 2 + 1, none⟩ (.int .i64 0)) (w.heap.size + 2) w1.heap.size (.slice (some ⟨ga, oa, none⟩) n1 c1) (.slice (some ⟨gb, ob, none⟩) m1 d1) (bols (ks.set k false)) (ints (twosI (sl.set k (-1, 0)))) from by
      rw [← twos_set sl k (-1) 0 (by rw [HL2.out]; exact hk2)]
      exact ((HG.out.keep K4 (.inr (.inr (Nat.le_refl 0)))).set_b (j := k * 2) (by omega) (.int .i64 (-1))).set_b (j := k * 2 + 1) (by omega) (.int .i64 0))
    have zs4 := Nat.lt_of_lt_of_le zs3 K4.size
    have zb4 := Nat.lt_of_lt_of_le zb3 K4.size
    have c0 := (kB.cell (p := ⟨w1.heap.size, 0, none⟩) zb4 (by show w1.heap.size < gb ∨ gb + 1 ≤ w1.heap.size; omega)).trans (K4.cells zb3 t0.out)
    have c1' := (kB.cell (p := ⟨w1.heap.size, 1, none⟩) zb4 (by show w1.heap.size < gb ∨ gb + 1 ≤ w1.heap.size; omega)).trans (K4.cells zb3 t1.out)
    have q0 := (kB.cell (p := ⟨w.heap.size + 1, 0, none⟩) zs4 (.inl hgb)).trans (K4.cells zs3 t2.out)
    have q1 := (kB.cell (p := ⟨w.heap.size + 1, 1, none⟩) zs4 (.inl hgb)).trans (K4.cells zs3 t3.out)
    have e0 := (kB.frozen (p := ⟨w.heap.size + 1, 0, none⟩) zs4 (.inl hgb)).trans (K4.free zs3 t4.out)
    have e1 := (kB.frozen (p := ⟨w.heap.size + 1, 1, none⟩) zs4 (.inl hgb)).trans (K4.free zs3 t5.out)
    have KE := K5.trm kB (by omega)
    have HXS := Lib.hid (Nat.lt_of_lt_of_le zs4 kB.size)
    clear kB K4 K5 KD k4 y0' y1' v0' v1' t0 t1 t2 t3 t4 t5 zs3 zs4 zb3 zb4 HG KZ
    generalize (X4.setCell ⟨gb, ob + k * 2, none⟩ (.int .i64 (-1))).setCell ⟨gb, ob + k * 2 + 1, none⟩ (.int .i64 0) = X5 at HH c0 c1' q0 q1 e0 e1 KE HXS ⊢
    go_wp2
    refine bodyPost_ret (v := .agg #[.slice (some ⟨ga, oa, none⟩) n1 c1, .slice (some ⟨gb, ob, none⟩) m1 d1]) (by simp [results, Try.results83, go_sem, q0, q1]) rfl ?_
    rw [HF.out]
    exact ⟨_, _, rfl, forget_end KE HH.out HXS.out⟩
end Go.Proofs.Ytcoipfnphmealaa
