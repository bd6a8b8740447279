/-
  Contracts of ForgetUses, the program's and the reference's.
-/
import Derived.Test.YtcoipfnphmealaaFold
import Derived.StillTailTactics
namespace Go.Proofs.Ytcoipfnphmealaa
open Go.RowKit
set_option maxRecDepth 100000 in
set_option maxHeartbeats 8000000 in
theorem implForgetUses_any (w : World) (h1 h2 h3 : Nat) (va vb vi : Value) (ks : List Bool) (sl inner : List Two) (p : Int) (ra : Rd w h1 1 va (bols ks)) (rb : Rd w h2 2 vb (ints (twosI sl))) (ri : Rd w h3 2 vi (ints (twosI inner))) (z1 : h1 ≤ w.heap.size) (z2 : h2 ≤ w.heap.size) (z3 : h3 ≤ w.heap.size) (hx1 : ks.length ≤ 1048576) (hx2 : (twosI sl).length ≤ 2097152) (hx3 : inner.length ≤ 1048576) :
    Calls Try.prog 57 #[.agg #[va, vb], vi, .int .i64 p] w fun e w' => ∃ vc vd, e = .returned (.agg #[vc, vd]) ∧ Duo w' w.heap.size w'.heap.size vc vd (bols (forgetL ks sl (usesT inner p)).1) (ints (twosI (forgetL ks sl (usesT inner p)).2)) ∧ Keep 0 0 w w' := by
  obtain ⟨A, n, c, rfl, _, hcm, hl1, _⟩ := id ra
  obtain ⟨B, m, d, rfl, _, hdm, hl2, _⟩ := id rb
  rw [bols_length, Nat.mul_one] at hl1
  rw [ints_length, twosI_length] at hl2
  have HL1 := Lib.hid hl1
  have HL2 := Lib.hid (show sl.length = m from by omega)
  have hn9 : n ≤ 1048576 := by omega
  have KW := keep_2 w (.cells #[.slice A n c, .slice B m d] 55) (.cells #[.slice none 0 0, .slice none 0 0] 55)
  have ra1 := ra.keep KW z1 (.inr (Nat.le_refl 0))
  have rb1 := rb.keep KW z2 (.inr (Nat.le_refl 0))
  have ri1 := ri.keep KW z3 (.inr (Nat.le_refl 0))
  have zi := Nat.le_trans z3 KW.size
  clear hl1 hl2 ra rb ri
  go_enter Try.func57, Try.ntmps57
  go_wp2_with fail
  refine (implcopy_any _ _ _ _ _ ks _ ra1 rb1 (Nat.le_trans z1 KW.size) (Nat.le_trans z2 KW.size) hx1 hx2).mono ?_
  rintro e w1 ⟨vc, vd, rfl, hd, k1⟩
  obtain ⟨C, n1, c1, rfl⟩ := hd.a.slice
  obtain ⟨D, m1, d1, rfl⟩ := hd.b.slice
  have hn1 : n1 = n := by have := hd.a.len.1; rw [bols_length, HL1.out] at this; omega
  have hm1 : m1 = m := by have := hd.b.len.1; rw [ints_length, twosI_length, HL2.out] at this; omega
  subst hn1 hm1
  have hs1 := k1.size
  simp at hs1
  have hsz := show (((w.alloc (.cells #[.slice A n1 c, .slice B m1 d] 55)).alloc (.cells #[.slice none 0 0, .slice none 0 0] 55))).heap.size = w.heap.size + 2 from by simp
  rw [hsz] at hd
  have ri2 := Lib.hid ((ri1.keep k1 zi (.inr (Nat.le_refl 0))).keep (keep_1 w1 (.cells #[.slice C n1 c1, .slice D m1 d1] 55)) (Nat.le_trans zi k1.size) (.inr (Nat.le_refl 0)))
  have KA := k1.alloc (.cells #[.slice C n1 c1, .slice D m1 d1] 55)
  have b0 := KA.cells (q := w.heap.size) (j := 0) (v := .slice A n1 c) (by simp; omega) (by first | go_cell | (simp [go_sem]; done))
  have b1 := KA.cells (q := w.heap.size) (j := 1) (v := .slice B m1 d) (by simp; omega) (by first | go_cell | (simp [go_sem]; done))
  have r0 := KA.cells (q := w.heap.size + 1) (j := 0) (v := .slice none 0 0) (by simp) (by first | go_cell | (simp [go_sem]; done))
  have r1 := KA.cells (q := w.heap.size + 1) (j := 1) (v := .slice none 0 0) (by simp) (by first | go_cell | (simp [go_sem]; done))
  have g0 := KA.free (q := w.heap.size + 1) (j := 0) (by simp) (by first | (simp [go_sem]; done) | simp)
  have g1 := KA.free (q := w.heap.size + 1) (j := 1) (by simp) (by first | (simp [go_sem]; done) | simp)
  have HH0 : Held w w1.heap.size (w.heap.size + 1) (w1.alloc (.cells #[.slice C n1 c1, .slice D m1 d1] 55)) (.slice C n1 c1) (.slice D m1 d1) ks sl :=
    ⟨by go_cell, by go_cell, by simp, by simp, r0, r1, g0, g1, (hd.keep (keep_1 w1 _) (.inr (.inr (Nat.le_refl 0)))).mono (Nat.le_refl _) (keep_1 w1 _).size, KW.tr0 KA, by simp, by simp; omega, by omega, by omega, by simp; omega⟩
  have HHH := Lib.hid HH0
  have HB0 := Lib.hid b0
  clear HH0 hsz k1 ra1 rb1 hd KW r0 r1 g0 g1 KA b0 b1
  go_wp2_with fail
  clear HB0
  generalize (w1.alloc (.cells #[.slice C n1 c1, .slice D m1 d1] 55)) = X at HHH ri2 ⊢
  refine (implUsesOf_any _ _ _ inner p ri2.out hx3).mono ?_
  rintro e X2 ⟨vu, rfl, hu, ku⟩
  have HH2 := Lib.hid (HHH.out.quiet ku)
  obtain ⟨U, nu, cu, rfl⟩ := hu.slice
  have hul := hu.len
  rw [ints_length, Nat.mul_one] at hul
  have HUL := Lib.hid hul.1
  have hu9 : nu ≤ 1048576 := by have := usesUpto_length inner p inner.length; have h2 := hul.1; unfold usesT at h2; omega
  have HU := Lib.hid hu
  have zu := ku.size
  have hlowX := Lib.hid HHH.out.hQ
  clear hul hu ku ri1 ri2 HHH
  go_wp2_with fail
  go_loopw [16] (fun i wr => ∃ (k : Nat) (va vb : Value) (js : List Bool) (tl : List Two), k ≤ nu ∧ i = .int .i64 k ∧ forgetL ks sl ((usesT inner p).take k) = (js, tl) ∧ Held w w1.heap.size (w.heap.size + 1) wr va vb js tl ∧ Row wr X.heap.size X2.heap.size 3 1 (.slice U nu cu) (ints (usesT inner p)) ∧ X2.heap.size ≤ wr.heap.size) (fun i _ => nu - (intOf i).toNat)
  case atStart => exact ⟨0, _, _, ks, sl, Nat.zero_le _, rfl, rfl, HH2.out, HU.out, Nat.le_refl _⟩
  case round =>
    obtain ⟨k, va, vb, js, tl, hk, rfl, hf, hh, hrow, hzz⟩ := hrel
    obtain ⟨E, n2, c2, rfl⟩ := hh.duo.a.slice
    obtain ⟨G, m2, d2, rfl⟩ := hh.duo.b.slice
    have hle := forgetL_length _ hf
    have hj := Lib.hid (show js.length ≤ 1048576 from by rw [hle.1]; exact hx1)
    have ht := Lib.hid (show (twosI tl).length ≤ 2097152 from by rw [twosI_length, hle.2, ← twosI_length]; exact hx2)
    have HF := Lib.hid hf
    have HH := Lib.hid hh
    have b0 := hh.b0
    have b1 := hh.b1
    have HR := Lib.hid hrow
    clear hf hle hh HH2 HU
    by_cases hlt : k < nu
    · obtain ⟨gu, ou, rfl, hu1, hu2, hu3, hat⟩ := hrow.at_ (by omega)
      have hkl : k < (usesT inner p).length := by rw [HUL.out]; exact hlt
      have cu0 := (hat k _ (ints_get _ k hkl)).1
      have HT := Lib.hid (List.take_succ_eq_append_getElem hkl)
      generalize (usesT inner p)[k]'hkl = y at cu0 HT
      clear hat hrow
      go_wp2_with fail
      refine (implForget_any _ _ _ _ _ js tl y HH.out.duo.a.rd HH.out.duo.b.rd (Nat.le_refl _) (Nat.le_refl _) hj.out ht.out).mono ?_
      rintro e w2 ⟨ve, vf, rfl, hd2, k2⟩
      clear b0 b1 cu0
      obtain ⟨E2, n3, c3, rfl⟩ := hd2.a.slice
      obtain ⟨G2, m3, d3, rfl⟩ := hd2.b.slice
      have HS := Lib.hid (HH.out.step k2 hd2)
      have HG := Lib.hid (show forgetL ks sl ((usesT inner p).take (k + 1)) = ((forgetT js tl y).1, (forgetT js tl y).2) from by rw [HT.out]; exact forgetL_snoc (p := y) HF.out)
      have kQ : Keep w1.heap.size (w1.heap.size + 1) w2 ((w2.setCell ⟨w1.heap.size, 0, none⟩ (.slice E2 n3 c3)).setCell ⟨w1.heap.size, 1, none⟩ (.slice G2 m3 d3)) :=
        ((Keep.refl (w1.heap.size) (w1.heap.size + 1) w2).setCell (p := ⟨w1.heap.size, 0, none⟩) (.inl ⟨Nat.le_refl _, Nat.lt_succ_self _⟩) _).setCell (p := ⟨w1.heap.size, 1, none⟩) (.inl ⟨Nat.le_refl _, Nat.lt_succ_self _⟩) _
      have hlx := hlowX.out
      have HRR := Lib.hid ((HR.out.keep k2 (.inr (.inr (Nat.le_refl 0)))).keep kQ (.inr (.inl (by omega))))
      have HZZ := Lib.hid (show X2.heap.size ≤ ((w2.setCell ⟨w1.heap.size, 0, none⟩ (.slice E2 n3 c3)).setCell ⟨w1.heap.size, 1, none⟩ (.slice G2 m3 d3)).heap.size from Nat.le_trans (Nat.le_trans hzz k2.size) kQ.size)
      have hq := HH.out.quiet k2
      have p0 := hq.b0
      have p1 := hq.b1
      have p2 := hq.f0
      have p3 := hq.f1
      clear hd2 k2 hq kQ hlx HR
      go_wp2
      go_roundw
      case rel => exact ⟨k + 1, _, _, _, _, by omega, by go_num, HG.out, HS.out, HRR.out, HZZ.out⟩
      case measure => simp [intOf]; omega
    · have hkn : nu ≤ k := by omega
      have q0 := HH.out.r0
      have q1 := HH.out.r1
      have q2 := HH.out.g0
      have q3 := HH.out.g1
      have HE := Lib.hid (forget_end HH.out.keep HH.out.duo (Nat.lt_of_lt_of_le (Nat.lt_of_lt_of_le (Nat.lt_succ_self _) HH.out.two) (Nat.le_refl _)))
      have HG := Lib.hid (show forgetL ks sl (usesT inner p) = (js, tl) from by rw [← HF.out, List.take_of_length_le (by rw [HUL.out]; exact hkn)])
      clear hlt hrow
      go_wp2
      refine bodyPost_ret (v := .agg #[.slice E n2 c2, .slice G m2 d2]) (by simp [results, Try.results57, go_sem, q0, q1]) rfl ?_
      rw [HG.out]
      exact ⟨_, _, rfl, HE.out⟩
end Go.Proofs.Ytcoipfnphmealaa
