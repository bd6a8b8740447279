/-
  Contracts of ForgetAll and ForgetUses: one page after another is forgotten.
-/
import Derived.Test.YtcoipfnphmealaaForget
import Derived.Test.YtcoipfnphmealaaUses
import Derived.Deep.QuietTactic
import Derived.BigQuiet
namespace Go.Proofs.Ytcoipfnphmealaa
open Go.RowKit

def forgetL (ks : List Bool) (sl : List Two) (ps : List Int) : List Bool × List Two := ps.foldl (fun s p => forgetT s.1 s.2 p) (ks, sl)
def pagesUpto (n : Nat) : List Int := (List.range n).map fun (i : Nat) => (i : Int)
theorem pagesUpto_succ (n : Nat) : pagesUpto (n + 1) = pagesUpto n ++ [(n : Int)] := by simp [pagesUpto, List.range_succ]
theorem forgetL_snoc {ks : List Bool} {sl : List Two} {ps : List Int} {p : Int} {ks' : List Bool} {sl' : List Two} (h : forgetL ks sl ps = (ks', sl')) : forgetL ks sl (ps ++ [p]) = ((forgetT ks' sl' p).1, (forgetT ks' sl' p).2) := by
  unfold forgetL at h ⊢
  rw [List.foldl_append, h]
  rfl
theorem forgetL_length {ks : List Bool} {sl : List Two} (ps : List Int) {ks' : List Bool} {sl' : List Two} (h : forgetL ks sl ps = (ks', sl')) : ks'.length = ks.length ∧ sl'.length = sl.length := by
  induction ps generalizing ks sl with
  | nil => injection h with h1 h2; subst h1 h2; exact ⟨rfl, rfl⟩
  | cons p ps ih =>
    have := ih (ks := (forgetT ks sl p).1) (sl := (forgetT ks sl p).2) h
    have h2 := forgetT_length ks sl p
    omega
theorem forgetL_lengths (ks : List Bool) (sl : List Two) (ps : List Int) : (forgetL ks sl ps).1.length = ks.length ∧ (forgetL ks sl ps).2.length = sl.length := forgetL_length ps rfl
/-- The state of a loop that forgets: the variable's block Q, the result's block R. -/
structure Held (w0 : World) (Q R : Nat) (wr : World) (va vb : Value) (ks : List Bool) (sl : List Two) : Prop where
  b0 : wr.cell? ⟨Q, 0, none⟩ = some va
  b1 : wr.cell? ⟨Q, 1, none⟩ = some vb
  f0 : wr.frozen? ⟨Q, 0, none⟩ = false
  f1 : wr.frozen? ⟨Q, 1, none⟩ = false
  r0 : wr.cell? ⟨R, 0, none⟩ = some (.slice none 0 0)
  r1 : wr.cell? ⟨R, 1, none⟩ = some (.slice none 0 0)
  g0 : wr.frozen? ⟨R, 0, none⟩ = false
  g1 : wr.frozen? ⟨R, 1, none⟩ = false
  duo : Duo wr (w0.heap.size + 2) wr.heap.size va vb (bols ks) (ints (twosI sl))
  keep : Keep 0 0 w0 wr
  hQ : Q < wr.heap.size
  hR : R < wr.heap.size
  ne : Q ≠ R
  low : w0.heap.size ≤ Q
  two : w0.heap.size + 2 ≤ wr.heap.size
section
variable {w0 wr w2 : World} {Q R : Nat} {va vb vc vd : Value} {ks ks' : List Bool} {sl sl' : List Two}
theorem Held.quiet (h : Held w0 Q R wr va vb ks sl) (k : Keep 0 0 wr w2) : Held w0 Q R w2 va vb ks sl :=
  ⟨k.cells h.hQ h.b0, k.cells h.hQ h.b1, k.free h.hQ h.f0, k.free h.hQ h.f1, k.cells h.hR h.r0, k.cells h.hR h.r1, k.free h.hR h.g0, k.free h.hR h.g1, (h.duo.keep k (.inr (.inr (Nat.le_refl 0)))).mono (Nat.le_refl _) k.size,
    h.keep.tr0 k, Nat.lt_of_lt_of_le h.hQ k.size, Nat.lt_of_lt_of_le h.hR k.size, h.ne, h.low, Nat.le_trans h.two k.size⟩
theorem Held.step (h : Held w0 Q R wr va vb ks sl) (k : Keep 0 0 wr w2) (hd : Duo w2 wr.heap.size w2.heap.size vc vd (bols ks') (ints (twosI sl'))) :
    Held w0 Q R ((w2.setCell ⟨Q, 0, none⟩ vc).setCell ⟨Q, 1, none⟩ vd) vc vd ks' sl' := by
  have h2 := h.quiet k
  have kS : Keep Q (Q + 1) w2 ((w2.setCell ⟨Q, 0, none⟩ vc).setCell ⟨Q, 1, none⟩ vd) :=
    ((Keep.refl Q (Q + 1) w2).setCell (p := ⟨Q, 0, none⟩) (.inl ⟨Nat.le_refl _, Nat.lt_succ_self _⟩) _).setCell (p := ⟨Q, 1, none⟩) (.inl ⟨Nat.le_refl _, Nat.lt_succ_self _⟩) _
  have hne := h.ne
  have hq := h.hQ
  have ht := h.two
  have ff : ∀ j, ((w2.setCell ⟨Q, 0, none⟩ vc).setCell ⟨Q, 1, none⟩ vd).frozen? ⟨Q, j, none⟩ = w2.frozen? ⟨Q, j, none⟩ := fun j => by rw [World.frozen?_setCell, World.frozen?_setCell]
  refine ⟨(World.cell?_setCell_other _ _ _ _ (by simp)).trans (World.cell?_setCell_same _ _ _ h2.b0), World.cell?_setCell_same _ _ _ ((World.cell?_setCell_other _ _ _ _ (by simp)).trans h2.b1), (ff 0).trans h2.f0, (ff 1).trans h2.f1,
    (kS.cell (p := ⟨R, 0, none⟩) h2.hR (by show R < Q ∨ Q + 1 ≤ R; omega)).trans h2.r0, (kS.cell (p := ⟨R, 1, none⟩) h2.hR (by show R < Q ∨ Q + 1 ≤ R; omega)).trans h2.r1,
    (kS.frozen (p := ⟨R, 0, none⟩) h2.hR (by show R < Q ∨ Q + 1 ≤ R; omega)).trans h2.g0, (kS.frozen (p := ⟨R, 1, none⟩) h2.hR (by show R < Q ∨ Q + 1 ≤ R; omega)).trans h2.g1,
    (hd.keep kS (.inr (.inl (by omega)))).mono ht kS.size, h2.keep.trm kS h.low, Nat.lt_of_lt_of_le h2.hQ kS.size, Nat.lt_of_lt_of_le h2.hR kS.size, hne, h.low, Nat.le_trans h2.two kS.size⟩
end
set_option maxRecDepth 100000 in
set_option maxHeartbeats 8000000 in
theorem implForgetAll_any (w : World) (h1 h2 : Nat) (va vb : Value) (ks : List Bool) (sl : List Two) (ra : Rd w h1 1 va (bols ks)) (rb : Rd w h2 2 vb (ints (twosI sl))) (z1 : h1 ≤ w.heap.size) (z2 : h2 ≤ w.heap.size) (hx1 : ks.length ≤ 1048576) (hx2 : (twosI sl).length ≤ 2097152) :
    Calls Try.prog 53 #[.agg #[va, vb]] w fun e w' => ∃ vc vd, e = .returned (.agg #[vc, vd]) ∧ Duo w' w.heap.size w'.heap.size vc vd (bols (forgetL ks sl (pagesUpto ks.length)).1) (ints (twosI (forgetL ks sl (pagesUpto ks.length)).2)) ∧ Keep 0 0 w w' := by
  obtain ⟨A, n, c, rfl, _, hcm, hl1, _⟩ := id ra
  obtain ⟨B, m, d, rfl, _, hdm, hl2, _⟩ := id rb
  rw [bols_length, Nat.mul_one] at hl1
  rw [ints_length, twosI_length] at hl2
  have HL1 := Lib.hid hl1
  have HL2 := Lib.hid (show sl.length = m from by omega)
  have hn9 : n ≤ 1048576 := by omega
  have KW := keep_2 w (.cells #[.slice A n c, .slice B m d] 55) (.cells #[.slice none 0 0, .slice none 0 0] 55)
  have ra1 := ra.keep KW z1 (.inr (Nat.le_refl 0))
  have rb1 := rb.keep KW z2 (.inr (Nat.le_refl 0))
  clear hl1 hl2 ra rb
  go_enter Try.func53, Try.ntmps53
  go_wp2_with fail
  refine (implcopy_any _ _ _ _ _ ks _ ra1 rb1 (Nat.le_trans z1 KW.size) (Nat.le_trans z2 KW.size) hx1 hx2).mono ?_
  rintro e w1 ⟨vc, vd, rfl, hd, k1⟩
  obtain ⟨C, n1, c1, rfl⟩ := hd.a.slice
  obtain ⟨D, m1, d1, rfl⟩ := hd.b.slice
  have hn1 : n1 = n := by have := hd.a.len.1; rw [bols_length, HL1.out] at this; omega
  have hm1 : m1 = m := by have := hd.b.len.1; rw [ints_length, twosI_length, HL2.out] at this; omega
  subst hn1 hm1
  have hs1 := k1.size
  simp at hs1
  have hsz := show (((w.alloc (.cells #[.slice A n1 c, .slice B m1 d] 55)).alloc (.cells #[.slice none 0 0, .slice none 0 0] 55))).heap.size = w.heap.size + 2 from by simp
  rw [hsz] at hd
  have KA := k1.alloc (.cells #[.slice C n1 c1, .slice D m1 d1] 55)
  have b0 := KA.cells (q := w.heap.size) (j := 0) (v := .slice A n1 c) (by simp; omega) (by first | go_cell | (simp [go_sem]; done))
  have b1 := KA.cells (q := w.heap.size) (j := 1) (v := .slice B m1 d) (by simp; omega) (by first | go_cell | (simp [go_sem]; done))
  have r0 := KA.cells (q := w.heap.size + 1) (j := 0) (v := .slice none 0 0) (by simp) (by first | go_cell | (simp [go_sem]; done))
  have r1 := KA.cells (q := w.heap.size + 1) (j := 1) (v := .slice none 0 0) (by simp) (by first | go_cell | (simp [go_sem]; done))
  have g0 := KA.free (q := w.heap.size + 1) (j := 0) (by simp) (by first | (simp [go_sem]; done) | simp)
  have g1 := KA.free (q := w.heap.size + 1) (j := 1) (by simp) (by first | (simp [go_sem]; done) | simp)
  have HH0 : Held w w1.heap.size (w.heap.size + 1) (w1.alloc (.cells #[.slice C n1 c1, .slice D m1 d1] 55)) (.slice C n1 c1) (.slice D m1 d1) ks sl :=
    ⟨by go_cell, by go_cell, by simp, by simp, r0, r1, g0, g1, (hd.keep (keep_1 w1 _) (.inr (.inr (Nat.le_refl 0)))).mono (Nat.le_refl _) (keep_1 w1 _).size, KW.tr0 KA, by simp, by simp; omega, by omega, by omega, by simp; omega⟩
  have HHH := Lib.hid HH0
  have HB0 := Lib.hid b0
  clear HH0 hsz k1 ra1 rb1 hd KW r0 r1 g0 g1 KA b0 b1
  have b0 := HB0.out
  go_wp2_with fail
  clear b0 HB0
  generalize (w1.alloc (.cells #[.slice C n1 c1, .slice D m1 d1] 55)) = X at HHH ⊢
  go_loopw [10] (fun i wr => ∃ (k : Nat) (va vb : Value) (js : List Bool) (tl : List Two), k ≤ n1 ∧ i = .int .i64 k ∧ forgetL ks sl (pagesUpto k) = (js, tl) ∧ Held w w1.heap.size (w.heap.size + 1) wr va vb js tl) (fun i _ => n1 - (intOf i).toNat)
  case atStart => exact ⟨0, _, _, ks, sl, Nat.zero_le _, rfl, rfl, HHH.out⟩
  case round =>
    obtain ⟨k, va, vb, js, tl, hk, rfl, hf, hh⟩ := hrel
    obtain ⟨E, n2, c2, rfl⟩ := hh.duo.a.slice
    obtain ⟨G, m2, d2, rfl⟩ := hh.duo.b.slice
    have hle := forgetL_length _ hf
    have hn2 : n2 = n1 := by have := hh.duo.a.len.1; rw [bols_length, hle.1, HL1.out] at this; omega
    subst hn2
    have hj := Lib.hid (show js.length ≤ 1048576 from by rw [hle.1]; exact hx1)
    have ht := Lib.hid (show (twosI tl).length ≤ 2097152 from by rw [twosI_length, hle.2, ← twosI_length]; exact hx2)
    have HF := Lib.hid hf
    have HH := Lib.hid hh
    have b0 := hh.b0
    have b1 := hh.b1
    clear hf hle hh HHH
    by_cases hlt : k < n2
    · go_wp2_with fail
      refine (implForget_any _ _ _ _ _ js tl k HH.out.duo.a.rd HH.out.duo.b.rd (Nat.le_refl _) (Nat.le_refl _) hj.out ht.out).mono ?_
      rintro e w2 ⟨ve, vf, rfl, hd2, k2⟩
      obtain ⟨E2, n3, c3, rfl⟩ := hd2.a.slice
      obtain ⟨G2, m3, d3, rfl⟩ := hd2.b.slice
      have HS := Lib.hid (HH.out.step k2 hd2)
      have hq := HH.out.quiet k2
      have p0 := hq.b0
      have p1 := hq.b1
      have p2 := hq.f0
      have p3 := hq.f1
      have HG := Lib.hid (show forgetL ks sl (pagesUpto (k + 1)) = ((forgetT js tl (k : Int)).1, (forgetT js tl (k : Int)).2) from by rw [pagesUpto_succ]; exact forgetL_snoc (p := (k : Int)) HF.out)
      clear b0 b1 hd2 k2 hq
      go_wp2
      go_roundw
      case rel => exact ⟨k + 1, _, _, _, _, by omega, by go_num, HG.out, HS.out⟩
      case measure => simp [intOf]; omega
    · have hkn : n2 ≤ k := by omega
      have q0 := HH.out.r0
      have q1 := HH.out.r1
      have q2 := HH.out.g0
      have q3 := HH.out.g1
      have HE := Lib.hid (forget_end HH.out.keep HH.out.duo (Nat.lt_of_lt_of_le (Nat.lt_of_lt_of_le (Nat.lt_succ_self _) HH.out.two) (Nat.le_refl _)))
      have HG := Lib.hid (show forgetL ks sl (pagesUpto ks.length) = (js, tl) from by rw [HL1.out, show n2 = k from by omega]; exact HF.out)
      clear hlt
      go_wp2
      refine bodyPost_ret (v := .agg #[.slice E n2 c2, .slice G m2 d2]) (by simp [results, Try.results53, go_sem, q0, q1]) rfl ?_
      rw [HG.out]
      exact ⟨_, _, rfl, HE.out⟩
end Go.Proofs.Ytcoipfnphmealaa
