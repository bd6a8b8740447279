/-
  Contracts of the statements' helpers on what is kept of tables: a struct of a slice of bools and a slice of slots.
-/
import Derived.Test.YtignedkhklfonaaBol
import Derived.Test.YtignedkhklfonaaKeep
import Derived.Test.YtignedkhklfonaaPair
namespace Go.Proofs.Ytignedkhklfonaa
open Go.RowKit

/-- Two rows that may be written, in blocks of their own, in the window lo .. hi-1. -/
def Duo (w : World) (lo hi : Nat) (va vb : Value) (cs ds : List Value) : Prop :=
  ∃ m, lo ≤ m ∧ m ≤ hi ∧ ((Row w lo m 4 1 va cs ∧ Row w m hi 49 2 vb ds) ∨ (Row w m hi 4 1 va cs ∧ Row w lo m 49 2 vb ds))
section
variable {w w' : World} {lo hi : Nat} {va vb : Value} {cs ds : List Value}
theorem Duo.a (h : Duo w lo hi va vb cs ds) : Row w lo hi 4 1 va cs := by
  obtain ⟨m, h1, h2, ⟨h3, _⟩ | ⟨h3, _⟩⟩ := h
  · exact h3.mono (Nat.le_refl _) h2
  · exact h3.mono h1 (Nat.le_refl _)
theorem Duo.b (h : Duo w lo hi va vb cs ds) : Row w lo hi 49 2 vb ds := by
  obtain ⟨m, h1, h2, ⟨_, h3⟩ | ⟨_, h3⟩⟩ := h
  · exact h3.mono h1 (Nat.le_refl _)
  · exact h3.mono (Nat.le_refl _) h2
theorem Duo.keep {lo' hi' : Nat} (h : Duo w lo hi va vb cs ds) (hk : Keep lo' hi' w w') (hd : hi ≤ lo' ∨ hi' ≤ lo ∨ hi' ≤ lo') : Duo w' lo hi va vb cs ds := by
  obtain ⟨m, h1, h2, ⟨h3, h4⟩ | ⟨h3, h4⟩⟩ := h
  · exact ⟨m, h1, h2, .inl ⟨h3.keep hk (by omega), h4.keep hk (by omega)⟩⟩
  · exact ⟨m, h1, h2, .inr ⟨h3.keep hk (by omega), h4.keep hk (by omega)⟩⟩
theorem Duo.mono {lo' hi' : Nat} (h : Duo w lo hi va vb cs ds) (h1 : lo' ≤ lo) (h2 : hi ≤ hi') : Duo w lo' hi' va vb cs ds := by
  obtain ⟨m, h3, h4, ⟨h5, h6⟩ | ⟨h5, h6⟩⟩ := h
  · exact ⟨m, by omega, by omega, .inl ⟨h5.mono h1 (Nat.le_refl _), h6.mono (Nat.le_refl _) h2⟩⟩
  · exact ⟨m, by omega, by omega, .inr ⟨h5.mono (Nat.le_refl _) h2, h6.mono h1 (Nat.le_refl _)⟩⟩
end
set_option maxHeartbeats 1000000 in
theorem szKept_gen (A : Option Addr) (n c : Nat) (B : Option Addr) (m d : Nat) (L : Int) (hn : n ≤ 9223372036854775807) (hm : m ≤ 9223372036854775807) (h0 : 0 ≤ L) (h1 : L ≤ 1048576) (w : World) :
    Calls Try.prog 8 #[.agg #[.slice A n c, .slice B m d], .int .i64 L] w fun e w' => e = .returned (.int .i64 (leftT L (n + m))) ∧ Keep 0 0 w w' := by
  have hs : w.heap.size < (w.alloc (.cells #[.slice A n c, .slice B m d] 25)).heap.size := by simp
  by_cases a1 : (n : Int) ≤ L
  · have e1 := leftT_in a1
    have e4 := Lib.hid e1
    by_cases a2 : (m : Int) ≤ L - n
    · have e2 := Lib.hid (leftT_in a2)
      have e3 := Lib.hid (show leftT L (n + m) = L - n - m from by rw [leftT_in (by omega)]; omega)
      clear e1
      go_enter Try.func8, Try.ntmps8
      go_wp2_with fail
      refine (szBoolS_gen _ _ _ _ hn h0 h1 _).mono ?_
      rintro e w' ⟨rfl, rfl⟩
      rw [e4.out]
      go_wp2_with fail
      refine (szSlotS_gen _ _ _ _ hm (by omega) (by omega) _).mono ?_
      rintro e w' ⟨rfl, rfl⟩
      rw [e2.out]
      go_wp2
      go_ret
      exact ⟨by rw [e3.out]; rfl, keep_1 _ _⟩
    · have e2 := Lib.hid (leftT_out a2)
      have e3 := Lib.hid (show leftT L (n + m) = -1 from leftT_out (by omega))
      clear e1
      go_enter Try.func8, Try.ntmps8
      go_wp2_with fail
      refine (szBoolS_gen _ _ _ _ hn h0 h1 _).mono ?_
      rintro e w' ⟨rfl, rfl⟩
      rw [e4.out]
      go_wp2_with fail
      refine (szSlotS_gen _ _ _ _ hm (by omega) (by omega) _).mono ?_
      rintro e w' ⟨rfl, rfl⟩
      rw [e2.out]
      go_wp2
      go_ret
      exact ⟨by rw [e3.out]; rfl, keep_1 _ _⟩
  · have e1 := Lib.hid (leftT_out a1)
    have e3 := Lib.hid (show leftT L (n + m) = -1 from leftT_out (by omega))
    go_enter Try.func8, Try.ntmps8
    go_wp2_with fail
    refine (szBoolS_gen _ _ _ _ hn h0 h1 _).mono ?_
    rintro e w' ⟨rfl, rfl⟩
    rw [e1.out]
    go_wp2
    go_ret
    exact ⟨by rw [e3.out]; rfl, keep_1 _ _⟩
set_option maxHeartbeats 2000000 in
theorem eqKept_any (w : World) (h1 h2 h3 h4 : Nat) (va vb vc vd : Value) (ks js : List Bool) (xs ys : List Int) (ra : Rd w h1 1 va (bols ks)) (rb : Rd w h2 2 vb (ints xs)) (rc : Rd w h3 1 vc (bols js)) (rd : Rd w h4 2 vd (ints ys))
    (z1 : h1 ≤ w.heap.size) (z2 : h2 ≤ w.heap.size) (z3 : h3 ≤ w.heap.size) (z4 : h4 ≤ w.heap.size) :
    Calls Try.prog 14 #[.agg #[va, vb], .agg #[vc, vd]] w fun e w' => e = .returned (.bool (decide (ks = js) && decide (xs = ys))) ∧ Keep 0 0 w w' := by
  obtain ⟨A, n, c, rfl, _⟩ := id ra
  obtain ⟨B, m, d, rfl, _⟩ := id rb
  obtain ⟨A', n', c', rfl, _⟩ := id rc
  obtain ⟨B', m', d', rfl, _⟩ := id rd
  have K0 := keep_2 w (.cells #[.slice A n c, .slice B m d] 31) (.cells #[.slice A' n' c', .slice B' m' d'] 31)
  have ra1 := ra.keep K0 z1 (.inr (Nat.le_refl 0))
  have rb1 := rb.keep K0 z2 (.inr (Nat.le_refl 0))
  have rc1 := rc.keep K0 z3 (.inr (Nat.le_refl 0))
  have rd1 := rd.keep K0 z4 (.inr (Nat.le_refl 0))
  clear ra rb rc rd
  go_enter Try.func14, Try.ntmps14
  go_wp2_with fail
  refine (eqBoolS_any _ _ _ _ _ _ _ ra1 rc1).mono ?_
  rintro e w1 ⟨rfl, hd⟩
  have k1 := hd.keep 0 0
  have c1 : w1.cell? ⟨w.heap.size, 1, none⟩ = some (.slice B m d) := k1.cells (by simp; omega) (by go_cell)
  have c3 : w1.cell? ⟨w.heap.size + 1, 1, none⟩ = some (.slice B' m' d') := k1.cells (by simp) (by first | go_cell | (simp [go_sem]; done))
  have K1 := K0.tr0 k1
  have rb2 := rb1.keep k1 (Nat.le_trans z2 K0.size) (.inr (Nat.le_refl 0))
  have rd2 := rd1.keep k1 (Nat.le_trans z4 K0.size) (.inr (Nat.le_refl 0))
  clear hd k1 ra1 rb1 rc1 rd1
  rcases Bool.eq_false_or_eq_true (decide (ks = js)) with hk | hk
  · have HK := Lib.hid hk
    rw [hk]
    clear hk
    go_wp2_with fail
    refine (eqSlotS_any _ _ _ _ _ _ _ rb2 rd2).mono ?_
    rintro e w2 ⟨rfl, k2⟩
    rcases Bool.eq_false_or_eq_true (decide (xs = ys)) with hx | hx
    all_goals
      have HX := Lib.hid hx
      rw [hx]
      clear hx
      go_wp2
      go_ret
      exact ⟨by rw [HK.out, HX.out]; rfl, K1.tr0 k2⟩
  · have HK := Lib.hid hk
    rw [hk]
    clear hk
    go_wp2
    go_ret
    exact ⟨by rw [HK.out]; rfl, K1⟩
set_option maxHeartbeats 4000000 in
theorem toKept_any (w : World) (h1 h2 : Nat) (va vb : Value) (ks : List Bool) (xs : List Int) (ra : Rd w h1 1 va (bols ks)) (rb : Rd w h2 2 vb (ints xs)) (z1 : h1 ≤ w.heap.size) (z2 : h2 ≤ w.heap.size) (hx1 : ks.length ≤ 1048576) (hx2 : xs.length ≤ 2097152) :
    Calls Try.prog 11 #[.agg #[va, vb]] w fun e w' => ∃ vc vd, e = .returned (.agg #[vc, vd]) ∧ Duo w' w.heap.size w'.heap.size vc vd (bols ks) (ints xs) ∧ Keep 0 0 w w' := by
  obtain ⟨A, n, c, rfl, _⟩ := id ra
  obtain ⟨B, m, d, rfl, _⟩ := id rb
  have K0 := (keep_2 w (.cells #[.slice A n c, .slice B m d] 25) (.cells #[.slice none 0 0, .slice none 0 0] 31)).alloc (.cells #[.slice none 0 0, .slice none 0 0] 31)
  have ra1 := ra.keep K0 z1 (.inr (Nat.le_refl 0))
  have rb1 := rb.keep K0 z2 (.inr (Nat.le_refl 0))
  clear ra rb
  go_enter Try.func11, Try.ntmps11
  go_wp2_with fail
  refine (toBoolS_any _ _ _ _ ra1 hx1).mono ?_
  rintro e w1 ⟨vc, rfl, rc, k1⟩
  obtain ⟨C, n1, c1, rfl⟩ := rc.slice
  have hs1 := k1.size
  simp at hs1
  have hs2 : w.heap.size + 2 < w1.heap.size := by omega
  have b1 : w1.cell? ⟨w.heap.size, 1, none⟩ = some (.slice B m d) := k1.cells (by simp; omega) (by first | go_cell | (simp [go_sem]; done))
  have o0 : w1.cell? ⟨w.heap.size + 1 + 1, 0, none⟩ = some (.slice none 0 0) := k1.cells (by simp) (by first | go_cell | (simp [go_sem]; done))
  have o1 : w1.cell? ⟨w.heap.size + 1 + 1, 1, none⟩ = some (.slice none 0 0) := k1.cells (by simp) (by first | go_cell | (simp [go_sem]; done))
  have r0 : w1.cell? ⟨w.heap.size + 1, 0, none⟩ = some (.slice none 0 0) := k1.cells (by simp) (by first | go_cell | (simp [go_sem]; done))
  have r1 : w1.cell? ⟨w.heap.size + 1, 1, none⟩ = some (.slice none 0 0) := k1.cells (by simp) (by first | go_cell | (simp [go_sem]; done))
  have f0 : w1.frozen? ⟨w.heap.size + 1 + 1, 0, none⟩ = false := k1.free (by simp) (by first | (simp [go_sem]; done) | simp)
  have f1 : w1.frozen? ⟨w.heap.size + 1 + 1, 1, none⟩ = false := k1.free (by simp) (by first | (simp [go_sem]; done) | simp)
  have g0 : w1.frozen? ⟨w.heap.size + 1, 0, none⟩ = false := k1.free (by simp) (by first | (simp [go_sem]; done) | simp)
  have g1 : w1.frozen? ⟨w.heap.size + 1, 1, none⟩ = false := k1.free (by simp) (by first | (simp [go_sem]; done) | simp)
  have kS : Keep (w.heap.size + 1) (w.heap.size + 3) w1 (w1.setCell ⟨w.heap.size + 1 + 1, 0, none⟩ (.slice C n1 c1)) := (Keep.refl _ _ _).setCell (.inl ⟨by show _ ≤ w.heap.size + 1 + 1; omega, by show w.heap.size + 1 + 1 < _; omega⟩) _
  have K1 := K0.tr0 k1
  have K2 := K1.setCell (p := ⟨w.heap.size + 1 + 1, 0, none⟩) (.inr (by show _ ≤ w.heap.size + 1 + 1; omega)) (.slice C n1 c1)
  have rb2 := (rb1.keep k1 (Nat.le_trans z2 K0.size) (.inr (Nat.le_refl 0))).keep kS (Nat.le_trans z2 K1.size) (.inl (by omega))
  have rc2 := Lib.hid (rc.keep kS (by simp))
  have hz : (w1.setCell ⟨w.heap.size + 1 + 1, 0, none⟩ (.slice C n1 c1)).heap.size = w1.heap.size := by simp [World.setCell]
  have HZ := Lib.hid hz
  clear hz kS rb1 ra1 K1 rc k1
  go_wp2_with fail
  refine (toSlotS_any _ _ _ _ rb2 hx2).mono ?_
  rintro e w2 ⟨vd, rfl, rd, k2⟩
  obtain ⟨D, n2, c2, rfl⟩ := rd.slice
  have hs3 := k2.size
  rw [HZ.out] at hs3 rd
  have p0 : w2.cell? ⟨w.heap.size + 1 + 1, 0, none⟩ = some (.slice C n1 c1) := k2.cells (by rw [HZ.out]; omega) (World.cell?_setCell_same _ _ _ o0)
  have p1 : w2.cell? ⟨w.heap.size + 1 + 1, 1, none⟩ = some (.slice none 0 0) := k2.cells (by rw [HZ.out]; omega) ((World.cell?_setCell_other _ _ _ _ (by simp)).trans o1)
  have q0 : w2.cell? ⟨w.heap.size + 1, 0, none⟩ = some (.slice none 0 0) := k2.cells (by rw [HZ.out]; omega) ((World.cell?_setCell_other _ _ _ _ (by simp)).trans r0)
  have q1 : w2.cell? ⟨w.heap.size + 1, 1, none⟩ = some (.slice none 0 0) := k2.cells (by rw [HZ.out]; omega) ((World.cell?_setCell_other _ _ _ _ (by simp)).trans r1)
  have e1 : w2.frozen? ⟨w.heap.size + 1 + 1, 1, none⟩ = false := k2.free (by rw [HZ.out]; omega) (by rw [World.frozen?_setCell]; exact f1)
  have e2 : w2.frozen? ⟨w.heap.size + 1, 0, none⟩ = false := k2.free (by rw [HZ.out]; omega) (by rw [World.frozen?_setCell]; exact g0)
  have e3 : w2.frozen? ⟨w.heap.size + 1, 1, none⟩ = false := k2.free (by rw [HZ.out]; omega) (by rw [World.frozen?_setCell]; exact g1)
  have rc3 := Lib.hid (rc2.out.keep k2 (.inr (.inr (Nat.le_refl 0))))
  have RD := Lib.hid rd
  have K3 := K2.tr0 k2
  clear b1 o0 o1 r0 r1 f0 f1 g0 g1 K2 rb2 rd k2
  go_wp2
  refine bodyPost_ret (v := .agg #[.slice C n1 c1, .slice D n2 c2]) (by simp [results, Try.results11, go_sem, q0, q1]) rfl ?_
  have kT : Keep (w.heap.size + 1) (w.heap.size + 3) w2 (((w2.setCell ⟨w.heap.size + 1 + 1, 1, none⟩ (.slice D n2 c2)).setCell ⟨w.heap.size + 1, 0, none⟩ (.slice C n1 c1)).setCell ⟨w.heap.size + 1, 1, none⟩ (.slice D n2 c2)) :=
    (((Keep.refl _ _ _).setCell (.inl ⟨by show _ ≤ w.heap.size + 1 + 1; omega, by show w.heap.size + 1 + 1 < _; omega⟩) _).setCell (.inl ⟨by show _ ≤ w.heap.size + 1; omega, by show w.heap.size + 1 < _; omega⟩) _).setCell (.inl ⟨by show _ ≤ w.heap.size + 1; omega, by show w.heap.size + 1 < _; omega⟩) _
  refine ⟨_, _, rfl, ⟨w1.heap.size, by omega, by simp [World.setCell]; omega, .inl ⟨?_, ?_⟩⟩, K3.trm kT (by omega)⟩
  · exact (rc3.out.keep kT (by simp)).mono (by simp; omega) (Nat.le_refl _)
  · exact (RD.out.keep kT (by omega)).mono (Nat.le_refl _) (by simp [World.setCell])
set_option maxHeartbeats 4000000 in
theorem markKept_any (w : World) (lo hi : Nat) (va vb : Value) (cs ds : List Value) (N M : Nat) (hN : cs.length = N) (hM : ds.length = M) (k0 : Int) (hr : Duo w lo hi va vb cs ds) (hhi : hi ≤ w.heap.size) (h0 : 0 ≤ k0) (h9 : k0 + N + M ≤ 4611686018427387904) :
    Calls Try.prog 18 #[.agg #[va, vb], .int .i64 k0] w fun e w' => e = .returned (.int .i64 (k0 + N + M)) ∧ Duo w' lo hi va vb (bols (bmarks k0 N)) (marks (k0 + N) M) ∧ Keep lo hi w w' := by
  obtain ⟨A, n, c, rfl⟩ := hr.a.slice
  obtain ⟨B, m, d, rfl⟩ := hr.b.slice
  have hr1 := hr.keep (keep_1 w (.cells #[.slice A n c, .slice B m d] 31)) (.inr (.inr (Nat.le_refl 0)))
  obtain ⟨q, hq1, hq2, hq⟩ := hr1
  have main : ∀ (l1 h1 l2 h2 : Nat), lo ≤ l1 → h1 ≤ hi → lo ≤ l2 → h2 ≤ hi → (h1 ≤ l2 ∨ h2 ≤ l1) →
      Row (w.alloc (.cells #[.slice A n c, .slice B m d] 31)) l1 h1 4 1 (.slice A n c) cs → Row (w.alloc (.cells #[.slice A n c, .slice B m d] 31)) l2 h2 49 2 (.slice B m d) ds →
      Calls Try.prog 18 #[.agg #[.slice A n c, .slice B m d], .int .i64 k0] w fun e w' => e = .returned (.int .i64 (k0 + N + M)) ∧ (Row w' l1 h1 4 1 (.slice A n c) (bols (bmarks k0 N)) ∧ Row w' l2 h2 49 2 (.slice B m d) (marks (k0 + N) M)) ∧ Keep lo hi w w' := by
    intro l1 h1 l2 h2 z1 z2 z3 z4 hd ra rb
    clear hr hq
    have HN := Lib.hid hN
    have HM := Lib.hid hM
    clear hN hM
    go_enter Try.func18, Try.ntmps18
    go_wp2_with fail
    refine (markBoolS_any _ _ _ _ _ N HN.out k0 ra h0 (by omega)).mono ?_
    rintro e w1 ⟨rfl, ra1, k1⟩
    have b1 : w1.cell? ⟨w.heap.size, 1, none⟩ = some (.slice B m d) := (k1.cell (p := ⟨w.heap.size, 1, none⟩) (by simp) (.inr (by show h1 ≤ w.heap.size; omega))).trans (by go_cell)
    have rb1 := rb.keep k1 (by omega)
    have RA := Lib.hid ra1
    have KK := Lib.hid ((((Keep.refl lo hi w).alloc (.cells #[.slice A n c, .slice B m d] 31))).win (k1.mono (.inr ⟨z1, z2⟩)))
    clear ra rb k1 ra1
    go_wp2_with fail
    refine (markSlotS_any _ _ _ _ _ M HM.out (k0 + N) rb1 (by omega) (by omega)).mono ?_
    rintro e w2 ⟨rfl, rb2, k2⟩
    have RA2 := Lib.hid (RA.out.keep k2 (by omega))
    have KK2 := Lib.hid (KK.out.win (k2.mono (.inr ⟨z3, z4⟩)))
    have RB := Lib.hid rb2
    clear rb1 rb2 k2
    go_wp2
    go_ret
    exact ⟨rfl, ⟨RA2.out, RB.out⟩, KK2.out⟩
  rcases hq with ⟨ra, rb⟩ | ⟨ra, rb⟩
  · exact (main lo q q hi (Nat.le_refl _) hq2 hq1 (Nat.le_refl _) (.inl (Nat.le_refl _)) ra rb).mono fun e w' ⟨h1, h2, h3⟩ => ⟨h1, ⟨q, hq1, hq2, .inl h2⟩, h3⟩
  · exact (main q hi lo q hq1 (Nat.le_refl _) (Nat.le_refl _) hq2 (.inr (Nat.le_refl _)) ra rb).mono fun e w' ⟨h1, h2, h3⟩ => ⟨h1, ⟨q, hq1, hq2, .inr h2⟩, h3⟩
set_option maxHeartbeats 4000000 in
theorem heldKept_any (w : World) (h1 h2 : Nat) (va vb : Value) (N M : Nat) (k0 : Int) (ra : Rd w h1 1 va (bols (bmarks k0 N))) (rb : Rd w h2 2 vb (marks (k0 + N) M)) (z1 : h1 ≤ w.heap.size) (z2 : h2 ≤ w.heap.size) (h0 : 0 ≤ k0) (h9 : k0 + N + M ≤ 4611686018427387904) :
    Calls Try.prog 19 #[.agg #[va, vb], .int .i64 k0] w fun e w' => e = .returned (.int .i64 (k0 + N + M)) ∧ Keep 0 0 w w' := by
  obtain ⟨A, n, c, rfl, _⟩ := id ra
  obtain ⟨B, m, d, rfl, _⟩ := id rb
  have K0 := keep_1 w (.cells #[.slice A n c, .slice B m d] 31)
  have ra1 := ra.keep K0 z1 (.inr (Nat.le_refl 0))
  have rb1 := rb.keep K0 z2 (.inr (Nat.le_refl 0))
  clear ra rb
  go_enter Try.func19, Try.ntmps19
  go_wp2_with fail
  refine (heldBoolS_any _ _ _ N k0 ra1 h0 (by omega)).mono ?_
  rintro e w1 ⟨rfl, hd⟩
  have k1 := hd.keep 0 0
  have b1 : w1.cell? ⟨w.heap.size, 1, none⟩ = some (.slice B m d) := k1.cells (by simp) (by go_cell)
  have rb2 := rb1.keep k1 (Nat.le_trans z2 K0.size) (.inr (Nat.le_refl 0))
  have K1 := K0.tr0 k1
  clear ra1 rb1 hd k1
  go_wp2_with fail
  refine (heldSlotS_any _ _ _ M (k0 + N) rb2 (by omega) (by omega)).mono ?_
  rintro e w2 ⟨rfl, hd2⟩
  go_wp2
  go_ret
  exact ⟨rfl, K1.tr0 (hd2.keep 0 0)⟩
end Go.Proofs.Ytignedkhklfonaa
