/-
  The draw of tables and of what is kept of them: l07Case. Nothing is said of what is drawn but its kind and its lengths.
-/
import Derived.Test.YtcoipfnphmealaaCase
namespace Go.Proofs.Ytcoipfnphmealaa
open Go.RowKit

/-- The block Q holds what is kept, in rows from block B on that lie elsewhere. -/
def KC (B Q : Nat) (w : World) (va vb : Value) (ks : List Bool) (sl : List Two) : Prop :=
  ∃ lo hi, B ≤ lo ∧ Lo w Q 55 #[va, vb] ∧ Duo w lo hi va vb (bols ks) (ints (twosI sl)) ∧ hi ≤ w.heap.size ∧ (hi ≤ Q ∨ Q < lo)
section
variable {B Q g : Nat} {w w2 : World} {va vb vc vd : Value} {ks ks' : List Bool} {sl sl' : List Two}
theorem KC.quiet (h : KC B Q w va vb ks sl) (k : Keep 0 0 w w2) : KC B Q w2 va vb ks sl := by
  obtain ⟨lo, hi, h0, h1, h2, h3, h4⟩ := h
  exact ⟨lo, hi, h0, h1.keep0 k, h2.keep k (.inr (.inr (Nat.le_refl 0))), Nat.le_trans h3 k.size, h4⟩
theorem KC.move (h : KC B Q w va vb ks sl) (k : Keep g (g + 1) w w2) (hB : g < B) (hQ : g < Q) : KC B Q w2 va vb ks sl := by
  obtain ⟨lo, hi, h0, h1, h2, h3, h4⟩ := h
  exact ⟨lo, hi, h0, h1.move k hQ, h2.keep k (.inr (.inl (Nat.le_trans hB h0))), Nat.le_trans h3 k.size, h4⟩
theorem KC.box (h : KC B Q w va vb ks sl) : Lo w Q 55 #[va, vb] := by
  obtain ⟨lo, hi, h0, h1, h2, h3, h4⟩ := h
  exact h1
theorem KC.a (h : KC B Q w va vb ks sl) : Row w B w.heap.size 4 1 va (bols ks) := by
  obtain ⟨lo, hi, h0, h1, h2, h3, h4⟩ := h
  exact h2.a.mono h0 h3
theorem KC.b (h : KC B Q w va vb ks sl) : Row w B w.heap.size 67 2 vb (ints (twosI sl)) := by
  obtain ⟨lo, hi, h0, h1, h2, h3, h4⟩ := h
  exact h2.b.mono h0 h3
theorem KC.new {lo : Nat} (hd : Duo w lo w.heap.size va vb (bols ks) (ints (twosI sl))) (h0 : B ≤ lo) : KC B w.heap.size (w.alloc (.cells #[va, vb] 55)) va vb ks sl :=
  ⟨lo, w.heap.size, h0, Lo.new w _ _ rfl, hd.keep (keep_1 w _) (.inr (.inr (Nat.le_refl 0))), (keep_1 w _).size, .inl (Nat.le_refl _)⟩
theorem KC.step (h : KC B Q w va vb ks sl) (k : Keep 0 0 w w2) (hB : B ≤ Q) (hd : Duo w2 w.heap.size w2.heap.size vc vd (bols ks') (ints (twosI sl'))) :
    KC B Q ((w2.setCell ⟨Q, 0, none⟩ vc).setCell ⟨Q, 1, none⟩ vd) vc vd ks' sl' := by
  have hq := h.box.lt
  have kS : Keep Q (Q + 1) w2 ((w2.setCell ⟨Q, 0, none⟩ vc).setCell ⟨Q, 1, none⟩ vd) :=
    ((Keep.refl Q (Q + 1) w2).setCell (p := ⟨Q, 0, none⟩) (.inl ⟨Nat.le_refl _, Nat.lt_succ_self _⟩) _).setCell (p := ⟨Q, 1, none⟩) (.inl ⟨Nat.le_refl _, Nat.lt_succ_self _⟩) _
  exact ⟨w.heap.size, w2.heap.size, by omega, ((h.box.keep0 k).set2_0 vc).set 1 vd, hd.keep kS (.inr (.inl hq)), kS.size, .inr hq⟩
end
/-- The draw's state: the cursor g, the result's block (w's next), two tables below block M, the variable's block Q and its rows from M on. -/
structure CaseS (w : World) (g M Q : Nat) (vi vo : Value) (inner outer : List Two) (wr : World) (va vb : Value) (ks : List Bool) (sl : List Two) : Prop where
  kb : KC M Q wr va vb ks sl
  cur : Cur wr g
  keep : Keep g (g + 1) w wr
  res : Lo wr w.heap.size 55 #[.slice none 0 0, .slice none 0 0]
  ri : Row wr (w.heap.size + 1) M 67 2 vi (ints (twosI inner))
  ro : Row wr (w.heap.size + 1) M 67 2 vo (ints (twosI outer))
  low : w.heap.size + 1 ≤ M
  mq : M ≤ Q
  gw : g < w.heap.size
theorem Duo.lowA {w : World} {lo hi : Nat} {A : Option Addr} {n c x : Nat} {vb : Value} {ks : List Bool} {ds : List Value} (h : Duo w lo hi (.slice A n c) vb (bols ks) ds) (hx : x ≤ n) : Duo w lo hi (.slice A x c) vb (bols (ks.take x)) ds := by
  have e : bols (ks.take x) = (bols ks).take (x * 1) := by simp [bols, List.map_take]
  rw [e]
  obtain ⟨m, h1, h2, ⟨h3, h4⟩ | ⟨h3, h4⟩⟩ := h
  · exact ⟨m, h1, h2, .inl ⟨h3.lowT hx, h4⟩⟩
  · exact ⟨m, h1, h2, .inr ⟨h3.lowT hx, h4⟩⟩
theorem Row.lowS {w : World} {lo hi : Nat} {E : TypeId} {A : Option Addr} {n c x : Nat} {l : List Two} (h : Row w lo hi E 2 (.slice A n c) (ints (twosI l))) (hx : x ≤ n) : Row w lo hi E 2 (.slice A x c) (ints (twosI (l.take x))) := by
  rw [← twosI_take, show ints ((twosI l).take (x * 2)) = (ints (twosI l)).take (x * 2) from by simp [ints, List.map_take]]
  exact h.lowT hx
section
variable {w wr w2 : World} {g M Q : Nat} {vi vo va vb vc vd : Value} {inner outer : List Two} {ks ks' : List Bool} {sl sl' : List Two}
theorem CaseS.move (h : CaseS w g M Q vi vo inner outer wr va vb ks sl) (hc : Cur w2 g) (k : Keep g (g + 1) wr w2) : CaseS w g M Q vi vo inner outer w2 va vb ks sl := by
  have h1 := h.low
  have h2 := h.gw
  have h3 := h.mq
  exact ⟨h.kb.move k (by omega) (by omega), hc, h.keep.win k, h.res.move k h2, h.ri.keep k (.inr (.inl (by omega))), h.ro.keep k (.inr (.inl (by omega))), h1, h3, h2⟩
theorem CaseS.quiet (h : CaseS w g M Q vi vo inner outer wr va vb ks sl) (k : Keep 0 0 wr w2) : CaseS w g M Q vi vo inner outer w2 va vb ks sl :=
  h.move (h.cur.keep0 k) (k.any0 _ _)
theorem CaseS.drew (h : CaseS w g M Q vi vo inner outer wr va vb ks sl) : CaseS w g M Q vi vo inner outer wr.drew va vb ks sl := h.quiet (Keep.refl 0 0 wr).drew
theorem CaseS.step (h : CaseS w g M Q vi vo inner outer wr va vb ks sl) (k : Keep 0 0 wr w2) (hd : Duo w2 wr.heap.size w2.heap.size vc vd (bols ks') (ints (twosI sl'))) :
    CaseS w g M Q vi vo inner outer ((w2.setCell ⟨Q, 0, none⟩ vc).setCell ⟨Q, 1, none⟩ vd) vc vd ks' sl' := by
  have h1 := h.low
  have h2 := h.gw
  have h3 := h.mq
  have hq := h.quiet k
  have kS : Keep Q (Q + 1) w2 ((w2.setCell ⟨Q, 0, none⟩ vc).setCell ⟨Q, 1, none⟩ vd) :=
    ((Keep.refl Q (Q + 1) w2).setCell (p := ⟨Q, 0, none⟩) (.inl ⟨Nat.le_refl _, Nat.lt_succ_self _⟩) _).setCell (p := ⟨Q, 1, none⟩) (.inl ⟨Nat.le_refl _, Nat.lt_succ_self _⟩) _
  exact ⟨h.kb.step k h3 hd, hq.cur.keep kS (.inl (by omega)), (hq.keep.setCell (p := ⟨Q, 0, none⟩) (.inr (by show _ ≤ Q; omega)) _).setCell (p := ⟨Q, 1, none⟩) (.inr (by show _ ≤ Q; omega)) _,
    (hq.res.other _ (by omega)).other _ (by omega), hq.ri.keep kS (.inl h3), hq.ro.keep kS (.inl h3), h1, h3, h2⟩
theorem CaseS.lens (h : CaseS w g M Q vi vo inner outer wr va vb ks sl) : ∃ A n c B m d, va = .slice A n c ∧ vb = .slice B m d ∧ n = ks.length ∧ m = sl.length := by
  have ha := h.kb.a
  have hb := h.kb.b
  obtain ⟨A, n, c, rfl⟩ := ha.slice
  obtain ⟨B, m, d, rfl⟩ := hb.slice
  refine ⟨A, n, c, B, m, d, rfl, rfl, ?_, ?_⟩
  · have := ha.len.1; rw [bols_length] at this; omega
  · have := hb.len.1; rw [ints_length, twosI_length] at this; omega
/-- One flag slice is cut. -/
theorem CaseS.known {A : Option Addr} {n c x : Nat} (h : CaseS w g M Q vi vo inner outer wr (.slice A n c) vb ks sl) (hx : x ≤ n) :
    CaseS w g M Q vi vo inner outer (wr.setCell ⟨Q, 0, none⟩ (.slice A x c)) (.slice A x c) vb (ks.take x) sl := by
  have h1 := h.low
  have h2 := h.gw
  have h3 := h.mq
  have kS : Keep Q (Q + 1) wr (wr.setCell ⟨Q, 0, none⟩ (.slice A x c)) := (Keep.refl Q (Q + 1) wr).setCell (p := ⟨Q, 0, none⟩) (.inl ⟨Nat.le_refl _, Nat.lt_succ_self _⟩) _
  obtain ⟨lo, hi, a0, a1, a2, a3, a4⟩ := h.kb
  exact ⟨⟨lo, hi, a0, a1.set2_0 _, (a2.lowA hx).keep kS (by omega), Nat.le_trans a3 kS.size, a4⟩, h.cur.keep kS (.inl (by omega)), h.keep.setCell (p := ⟨Q, 0, none⟩) (.inr (by show _ ≤ Q; omega)) _,
    h.res.other _ (by omega), h.ri.keep kS (.inl h3), h.ro.keep kS (.inl h3), h1, h3, h2⟩
/-- One slot is replaced. -/
theorem CaseS.slot {q off c m : Nat} (h : CaseS w g M Q vi vo inner outer wr va (.slice (some ⟨q, off, none⟩) m c) ks sl) (hm : sl.length = m) (j : Nat) (hj : j < m) (a b : Int) :
    ∃ z0 z1 : Value, wr.cell? ⟨q, off + j * 2, none⟩ = some z0 ∧ wr.cell? ⟨q, off + j * 2 + 1, none⟩ = some z1 ∧ wr.frozen? ⟨q, off + j * 2, none⟩ = false ∧ wr.frozen? ⟨q, off + j * 2 + 1, none⟩ = false ∧
      CaseS w g M Q vi vo inner outer ((wr.setCell ⟨q, off + j * 2, none⟩ (.int .i64 a)).setCell ⟨q, off + j * 2 + 1, none⟩ (.int .i64 b)) va (.slice (some ⟨q, off, none⟩) m c) ks (sl.set j (a, b)) := by
  have h1 := h.low
  have h2 := h.gw
  have h3 := h.mq
  obtain ⟨lo, hi, a0, a1, a2, a3, a4⟩ := h.kb
  obtain ⟨q', off', e, hq1, hq2, hq3, hat⟩ := a2.b.at_ (by omega)
  injection e with e
  injection e with e1 e2
  subst e1 e2
  have hlen : (ints (twosI sl)).length = m * 2 := by rw [ints_length, twosI_length, hm]
  obtain ⟨z0, s0⟩ : ∃ z, (ints (twosI sl))[j * 2]? = some z := ⟨_, List.getElem?_eq_getElem (by omega)⟩
  obtain ⟨z1, s1⟩ : ∃ z, (ints (twosI sl))[j * 2 + 1]? = some z := ⟨_, List.getElem?_eq_getElem (by omega)⟩
  obtain ⟨c0, f0⟩ := hat (j * 2) _ s0
  obtain ⟨c1, f1⟩ := hat (j * 2 + 1) _ s1
  have d := (a2.set_b (j := j * 2) (by omega) (.int .i64 a)).set_b (j := j * 2 + 1) (by omega) (.int .i64 b)
  rw [twos_set sl j a b (by omega)] at d
  have kS : Keep q (q + 1) wr ((wr.setCell ⟨q, off + j * 2, none⟩ (.int .i64 a)).setCell ⟨q, off + j * 2 + 1, none⟩ (.int .i64 b)) :=
    ((Keep.refl q (q + 1) wr).setCell (p := ⟨q, off + j * 2, none⟩) (.inl ⟨Nat.le_refl _, Nat.lt_succ_self _⟩) _).setCell (p := ⟨q, off + j * 2 + 1, none⟩) (.inl ⟨Nat.le_refl _, Nat.lt_succ_self _⟩) _
  exact ⟨z0, z1, c0, c1, f0, f1, ⟨lo, hi, a0, (a1.other _ (by omega)).other _ (by omega), d, Nat.le_trans a3 kS.size, a4⟩, h.cur.keep kS (.inl (by omega)),
    (h.keep.setCell (p := ⟨q, off + j * 2, none⟩) (.inr (by show _ ≤ q; omega)) _).setCell (p := ⟨q, off + j * 2 + 1, none⟩) (.inr (by show _ ≤ q; omega)) _,
    (h.res.other _ (by omega)).other _ (by omega), h.ri.keep kS (.inl (by omega)), h.ro.keep kS (.inl (by omega)), h1, h3, h2⟩
end
/-- What the draw leaves: rows of its own of at most four and eight elements. -/
def DrawnCase (w : World) (g : Nat) (e : Ending) (w' : World) : Prop :=
  ∃ (va vb vi vo : Value) (ks : List Bool) (sl inner outer : List Two), e = .returned (.tuple #[.agg #[va, vb], vi, vo]) ∧ ks.length ≤ 4 ∧ sl.length ≤ 4 ∧ inner.length ≤ 4 ∧ outer.length ≤ 8 ∧
    Row w' w.heap.size w'.heap.size 4 1 va (bols ks) ∧ Row w' w.heap.size w'.heap.size 67 2 vb (ints (twosI sl)) ∧ Row w' w.heap.size w'.heap.size 67 2 vi (ints (twosI inner)) ∧ Row w' w.heap.size w'.heap.size 67 2 vo (ints (twosI outer)) ∧ Cur w' g ∧ Keep g (g + 1) w w'
theorem case_end {w wr : World} {g M Q : Nat} {vi vo va vb vi' vo' : Value} {inner outer inner' outer' : List Two} {ks : List Bool} {sl : List Two} (h : CaseS w g M Q vi vo inner outer wr va vb ks sl)
    (ri : Row wr (w.heap.size + 1) wr.heap.size 67 2 vi' (ints (twosI inner'))) (ro : Row wr (w.heap.size + 1) wr.heap.size 67 2 vo' (ints (twosI outer')))
    (l1 : ks.length ≤ 4) (l2 : sl.length ≤ 4) (l3 : inner'.length ≤ 4) (l4 : outer'.length ≤ 8) :
    DrawnCase w g (.returned (.tuple #[.agg #[va, vb], vi', vo'])) ((wr.setCell ⟨w.heap.size, 0, none⟩ va).setCell ⟨w.heap.size, 1, none⟩ vb) := by
  have h1 := h.low
  have h2 := h.gw
  have h3 := h.mq
  have kS : Keep w.heap.size (w.heap.size + 1) wr ((wr.setCell ⟨w.heap.size, 0, none⟩ va).setCell ⟨w.heap.size, 1, none⟩ vb) :=
    ((Keep.refl w.heap.size (w.heap.size + 1) wr).setCell (p := ⟨w.heap.size, 0, none⟩) (.inl ⟨Nat.le_refl _, Nat.lt_succ_self _⟩) _).setCell (p := ⟨w.heap.size, 1, none⟩) (.inl ⟨Nat.le_refl _, Nat.lt_succ_self _⟩) _
  exact ⟨va, vb, vi', vo', ks, sl, inner', outer', rfl, l1, l2, l3, l4, (h.kb.a.keep kS (.inr (.inl h1))).mono (by omega) kS.size, (h.kb.b.keep kS (.inr (.inl h1))).mono (by omega) kS.size,
    (ri.keep kS (.inr (.inl (Nat.le_refl _)))).mono (Nat.le_succ _) kS.size, (ro.keep kS (.inr (.inl (Nat.le_refl _)))).mono (Nat.le_succ _) kS.size, h.cur.keep kS (.inl h2),
    (h.keep.setCell (p := ⟨w.heap.size, 0, none⟩) (.inr (Nat.le_refl _)) _).setCell (p := ⟨w.heap.size, 1, none⟩) (.inr (Nat.le_refl _)) _⟩
set_option maxRecDepth 100000 in
set_option maxHeartbeats 8000000 in
theorem l07Case_any (w : World) (g : Nat) (hc : Cur w g) : Calls Try.prog 84 #[.pointer (some ⟨g, 0, none⟩)] w (DrawnCase w g) := by
  have hg := hc.lt
  have k0 := (Keep.refl g (g + 1) w).alloc (.cells #[.slice none 0 0, .slice none 0 0] 55)
  have hc0 := hc.keep0 (keep_1 w (.cells #[.slice none 0 0, .slice none 0 0] 55))
  have R0 := Lo.new w 55 #[.slice none 0 0, .slice none 0 0] rfl
  have hz0 : (w.alloc (.cells #[.slice none 0 0, .slice none 0 0] 55)).heap.size = w.heap.size + 1 := by simp
  go_enter Try.func84, Try.ntmps84
  go_wp2_with fail
  generalize w.alloc (.cells #[.slice none 0 0, .slice none 0 0] 55) = W0 at k0 hc0 R0 hz0 ⊢
  refine (l03Table_any W0 g hc0 4 (by omega) 8 (by omega) (by omega)).mono ?_
  rintro e W1 ⟨vi, li, rfl, P1⟩
  obtain ⟨inner, hin, ri1, hli⟩ := twos_row (N := 8) P1.2.1.row (by rw [P1.1]; omega)
  have hli2 : inner.length = 4 := by have := P1.1; rw [← hin, twosI_length] at this; omega
  have hc1 := P1.2.2.1
  have j1 := P1.2.2.2
  have k1 := k0.win j1
  have R1 := R0.move j1 hg
  rw [hz0] at ri1
  clear P1 hin k0 R0 hc0 j1 hli
  go_wp2_with fail
  refine (l03Table_any W1 g hc1 8 (by omega) 24 (by omega) (by omega)).mono ?_
  rintro e W2 ⟨vo, lo, rfl, P2⟩
  obtain ⟨outer, hout, ro2, hlo⟩ := twos_row (N := 16) P2.2.1.row (by rw [P2.1]; omega)
  have hlo2 : outer.length = 8 := by have := P2.1; rw [← hout, twosI_length] at this; omega
  have hc2 := P2.2.2.1
  have j2 := P2.2.2.2
  have k2 := k1.win j2
  have R2 := R1.move j2 hg
  have ri2 := (ri1.keep j2 (by omega)).mono (Nat.le_refl _) j2.size
  have ro3 := ro2.mono (lo' := w.heap.size + 1) R1.lt (Nat.le_refl _)
  clear P2 hout k1 R1 hc1 j2 hlo ri1 ro2
  go_wp2_with fail
  refine (specKeptNew_4 W2).mono ?_
  rintro e W3 ⟨va, vb, rfl, hd3, j3⟩
  obtain ⟨CA, na, ca, rfl⟩ := hd3.a.slice
  obtain ⟨CB, nb, cb, rfl⟩ := hd3.b.slice
  have KB0 := Lib.hid (KC.new (B := W2.heap.size) hd3 (Nat.le_refl _))
  have j4 := keep_1 W3 (.cells #[.slice CA na ca, .slice CB nb cb] 55)
  have C4 := Lib.hid ((hc2.keep0 j3).keep0 j4)
  have K4 := Lib.hid ((k2.win (j3.any0 _ _)).win (j4.any0 _ _))
  have R4 := Lib.hid ((R2.keep0 j3).keep0 j4)
  have RI4 := Lib.hid ((ri2.keep j3 (.inr (.inr (Nat.le_refl 0)))).keep j4 (.inr (.inr (Nat.le_refl 0))))
  have RO4 := Lib.hid ((ro3.keep j3 (.inr (.inr (Nat.le_refl 0)))).keep j4 (.inr (.inr (Nat.le_refl 0))))
  have HQ := Lib.hid (show w.heap.size + 1 ≤ W2.heap.size from R2.lt)
  have HQ2 := Lib.hid j3.size
  clear hd3 j3 j4 hc2 k2 R2 ri2 ro3
  have HI := Lib.hid (show CaseS w g W2.heap.size W3.heap.size vi vo inner outer (W3.alloc (.cells #[.slice CA na ca, .slice CB nb cb] 55)) (.slice CA na ca) (.slice CB nb cb) (List.replicate 4 false) (noTab 4) from ⟨KB0.out, C4.out, K4.out, R4.out, RI4.out, RO4.out, HQ.out, HQ2.out, hg⟩)
  clear KB0 C4 K4 R4 RI4 RO4 HQ HQ2
  obtain ⟨Q, hQ⟩ : ∃ Q, W3.heap.size = Q := ⟨_, rfl⟩
  obtain ⟨M, hM⟩ : ∃ M, W2.heap.size = M := ⟨_, rfl⟩
  rw [hQ, hM] at HI
  clear hM
  go_wp2
  clear hQ
  go_loopw [8] (fun i wr => ∃ (k : Nat) (va vb : Value) (ks : List Bool) (sl : List Two), k ≤ 4 ∧ i = .int .i64 k ∧ ks.length = 4 ∧ sl.length = 4 ∧ CaseS w g M Q vi vo inner outer wr va vb ks sl) (fun i _ => 5 - (intOf i).toNat)
  case atStart => exact ⟨0, _, _, _, _, Nat.zero_le _, rfl, by simp, noTab_length 4, HI.out⟩
  case round =>
    obtain ⟨k, va, vb, ks, sl, hk, rfl, hk4, hs4, hS⟩ := hrel
    obtain ⟨A2, n2, c2, B2, m2, d2, rfl, rfl, hn2, hm2⟩ := hS.lens
    obtain rfl : n2 = 4 := by omega
    obtain rfl : m2 = 4 := by omega
    clear HI hn2 hm2
    go_wp2_with fail
    refine (l01Below_any wr g hS.cur 5 (by omega) (by omega)).mono ?_
    rintro e W5 ⟨x, rfl, x0, x1, hc5, j5⟩
    have S5 := hS.move hc5 j5
    clear hS hc5 j5
    by_cases hlt : (k : Int) < x
    · have hd : decide ((k : Int) < x) = true := by simpa using hlt
      have HS := Lib.hid (show ∀ w1 : World, CaseS w g M Q vi vo inner outer w1 (.slice A2 4 c2) (.slice B2 4 d2) ks sl → (w1.cell? ⟨Q, 0, none⟩ = some (.slice A2 4 c2) ∧ w1.cell? ⟨Q, 1, none⟩ = some (.slice B2 4 d2) ∧ w1.frozen? ⟨Q, 0, none⟩ = false ∧ w1.frozen? ⟨Q, 1, none⟩ = false ∧ CaseS w g M Q vi vo inner outer w1 (.slice A2 4 c2) (.slice B2 4 d2) ks sl) from fun w1 h => by
        obtain ⟨y0, y1, y2, y3⟩ := h.kb.box.c2
        exact ⟨y0, y1, y2, y3, h⟩)
      have HD := Lib.hid (show ∀ w1 : World, (w1.cell? ⟨Q, 0, none⟩ = some (.slice A2 4 c2) ∧ w1.cell? ⟨Q, 1, none⟩ = some (.slice B2 4 d2) ∧ w1.frozen? ⟨Q, 0, none⟩ = false ∧ w1.frozen? ⟨Q, 1, none⟩ = false ∧ CaseS w g M Q vi vo inner outer w1 (.slice A2 4 c2) (.slice B2 4 d2) ks sl) → (w1.drew.cell? ⟨Q, 0, none⟩ = some (.slice A2 4 c2) ∧ w1.drew.cell? ⟨Q, 1, none⟩ = some (.slice B2 4 d2) ∧ w1.drew.frozen? ⟨Q, 0, none⟩ = false ∧ w1.drew.frozen? ⟨Q, 1, none⟩ = false ∧ CaseS w g M Q vi vo inner outer w1.drew (.slice A2 4 c2) (.slice B2 4 d2) ks sl) from fun w1 ⟨_, _, _, _, h⟩ => HS.out _ h.drew)
      have HC1 := Lib.hid (show ∀ w1 : World, (w1.cell? ⟨Q, 0, none⟩ = some (.slice A2 4 c2) ∧ w1.cell? ⟨Q, 1, none⟩ = some (.slice B2 4 d2) ∧ w1.frozen? ⟨Q, 0, none⟩ = false ∧ w1.frozen? ⟨Q, 1, none⟩ = false ∧ CaseS w g M Q vi vo inner outer w1 (.slice A2 4 c2) (.slice B2 4 d2) ks sl) → Calls Try.prog 62 #[.pointer (some ⟨g, 0, none⟩), .int .i64 4] w1 fun e w' => ∃ x : Int, e = .returned (.int .i64 x) ∧ (w'.cell? ⟨Q, 0, none⟩ = some (.slice A2 4 c2) ∧ w'.cell? ⟨Q, 1, none⟩ = some (.slice B2 4 d2) ∧ w'.frozen? ⟨Q, 0, none⟩ = false ∧ w'.frozen? ⟨Q, 1, none⟩ = false ∧ CaseS w g M Q vi vo inner outer w' (.slice A2 4 c2) (.slice B2 4 d2) ks sl) from fun w1 ⟨_, _, _, _, h⟩ =>
        (l01Below_any w1 g h.cur 4 (by omega) (by omega)).mono fun e w' ⟨x, q1, _, _, q4, q5⟩ => ⟨x, q1, HS.out _ (h.move q4 q5)⟩)
      have HC2 := Lib.hid (show ∀ (w1 : World) (x : Int), (w1.cell? ⟨Q, 0, none⟩ = some (.slice A2 4 c2) ∧ w1.cell? ⟨Q, 1, none⟩ = some (.slice B2 4 d2) ∧ w1.frozen? ⟨Q, 0, none⟩ = false ∧ w1.frozen? ⟨Q, 1, none⟩ = false ∧ CaseS w g M Q vi vo inner outer w1 (.slice A2 4 c2) (.slice B2 4 d2) ks sl) → Calls Try.prog 100 #[.agg #[.slice A2 4 c2, .slice B2 4 d2], vi, vo, .int .i64 x] w1 fun e w' => ∃ (A3 : Option Addr) (n3 c3 : Nat) (B3 : Option Addr) (m3 d3 : Nat), e = .returned (.agg #[.slice A3 n3 c3, .slice B3 m3 d3]) ∧ (w'.cell? ⟨Q, 0, none⟩ = some (.slice A2 4 c2) ∧ w'.cell? ⟨Q, 1, none⟩ = some (.slice B2 4 d2) ∧ w'.frozen? ⟨Q, 0, none⟩ = false ∧ w'.frozen? ⟨Q, 1, none⟩ = false ∧ CaseS w g M Q vi vo inner outer w' (.slice A2 4 c2) (.slice B2 4 d2) ks sl) ∧
          ∃ ks' sl', ks'.length = 4 ∧ sl'.length = 4 ∧ CaseS w g M Q vi vo inner outer ((w'.setCell ⟨Q, 0, none⟩ (.slice A3 n3 c3)).setCell ⟨Q, 1, none⟩ (.slice B3 m3 d3)) (.slice A3 n3 c3) (.slice B3 m3 d3) ks' sl' from fun w1 x ⟨_, _, _, _, h⟩ => by
        refine (specFill_any w1 _ _ _ _ (.slice A2 4 c2) (.slice B2 4 d2) _ _ ks sl inner outer x h.kb.a.rd h.kb.b.rd h.ri.rd h.ro.rd (Nat.le_refl _) (Nat.le_refl _) (Nat.le_of_lt (Nat.lt_of_le_of_lt h.mq h.kb.box.lt)) (by omega) (by rw [twosI_length]; omega)).mono ?_
        rintro e w5 ⟨v5, u5, rfl, hd5, k5⟩
        obtain ⟨A5, n5, c5, rfl⟩ := hd5.a.slice
        obtain ⟨B5, m5, d5, rfl⟩ := hd5.b.slice
        have hl := fillT_length ks sl inner outer x
        exact ⟨A5, n5, c5, B5, m5, d5, rfl, HS.out _ (h.quiet k5), _, _, by omega, by omega, h.step k5 hd5⟩)
      have H5 := HS.out _ S5
      go_upto_region 7 with (fail)
      obtain ⟨y0, y1, y2, y3, _⟩ := id H5
      have H6 := HD.out _ H5
      go_region_with
        (first
          | (go_at_call 62; refine (HC1.out _ ?_).mono ?_; (with_reducible assumption); (rintro e w6 ⟨z, rfl, s6⟩); (obtain ⟨y0, y1, y2, y3, _⟩ := id s6))
          | (go_at_call 100; refine (HC2.out _ _ ?_).mono ?_; (with_reducible assumption); (rintro e w7 ⟨A3, n3, c3, B3, m3, d3, rfl, s7, hn⟩); (have HN := Lib.hid hn); (clear hn); (obtain ⟨y0, y1, y2, y3, _⟩ := id s7))
          | fail)
      all_goals
        obtain ⟨ks', sl', l1, l2, hN⟩ := HN.out
        have HN2 := Lib.hid hN
        clear hN HN
        go_wp2
        go_roundw
        case rel => exact ⟨k + 1, _, _, ks', sl', by omega, by go_num, l1, l2, HN2.out⟩
        case measure => simp [intOf]; omega
    · have hd : decide ((k : Int) < x) = false := by simpa using hlt
      clear hlt x0 x1
      go_wp2_with fail
      refine (l01Below_any W5 g S5.cur 10 (by omega) (by omega)).mono ?_
      rintro e W6 ⟨y, rfl, y0, y1, hc6, j6⟩
      have S6 := S5.move hc6 j6
      clear S5 hc6 j6
      have HQ : y = 0 ∨ y = 1 ∨ y = 2 ∨ y = 3 ∨ (y ≠ 0 ∧ y ≠ 1 ∧ y ≠ 2 ∧ y ≠ 3) := by omega
      clear y0 y1 hd hk
      rcases HQ with rfl | rfl | rfl | rfl | ⟨n0, n1, n2, n3⟩
      · obtain ⟨q, off, rfl, _, _, _, _⟩ := S6.kb.b.at_ (by omega)
        have HS := Lib.hid (show ∀ w1 : World, CaseS w g M Q vi vo inner outer w1 (.slice A2 4 c2) (.slice (some ⟨q, off, none⟩) 4 d2) ks sl → (w1.cell? ⟨Q, 0, none⟩ = some (.slice A2 4 c2) ∧ w1.cell? ⟨Q, 1, none⟩ = some (.slice (some ⟨q, off, none⟩) 4 d2) ∧ w1.frozen? ⟨Q, 0, none⟩ = false ∧ w1.frozen? ⟨Q, 1, none⟩ = false ∧ CaseS w g M Q vi vo inner outer w1 (.slice A2 4 c2) (.slice (some ⟨q, off, none⟩) 4 d2) ks sl) from fun w1 h => by
          obtain ⟨y0, y1, y2, y3⟩ := h.kb.box.c2
          exact ⟨y0, y1, y2, y3, h⟩)
        have HC1 := Lib.hid (show ∀ w1 : World, (w1.cell? ⟨Q, 0, none⟩ = some (.slice A2 4 c2) ∧ w1.cell? ⟨Q, 1, none⟩ = some (.slice (some ⟨q, off, none⟩) 4 d2) ∧ w1.frozen? ⟨Q, 0, none⟩ = false ∧ w1.frozen? ⟨Q, 1, none⟩ = false ∧ CaseS w g M Q vi vo inner outer w1 (.slice A2 4 c2) (.slice (some ⟨q, off, none⟩) 4 d2) ks sl) → Calls Try.prog 62 #[.pointer (some ⟨g, 0, none⟩), .int .i64 4] w1 fun e w' => ∃ j : Nat, e = .returned (.int .i64 j) ∧ j < 4 ∧ (w'.cell? ⟨Q, 0, none⟩ = some (.slice A2 4 c2) ∧ w'.cell? ⟨Q, 1, none⟩ = some (.slice (some ⟨q, off, none⟩) 4 d2) ∧ w'.frozen? ⟨Q, 0, none⟩ = false ∧ w'.frozen? ⟨Q, 1, none⟩ = false ∧ CaseS w g M Q vi vo inner outer w' (.slice A2 4 c2) (.slice (some ⟨q, off, none⟩) 4 d2) ks sl) from fun w1 ⟨_, _, _, _, h⟩ =>
          (l01Below_any w1 g h.cur 4 (by omega) (by omega)).mono fun e w' ⟨x, q1, q2, q3, q4, q5⟩ => ⟨x.toNat, by rw [q1, Int.toNat_of_nonneg q2], by omega, HS.out _ (h.move q4 q5)⟩)
        have H5 := HS.out _ S6
        have H6 := HS.out _ S6.drew
        have HC2 := Lib.hid (show ∀ w1 : World, (w1.cell? ⟨Q, 0, none⟩ = some (.slice A2 4 c2) ∧ w1.cell? ⟨Q, 1, none⟩ = some (.slice (some ⟨q, off, none⟩) 4 d2) ∧ w1.frozen? ⟨Q, 0, none⟩ = false ∧ w1.frozen? ⟨Q, 1, none⟩ = false ∧ CaseS w g M Q vi vo inner outer w1 (.slice A2 4 c2) (.slice (some ⟨q, off, none⟩) 4 d2) ks sl) → Calls Try.prog 94 #[.pointer (some ⟨g, 0, none⟩), .int .i64 24] w1 fun e w' => ∃ a b : Int, e = .returned (.agg #[.int .i64 a, .int .i64 b]) ∧ (w'.cell? ⟨Q, 0, none⟩ = some (.slice A2 4 c2) ∧ w'.cell? ⟨Q, 1, none⟩ = some (.slice (some ⟨q, off, none⟩) 4 d2) ∧ w'.frozen? ⟨Q, 0, none⟩ = false ∧ w'.frozen? ⟨Q, 1, none⟩ = false ∧ CaseS w g M Q vi vo inner outer w' (.slice A2 4 c2) (.slice (some ⟨q, off, none⟩) 4 d2) ks sl) from fun w1 ⟨_, _, _, _, h⟩ =>
          (l03Any_any w1 g h.cur 24 (by omega) (by omega)).mono fun e w' ⟨a, b, q1, q4, q5⟩ => ⟨a, b, q1, HS.out _ (h.move q4 q5)⟩)
        have hs9 := Lib.hid hs4
        go_upto_region 10 with (fail)
        obtain ⟨y0, y1, y2, y3, _⟩ := id H5
        go_region_with
          (first
            | (go_at_call 62; refine (HC1.out _ ?_).mono ?_; (with_reducible assumption); (rintro e w7 ⟨j, rfl, hj, s7⟩); (obtain ⟨y0, y1, y2, y3, _⟩ := id s7); have hj4 : (j : Int) < 4 := (by omega))
            | (go_at_call 94; refine (HC2.out _ ?_).mono ?_; (with_reducible assumption); (rintro e w8 ⟨a, b, rfl, s8⟩); (obtain ⟨y0, y1, y2, y3, s9⟩ := id s8); (obtain ⟨z0, z1, c0, c1, e0, e1, SN⟩ := s9.slot hs9.out j hj a b); (have HN := Lib.hid SN); (clear SN))
            | fail)
        all_goals
          clear c0 c1 e0 e1 y0 y1 y2 y3 s7 s8 s9 H5 H6
          generalize (w8.setCell ⟨q, off + j * 2, none⟩ (.int .i64 a)).setCell ⟨q, off + j * 2 + 1, none⟩ (.int .i64 b) = W9 at HN ⊢
          obtain ⟨z0, z1, z2, z3⟩ := HN.out.kb.box.c2
          obtain ⟨r0, r1, r2, r3⟩ := HN.out.res.c2
          go_wp2
          refine bodyPost_ret (v := .tuple #[.agg #[.slice A2 4 c2, .slice (some ⟨q, off, none⟩) 4 d2], vi, vo]) (by simp [results, Try.results84, go_sem, r0, r1]) rfl ?_
          exact case_end HN.out ((HN.out.ri.mono (Nat.le_refl _) (Nat.le_of_lt (Nat.lt_of_le_of_lt HN.out.mq HN.out.kb.box.lt)))) ((HN.out.ro.mono (Nat.le_refl _) (Nat.le_of_lt (Nat.lt_of_le_of_lt HN.out.mq HN.out.kb.box.lt)))) (by omega) (by rw [List.length_set]; omega) (by omega) (by omega)
      · have hcap := S6.kb.a.len.2
        unfold maxLen at hcap
        obtain ⟨hcap1, hcap2⟩ := hcap
        have HS := Lib.hid (show ∀ w1 : World, CaseS w g M Q vi vo inner outer w1 (.slice A2 4 c2) (.slice B2 4 d2) ks sl → (w1.cell? ⟨Q, 0, none⟩ = some (.slice A2 4 c2) ∧ w1.cell? ⟨Q, 1, none⟩ = some (.slice B2 4 d2) ∧ w1.frozen? ⟨Q, 0, none⟩ = false ∧ w1.frozen? ⟨Q, 1, none⟩ = false ∧ CaseS w g M Q vi vo inner outer w1 (.slice A2 4 c2) (.slice B2 4 d2) ks sl) from fun w1 h => by
          obtain ⟨y0, y1, y2, y3⟩ := h.kb.box.c2
          exact ⟨y0, y1, y2, y3, h⟩)
        have HC1 := Lib.hid (show ∀ w1 : World, (w1.cell? ⟨Q, 0, none⟩ = some (.slice A2 4 c2) ∧ w1.cell? ⟨Q, 1, none⟩ = some (.slice B2 4 d2) ∧ w1.frozen? ⟨Q, 0, none⟩ = false ∧ w1.frozen? ⟨Q, 1, none⟩ = false ∧ CaseS w g M Q vi vo inner outer w1 (.slice A2 4 c2) (.slice B2 4 d2) ks sl) → Calls Try.prog 62 #[.pointer (some ⟨g, 0, none⟩), .int .i64 4] w1 fun e w' => ∃ j : Nat, e = .returned (.int .i64 j) ∧ j < 4 ∧ (w'.cell? ⟨Q, 0, none⟩ = some (.slice A2 4 c2) ∧ w'.cell? ⟨Q, 1, none⟩ = some (.slice B2 4 d2) ∧ w'.frozen? ⟨Q, 0, none⟩ = false ∧ w'.frozen? ⟨Q, 1, none⟩ = false ∧ CaseS w g M Q vi vo inner outer w' (.slice A2 4 c2) (.slice B2 4 d2) ks sl) from fun w1 ⟨_, _, _, _, h⟩ =>
          (l01Below_any w1 g h.cur 4 (by omega) (by omega)).mono fun e w' ⟨x, q1, q2, q3, q4, q5⟩ => ⟨x.toNat, by rw [q1, Int.toNat_of_nonneg q2], by omega, HS.out _ (h.move q4 q5)⟩)
        have H5 := HS.out _ S6
        have H6 := HS.out _ S6.drew
        go_upto_region 12 with (fail)
        obtain ⟨y0, y1, y2, y3, _⟩ := id H5
        go_region_with
          (first
            | (go_at_call 62; refine (HC1.out _ ?_).mono ?_; (with_reducible assumption); (rintro e w7 ⟨j, rfl, hj, s7⟩); (obtain ⟨y0, y1, y2, y3, s9⟩ := id s7); (have hjc : (j : Int) ≤ c2 := (by omega)); (have hj0 : (0 : Int) ≤ j := (by omega)); have HN := Lib.hid (s9.known (x := j) (Nat.le_of_lt hj)))
            | fail)
        all_goals
          clear y0 y1 y2 y3 s7 s9 H5 H6
          generalize w7.setCell ⟨Q, 0, none⟩ (.slice A2 j c2) = W9 at HN ⊢
          obtain ⟨z0, z1, z2, z3⟩ := HN.out.kb.box.c2
          obtain ⟨r0, r1, r2, r3⟩ := HN.out.res.c2
          go_wp2
          refine bodyPost_ret (v := .tuple #[.agg #[.slice A2 j c2, .slice B2 4 d2], vi, vo]) (by simp [results, Try.results84, go_sem, r0, r1]) rfl ?_
          exact case_end HN.out ((HN.out.ri.mono (Nat.le_refl _) (Nat.le_of_lt (Nat.lt_of_le_of_lt HN.out.mq HN.out.kb.box.lt)))) ((HN.out.ro.mono (Nat.le_refl _) (Nat.le_of_lt (Nat.lt_of_le_of_lt HN.out.mq HN.out.kb.box.lt)))) (by rw [List.length_take]; omega) (by omega) (by omega) (by omega)
      · obtain ⟨I, ni, ci, rfl⟩ := S6.ri.slice
        have hni : ni = 4 := by have := S6.ri.len.1; rw [ints_length, twosI_length] at this; omega
        subst hni
        have hcap := S6.ri.len.2
        unfold maxLen at hcap
        obtain ⟨hcap1, hcap2⟩ := hcap
        go_wp2_with fail
        refine (l01Below_any _ g S6.cur 4 (by omega) (by omega)).mono ?_
        rintro e W7 ⟨y, rfl, y0, y1, hc7, j7⟩
        obtain ⟨j, rfl⟩ := Int.eq_ofNat_of_zero_le y0
        have S7 := Lib.hid (S6.move hc7 j7)
        have hj : j ≤ 4 := by omega
        have hjc : (j : Int) ≤ ci := by omega
        have hj0 : (0 : Int) ≤ j := by omega
        have RI := Lib.hid ((S7.out.ri.lowS hj).mono (Nat.le_refl _) (Nat.le_of_lt (Nat.lt_of_le_of_lt S7.out.mq S7.out.kb.box.lt)))
        clear S6 hc7 j7 y0
        obtain ⟨z0, z1, z2, z3⟩ := S7.out.kb.box.c2
        obtain ⟨r0, r1, r2, r3⟩ := S7.out.res.c2
        go_wp2
        refine bodyPost_ret (v := .tuple #[.agg #[.slice A2 4 c2, .slice B2 4 d2], .slice I j ci, vo]) (by simp [results, Try.results84, go_sem, r0, r1]) rfl ?_
        exact case_end S7.out RI.out ((S7.out.ro.mono (Nat.le_refl _) (Nat.le_of_lt (Nat.lt_of_le_of_lt S7.out.mq S7.out.kb.box.lt)))) (by omega) (by omega) (by rw [List.length_take]; omega) (by omega)
      · go_wp2_with fail
        refine (l03AnyTable_any _ g S6.cur 8 (by omega) (by omega) 24 (by omega) (by omega)).mono ?_
        rintro e W7 ⟨v7, l7, rfl, hl7, r7, hc7, j7⟩
        obtain ⟨outer2, hout2, ro7, hlo7⟩ := twos_row r7 hl7
        have S7 := Lib.hid (S6.move hc7 j7)
        have RO := Lib.hid (ro7.mono (lo' := w.heap.size + 1) S6.res.lt (Nat.le_refl _))
        clear S6 hc7 j7 r7 ro7 hout2 hl7
        obtain ⟨z0, z1, z2, z3⟩ := S7.out.kb.box.c2
        obtain ⟨r0, r1, r2, r3⟩ := S7.out.res.c2
        go_wp2
        refine bodyPost_ret (v := .tuple #[.agg #[.slice A2 4 c2, .slice B2 4 d2], vi, v7]) (by simp [results, Try.results84, go_sem, r0, r1]) rfl ?_
        exact case_end S7.out ((S7.out.ri.mono (Nat.le_refl _) (Nat.le_of_lt (Nat.lt_of_le_of_lt S7.out.mq S7.out.kb.box.lt)))) RO.out (by omega) (by omega) (by omega) (by omega)
      · have m0 : (y == 0) = false := by simpa using n0
        have m1 : (y == 1) = false := by simpa using n1
        have m2 : (y == 2) = false := by simpa using n2
        have m3 : (y == 3) = false := by simpa using n3
        have S7 := Lib.hid S6
        clear n0 n1 n2 n3 S6
        obtain ⟨z0, z1, z2, z3⟩ := S7.out.kb.box.c2
        obtain ⟨r0, r1, r2, r3⟩ := S7.out.res.c2
        go_wp2
        refine bodyPost_ret (v := .tuple #[.agg #[.slice A2 4 c2, .slice B2 4 d2], vi, vo]) (by simp [results, Try.results84, go_sem, r0, r1]) rfl ?_
        exact case_end S7.out ((S7.out.ri.mono (Nat.le_refl _) (Nat.le_of_lt (Nat.lt_of_le_of_lt S7.out.mq S7.out.kb.box.lt)))) ((S7.out.ro.mono (Nat.le_refl _) (Nat.le_of_lt (Nat.lt_of_le_of_lt S7.out.mq S7.out.kb.box.lt)))) (by omega) (by omega) (by omega) (by omega)
end Go.Proofs.Ytcoipfnphmealaa
