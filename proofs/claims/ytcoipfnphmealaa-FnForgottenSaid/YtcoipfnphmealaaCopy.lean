/-
  Contracts of the copies of what is kept: two slices copied in one statement whose order is open.
-/
import Derived.Test.YtcoipfnphmealaaKept
import Derived.Test.YtcoipfnphmealaaApp
import Derived.Test.YtcoipfnphmealaaCut
import Derived.Deep.RegionHeld3
namespace Go.Proofs.Ytcoipfnphmealaa
open Go.RowKit

/-- Rows of two element types lie in two blocks. -/
theorem duo_of {w : World} {lo hi : Nat} {va vb : Value} {cs ds : List Value} (ha : Row w lo hi 4 1 va cs) (hb : Row w lo hi 67 2 vb ds) (hlh : lo ≤ hi) : Duo w lo hi va vb cs ds := by
  obtain ⟨A, n, c, rfl, a1, a2, a3, a4⟩ := ha
  obtain ⟨B, m, d, rfl, b1, b2, b3, b4⟩ := hb
  rcases Nat.eq_zero_or_pos n with hn | hn
  · exact ⟨lo, Nat.le_refl _, hlh, .inl ⟨⟨A, n, c, rfl, a1, a2, a3, fun h => absurd h (by omega)⟩, ⟨B, m, d, rfl, b1, b2, b3, b4⟩⟩⟩
  rcases Nat.eq_zero_or_pos m with hm | hm
  · exact ⟨hi, hlh, Nat.le_refl _, .inl ⟨⟨A, n, c, rfl, a1, a2, a3, a4⟩, ⟨B, m, d, rfl, b1, b2, b3, fun h => absurd h (by omega)⟩⟩⟩
  obtain ⟨g, o, cur, rfl, g1, g2, g3, g4⟩ := a4 hn
  obtain ⟨h, q, dur, rfl, h1, h2, h3, h4⟩ := b4 hm
  have hne : g ≠ h := by
    rintro rfl
    rw [g3] at h3
    injection h3 with h3
    injection h3 with _ h3 _
    exact absurd h3 (by decide)
  rcases Nat.lt_or_ge g h with hlt | hge
  · exact ⟨h, by omega, by omega, .inl ⟨⟨_, n, c, rfl, a1, a2, a3, fun _ => ⟨g, o, cur, rfl, g1, hlt, g3, g4⟩⟩, ⟨_, m, d, rfl, b1, b2, b3, fun _ => ⟨h, q, dur, rfl, Nat.le_refl _, h2, h3, h4⟩⟩⟩⟩
  · exact ⟨g, by omega, by omega, .inr ⟨⟨_, n, c, rfl, a1, a2, a3, fun _ => ⟨g, o, cur, rfl, Nat.le_refl _, g2, g3, g4⟩⟩, ⟨_, m, d, rfl, b1, b2, b3, fun _ => ⟨h, q, dur, rfl, h1, by omega, h3, h4⟩⟩⟩⟩
theorem Row.grown {w w' : World} {lo hi g : Nat} {E E0 : TypeId} {sz : Nat} {v : Value} {xs : List Value} {c0 : Array Value} (h : Row w lo hi E sz v xs) (hg : w.grownBy w' (some g)) (h0 : w.heap[g]? = some (.cells c0 E0 (0, 0))) (hne : E ≠ E0) : Row w' lo hi E sz v xs := by
  obtain ⟨A, n, c, rfl, a1, a2, a3, a4⟩ := h
  refine ⟨A, n, c, rfl, a1, a2, a3, fun hn => ?_⟩
  obtain ⟨k, o, cur, hA, g1, g2, g3, g4⟩ := a4 hn
  refine ⟨k, o, cur, hA, g1, g2, (hg.block k (Array.getElem?_eq_some_iff.1 g3).1 fun e => ?_).trans g3, g4⟩
  injection e with e
  subst e
  rw [h0] at g3
  injection g3 with g3
  injection g3 with _ g3 _
  exact hne g3.symm
theorem Keep.of_grown {w w' : World} {g : Nat} (h : w.grownBy w' (some g)) : Keep g (g + 1) w w' := ⟨h.os, h.tape, h.output, h.size, fun k h1 h2 => h.block k h1 (fun e => by injection e with e; omega)⟩
theorem grown_heap {W w' : World} {g k : Nat} {o : Obj} (hg : W.grownBy w' (some g)) (h : W.heap[k]? = some o) (hne : k ≠ g) : w'.heap[k]? = some o :=
  (hg.block k (Array.getElem?_eq_some_iff.1 h).1 (fun e => by injection e with e; exact hne e)).trans h
/-- An append of a slice that is there already to a literal of no element, inside a drawn region. -/
theorem step_append_fresh {P : Program} {X w : World} {ops : Array Oper} {o : Oper} {a : Act} {K : Act → World → Prop} {Q : Exit → Act → World → Prop} {F : Prop} (hgd : o.guard = none) (s x : Operand) (t : TypeId)
    (ho : o.op = .call { callee := .builtin .append, args := #[s, x], argTypes := #[t, t] })
    {e : TypeId} {z : Value} {sz bytes : Nat} (el : Elem P t e z sz bytes) {g : Nat} (hs : a.eval s = .slice (some ⟨g, 0, none⟩) 0 0) (hk : Keep 0 0 X w) (hg : w.heap[g]? = some (.cells #[] e (0, 0))) (hB : X.heap.size ≤ g)
    {A : Option Addr} {m c hi : Nat} (hx : a.eval x = .slice A m c) (news : List Value) (hr : Rd X hi sz (.slice A m c) news) (hhi : hi ≤ X.heap.size) (h1 : ∀ u ∈ news, u.oneCell' = true)
    (hbytes : (0 + m) * bytes ≤ 140737488355328) (h63 : 0 + m ≤ maxLen)
    (h : ∀ v' w', Row w' X.heap.size w'.heap.size e sz v' news → Keep 0 0 X w' → w.grownBy w' (some g) → K (a.put o.dst v') w') :
    if Region.wanted o (yielded ops a.tmps) = true then Oper.wp P o a w K Q else F := by
  have hw : Region.wanted o (yielded ops a.tmps) = true := by simp [Region.wanted, hgd]
  rw [if_pos hw]
  have hb : Bld X X.heap.size e sz w (.slice (some ⟨g, 0, none⟩) 0 0) 0 [] := bld_empty hk hg hB
  have hr' := hr.keep hk hhi (.inr (Nat.le_refl 0))
  obtain ⟨A', m', c', e1, _, _, hl, hc⟩ := hr'
  injection e1 with e2 e3 e4
  subst e2 e3 e4
  obtain ⟨i, hi1, hz, hsz, hby⟩ := el.inf
  rcases A with _ | ad
  · have hm : m = 0 := by
      rcases Nat.eq_zero_or_pos m with h0 | h0
      · exact h0
      · obtain ⟨_, _, h, _⟩ := hc h0
        cases h
    subst hm
    obtain rfl : news = [] := List.eq_nil_of_length_eq_zero (by simpa using hl)
    have hrun := run_append_of_nil (P := P) w X.heap.size t o.type e i sz el.und hi1 _ 0 [] hb.own c
    have hk2 := h _ w (by have := hb.row; exact this) hk ⟨rfl, rfl, rfl, Nat.le_refl _, fun _ _ _ => rfl⟩
    unfold Oper.wp
    simp [execOp, ho, resolve, invoke, builtin, hs, hx, hrun, Result.andThen]
    exact hk2
  · refine wp_append_own _ s x t ho _ e i z sz bytes el.und hi1 hz hsz hby el.zs el.pos _ 0 [] hs hb.own ad m c news hx hl (fun j u hu => ?_) h1 h63 hbytes hb.le fun v' w' h2 h3 _ => ?_
    · rcases Nat.eq_zero_or_pos m with h0 | h0
      · subst h0
        obtain rfl : news = [] := List.eq_nil_of_length_eq_zero (by simpa using hl)
        simp at hu
      · obtain ⟨b, off, hA, _, hcell⟩ := hc h0
        injection hA with hA
        subst hA
        rw [show (⟨b, off, none⟩ : Addr).add j = ⟨b, off + j, none⟩ from by unfold Addr.add; split <;> simp_all]
        exact hcell j u hu
    · rw [List.nil_append] at h2
      have h4 : w.grownBy w' (some g) := h3
      exact h v' w' (Row.of_own h2) (hk.trans (Keep.of_grown h4) fun k hk1 _ => by omega) h4
theorem copy_end {w X w3 : World} {C D : Option Addr} {n1 c1 n2 c2 hi : Nat} {cs ds : List Value} (KW : Keep 0 0 w X) (hk : Keep 0 0 X w3) (hs : w.heap.size + 2 = X.heap.size) (hh : hi ≤ w3.heap.size)
    (ha : Row w3 X.heap.size hi 4 1 (.slice C n1 c1) cs) (hb : Row w3 X.heap.size w3.heap.size 67 2 (.slice D n2 c2) ds) :
    Duo ((w3.setCell ⟨w.heap.size + 1, 0, none⟩ (.slice C n1 c1)).setCell ⟨w.heap.size + 1, 1, none⟩ (.slice D n2 c2)) w.heap.size ((w3.setCell ⟨w.heap.size + 1, 0, none⟩ (.slice C n1 c1)).setCell ⟨w.heap.size + 1, 1, none⟩ (.slice D n2 c2)).heap.size (.slice C n1 c1) (.slice D n2 c2) cs ds ∧
    Keep 0 0 w ((w3.setCell ⟨w.heap.size + 1, 0, none⟩ (.slice C n1 c1)).setCell ⟨w.heap.size + 1, 1, none⟩ (.slice D n2 c2)) := by
  have kT : Keep (w.heap.size + 1) (w.heap.size + 2) w3 ((w3.setCell ⟨w.heap.size + 1, 0, none⟩ (.slice C n1 c1)).setCell ⟨w.heap.size + 1, 1, none⟩ (.slice D n2 c2)) :=
    ((Keep.refl (w.heap.size + 1) (w.heap.size + 2) w3).setCell (p := ⟨w.heap.size + 1, 0, none⟩) (.inl ⟨Nat.le_refl _, Nat.lt_succ_self _⟩) _).setCell (p := ⟨w.heap.size + 1, 1, none⟩) (.inl ⟨Nat.le_refl _, Nat.lt_succ_self _⟩) _
  have hd := duo_of (ha.mono (Nat.le_refl _) hh) hb hk.size
  exact ⟨(hd.keep kT (by omega)).mono (by omega) kT.size, (KW.tr0 hk).trm kT (by omega)⟩
set_option maxRecDepth 100000 in
set_option maxHeartbeats 8000000 in
theorem speccopy_any (w : World) (h1 h2 : Nat) (va vb : Value) (ks : List Bool) (xs : List Int) (ra : Rd w h1 1 va (bols ks)) (rb : Rd w h2 2 vb (ints xs)) (z1 : h1 ≤ w.heap.size) (z2 : h2 ≤ w.heap.size) (hx1 : ks.length ≤ 1048576) (hx2 : xs.length ≤ 2097152) :
    Calls Try.prog 119 #[.agg #[va, vb]] w fun e w' => ∃ vc vd, e = .returned (.agg #[vc, vd]) ∧ Duo w' w.heap.size w'.heap.size vc vd (bols ks) (ints xs) ∧ Keep 0 0 w w' := by
  obtain ⟨A, n, c, rfl, _, _, hl1, _⟩ := id ra
  obtain ⟨B, m, d, rfl, _, _, hl2, _⟩ := id rb
  rw [bols_length] at hl1
  rw [ints_length] at hl2
  have hn9 : n ≤ 1048576 := by omega
  have hm9 : m ≤ 1048576 := by omega
  clear hl1 hl2
  obtain ⟨X, hX⟩ : ∃ X, X = ((w.alloc (.cells #[.slice A n c, .slice B m d] 55)).alloc (.cells #[.slice none 0 0, .slice none 0 0] 55)) := ⟨_, rfl⟩
  have KW : Keep 0 0 w X := by rw [hX]; exact keep_2 w _ _
  have ra1 := ra.keep KW z1 (.inr (Nat.le_refl 0))
  have rb1 := rb.keep KW z2 (.inr (Nat.le_refl 0))
  have za := Nat.le_trans z1 KW.size
  have zb := Nat.le_trans z2 KW.size
  have hsz : w.heap.size + 2 = X.heap.size := by rw [hX]; simp
  have b0 : X.cell? ⟨w.heap.size, 0, none⟩ = some (.slice A n c) := by rw [hX]; first | go_cell | (simp [go_sem]; done)
  have b1 : X.cell? ⟨w.heap.size, 1, none⟩ = some (.slice B m d) := by rw [hX]; first | go_cell | (simp [go_sem]; done)
  have r0 : X.cell? ⟨w.heap.size + 1, 0, none⟩ = some (.slice none 0 0) := by rw [hX]; first | go_cell | (simp [go_sem]; done)
  have r1 : X.cell? ⟨w.heap.size + 1, 1, none⟩ = some (.slice none 0 0) := by rw [hX]; first | go_cell | (simp [go_sem]; done)
  have f0 : X.frozen? ⟨w.heap.size + 1, 0, none⟩ = false := by rw [hX]; first | (simp [go_sem]; done) | simp
  have f1 : X.frozen? ⟨w.heap.size + 1, 1, none⟩ = false := by rw [hX]; first | (simp [go_sem]; done) | simp
  have hs2 : w.heap.size + 1 < X.heap.size := by omega
  have HS := Lib.hid (show ∀ w' : World, Keep 0 0 X w' → w'.cell? ⟨w.heap.size, 0, none⟩ = some (.slice A n c) ∧ w'.cell? ⟨w.heap.size, 1, none⟩ = some (.slice B m d) from fun w' h => ⟨h.cells (by omega) b0, h.cells (by omega) b1⟩)
  have R0 := Lib.hid r0
  have R1 := Lib.hid r1
  have F0 := Lib.hid f0
  have F1 := Lib.hid f1
  have HX := Lib.hid hX
  have HZ := Lib.hid hsz
  clear hX hsz b0 b1 r0 r1 f0 f1 ra rb
  go_enter Try.func119, Try.ntmps119
  go_wp2_with fail
  rw [← HX.out]
  go_region_held3 (fun w' => w'.cell? ⟨w.heap.size, 0, none⟩ = some (.slice A n c) ∧ w'.cell? ⟨w.heap.size, 1, none⟩ = some (.slice B m d))
    (first | (refine HS.out _ ?_; (repeat' (first | (with_reducible exact Keep.refl _ _ _) | (with_reducible assumption) | (with_reducible refine Keep.drewN ?_ _) | (with_reducible refine Keep.drew ?_) | (with_reducible refine Keep.alloc ?_ _))); done) | (go_keep; done) | fail)
    (first
      | (refine step_append_fresh (X := X) (by rfl) (.tmp 3) (.tmp 5) _ (by rfl) elBol (by rfl) (by (repeat' (first | (with_reducible exact Keep.refl _ _ _) | (with_reducible assumption) | (with_reducible refine Keep.drewN ?_ _) | (with_reducible refine Keep.drew ?_) | (with_reducible refine Keep.alloc ?_ _)))) (by first | exact Go.heap_alloc_new _ _ | exact heap2_new _ _ _ | exact heap2_old _ _ _ | exact grown_heap hgb3 (by first | exact heap2_new _ _ _ | exact heap2_old _ _ _) (by first | omega | simp)) (by first | exact Nat.le_refl _ | exact hkb3.size | simp) (by rfl) (bols ks) ra1 za (bols_one _) (by omega) (by unfold maxLen; omega) ?_; intro v2 w2 hra2 hka2 hga2; obtain ⟨C, n1, c1, rfl⟩ := hra2.slice; have q0 := hka2.cells hs2 R0.out; have q1 := hka2.cells hs2 R1.out; have e0 := hka2.free hs2 F0.out; have e1 := hka2.free hs2 F1.out)
      | (refine step_append_fresh (X := X) (by rfl) (.tmp 7) (.tmp 9) _ (by rfl) elSlot (by rfl) (by (repeat' (first | (with_reducible exact Keep.refl _ _ _) | (with_reducible assumption) | (with_reducible refine Keep.drewN ?_ _) | (with_reducible refine Keep.drew ?_) | (with_reducible refine Keep.alloc ?_ _)))) (by first | exact Go.heap_alloc_new _ _ | exact heap2_new _ _ _ | exact heap2_old _ _ _ | exact grown_heap hga2 (by first | exact heap2_new _ _ _ | exact heap2_old _ _ _) (by first | omega | simp)) (by first | exact Nat.le_refl _ | exact hka2.size | simp) (by rfl) (ints xs) rb1 zb (ints_one _) (by omega) (by unfold maxLen; omega) ?_; intro v3 w3 hrb3 hkb3 hgb3; obtain ⟨D, n2, c2, rfl⟩ := hrb3.slice; have q0 := hkb3.cells hs2 R0.out; have q1 := hkb3.cells hs2 R1.out; have e0 := hkb3.free hs2 F0.out; have e1 := hkb3.free hs2 F1.out)
      | fail)
  · have ha := hra2.keep (keep_1 w2 (.cells #[] 67)) (.inr (.inr (Nat.le_refl 0)))
    have hb := Lib.hid (copy_end KW hkb3 HZ.out (by have := hgb3.size; simp at this; omega) (ha.grown hgb3 (Go.heap_alloc_new _ _) (by decide)) hrb3)
    clear ha
    go_wp2
    refine bodyPost_ret (v := .agg #[.slice C n1 c1, .slice D n2 c2]) (by simp [results, Try.results119, go_sem, q0, q1]) rfl ?_
    exact ⟨_, _, rfl, hb.out⟩
  all_goals
    have hb := Lib.hid (copy_end KW hkb3 HZ.out (by have := hgb3.size; omega) (hra2.grown hgb3 (grown_heap hga2 (by first | exact heap2_new _ _ _ | exact heap2_old _ _ _) (by first | omega | simp)) (by decide)) hrb3)
    go_wp2
    refine bodyPost_ret (v := .agg #[.slice C n1 c1, .slice D n2 c2]) (by simp [results, Try.results119, go_sem, q0, q1]) rfl ?_
    exact ⟨_, _, rfl, hb.out⟩
set_option maxHeartbeats 2000000 in
theorem copyTable_any (w : World) (hi : Nat) (v : Value) (xs : List Int) (hr : Rd w hi 2 v (ints xs)) (hx : xs.length ≤ 2097152) :
    Calls Try.prog 96 #[v] w fun e w' => ∃ v', e = .returned v' ∧ Row w' w.heap.size w'.heap.size 67 2 v' (ints xs) ∧ Keep 0 0 w w' := by
  obtain ⟨A, n, c, rfl, h1, h2, hl, hc⟩ := hr
  have hn : n ≤ 1048576 := by rw [ints_length] at hl; omega
  have hb0 := Bld.lit (B := w.heap.size) w 67 2 (Nat.le_refl _) (g := w.heap.size) rfl
  have hr2 : Rd (w.alloc (.cells #[] 67)) hi 2 (.slice A n c) (ints xs) := by
    refine ⟨A, n, c, rfl, h1, h2, hl, fun h => ?_⟩
    obtain ⟨b, off, hA, hb, hcc⟩ := hc h
    exact ⟨b, off, hA, hb, fun j u hu => (keep_1 w _).cells (World.block_lt_of_cell? _ _ (hcc j u hu)) (hcc j u hu)⟩
  clear hc
  go_enter Try.func96, Try.ntmps96
  go_wp2_with (at_builtin; refine wpList_append_rd rfl (.tmp 3) (.tmp 4) 50 rfl elSlot rfl hb0 rfl hr2 (ints_one _) (by omega) (by unfold maxLen; omega) (fun v3 w3 hb3 hs3 => ?_))
  go_ret
  exact ⟨_, rfl, bld_post0 hb3 (List.nil_append _)⟩
set_option maxRecDepth 100000 in
set_option maxHeartbeats 8000000 in
theorem implcopy_any (w : World) (h1 h2 : Nat) (va vb : Value) (ks : List Bool) (xs : List Int) (ra : Rd w h1 1 va (bols ks)) (rb : Rd w h2 2 vb (ints xs)) (z1 : h1 ≤ w.heap.size) (z2 : h2 ≤ w.heap.size) (hx1 : ks.length ≤ 1048576) (hx2 : xs.length ≤ 2097152) :
    Calls Try.prog 80 #[.agg #[va, vb]] w fun e w' => ∃ vc vd, e = .returned (.agg #[vc, vd]) ∧ Duo w' w.heap.size w'.heap.size vc vd (bols ks) (ints xs) ∧ Keep 0 0 w w' := by
  obtain ⟨A, n, c, rfl, _, _, hl1, _⟩ := id ra
  obtain ⟨B, m, d, rfl, _, _, hl2, _⟩ := id rb
  rw [bols_length] at hl1
  rw [ints_length] at hl2
  have hn9 : n ≤ 1048576 := by omega
  have hm9 : m ≤ 1048576 := by omega
  clear hl1 hl2
  obtain ⟨X, hX⟩ : ∃ X, X = ((w.alloc (.cells #[.slice A n c, .slice B m d] 55)).alloc (.cells #[.slice none 0 0, .slice none 0 0] 55)) := ⟨_, rfl⟩
  have KW : Keep 0 0 w X := by rw [hX]; exact keep_2 w _ _
  have ra1 := ra.keep KW z1 (.inr (Nat.le_refl 0))
  have rb1 := rb.keep KW z2 (.inr (Nat.le_refl 0))
  have za := Nat.le_trans z1 KW.size
  have zb := Nat.le_trans z2 KW.size
  have hsz : w.heap.size + 2 = X.heap.size := by rw [hX]; simp
  have b0 : X.cell? ⟨w.heap.size, 0, none⟩ = some (.slice A n c) := by rw [hX]; first | go_cell | (simp [go_sem]; done)
  have b1 : X.cell? ⟨w.heap.size, 1, none⟩ = some (.slice B m d) := by rw [hX]; first | go_cell | (simp [go_sem]; done)
  have r0 : X.cell? ⟨w.heap.size + 1, 0, none⟩ = some (.slice none 0 0) := by rw [hX]; first | go_cell | (simp [go_sem]; done)
  have r1 : X.cell? ⟨w.heap.size + 1, 1, none⟩ = some (.slice none 0 0) := by rw [hX]; first | go_cell | (simp [go_sem]; done)
  have f0 : X.frozen? ⟨w.heap.size + 1, 0, none⟩ = false := by rw [hX]; first | (simp [go_sem]; done) | simp
  have f1 : X.frozen? ⟨w.heap.size + 1, 1, none⟩ = false := by rw [hX]; first | (simp [go_sem]; done) | simp
  have hs2 : w.heap.size + 1 < X.heap.size := by omega
  have HS := Lib.hid (show ∀ w' : World, Keep 0 0 X w' → w'.cell? ⟨w.heap.size, 0, none⟩ = some (.slice A n c) ∧ w'.cell? ⟨w.heap.size, 1, none⟩ = some (.slice B m d) from fun w' h => ⟨h.cells (by omega) b0, h.cells (by omega) b1⟩)
  have R0 := Lib.hid r0
  have R1 := Lib.hid r1
  have F0 := Lib.hid f0
  have F1 := Lib.hid f1
  have HX := Lib.hid hX
  have HZ := Lib.hid hsz
  clear hX hsz b0 b1 r0 r1 f0 f1 ra rb
  go_enter Try.func80, Try.ntmps80
  go_wp2_with fail
  rw [← HX.out]
  go_region_held3 (fun w' => w'.cell? ⟨w.heap.size, 0, none⟩ = some (.slice A n c) ∧ w'.cell? ⟨w.heap.size, 1, none⟩ = some (.slice B m d))
    (first | (refine HS.out _ ?_; (repeat' (first | (with_reducible exact Keep.refl _ _ _) | (with_reducible assumption) | (with_reducible exact Keep.tr0 hka2 hkb3) | (with_reducible refine Keep.drewN ?_ _) | (with_reducible refine Keep.drew ?_) | (with_reducible refine Keep.alloc ?_ _))); done) | (go_keep; done) | fail)
    (first
      | (refine step_append_fresh (X := X) (by rfl) (.tmp 3) (.tmp 5) _ (by rfl) elBol (by rfl) (by (repeat' (first | (with_reducible exact Keep.refl _ _ _) | (with_reducible assumption) | (with_reducible exact Keep.tr0 hka2 hkb3) | (with_reducible refine Keep.drewN ?_ _) | (with_reducible refine Keep.drew ?_) | (with_reducible refine Keep.alloc ?_ _)))) (by first | exact Go.heap_alloc_new _ _ | exact heap2_new _ _ _ | exact heap2_old _ _ _ | exact grown_heap hgb3 (by first | exact heap2_new _ _ _ | exact heap2_old _ _ _) (by first | omega | simp)) (by first | exact Nat.le_refl _ | exact hkb3.size | simp) (by rfl) (bols ks) ra1 za (bols_one _) (by omega) (by unfold maxLen; omega) ?_; intro v2 w2 hra2 hka2 hga2; obtain ⟨C, n1, c1, rfl⟩ := hra2.slice; have q0 := hka2.cells hs2 R0.out; have q1 := hka2.cells hs2 R1.out; have e0 := hka2.free hs2 F0.out; have e1 := hka2.free hs2 F1.out)
      | (go_at_call 96; refine (copyTable_any _ _ _ xs (rb1.keep hka2 zb (.inr (Nat.le_refl 0))) hx2).mono ?_; rintro e w3 ⟨v3, rfl, hrb3, hkb3⟩; obtain ⟨D, n2, c2, rfl⟩ := hrb3.slice; have q0 := (hka2.tr0 hkb3).cells hs2 R0.out; have q1 := (hka2.tr0 hkb3).cells hs2 R1.out; have e0 := (hka2.tr0 hkb3).free hs2 F0.out; have e1 := (hka2.tr0 hkb3).free hs2 F1.out)
      | fail)
  all_goals
    have hb := Lib.hid (copy_end KW (hka2.tr0 hkb3) HZ.out (by have := hkb3.size; omega) (hra2.keep hkb3 (.inr (.inr (Nat.le_refl 0)))) (hrb3.mono hka2.size (Nat.le_refl _)))
    go_wp2
    refine bodyPost_ret (v := .agg #[.slice C n1 c1, .slice D n2 c2]) (by simp [results, Try.results80, go_sem, q0, q1]) rfl ?_
    exact ⟨_, _, rfl, hb.out⟩
end Go.Proofs.Ytcoipfnphmealaa
