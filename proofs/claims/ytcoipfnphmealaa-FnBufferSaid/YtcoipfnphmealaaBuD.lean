/-
  The draws of entries and of buffers. Nothing is said of what is drawn but its kind, and that a buffer has at most eight entries.
-/
import Derived.Test.YtcoipfnphmealaaLoc
import Derived.Test.YtcoipfnphmealaaDraw
import Derived.Test.YtcoipfnphmealaaPut
import Derived.Test.YtcoipfnphmealaaSix
import Derived.Deep.Cut
import Derived.Deep.RegionHeld3
namespace Go.Proofs.Ytcoipfnphmealaa
open Go.RowKit

def DrawnEnt (w : World) (g : Nat) (e : Ending) (w' : World) : Prop := ∃ a b c d : Int, e = .returned (.agg #[.int .i64 a, .int .i64 b, .int .i64 c, .int .i64 d]) ∧ Cur w' g ∧ Keep g (g + 1) w w'
theorem ent_end {w W : World} {g : Nat} (a b c d : Int) (hc : Cur W g) (hg : g < w.heap.size) (k : Keep g (g + 1) w W) :
    DrawnEnt w g (.returned (.agg #[.int .i64 a, .int .i64 b, .int .i64 c, .int .i64 d])) ((((W.setCell ⟨w.heap.size, 0, none⟩ (.int .i64 a)).setCell ⟨w.heap.size, 1, none⟩ (.int .i64 b)).setCell ⟨w.heap.size, 2, none⟩ (.int .i64 c)).setCell ⟨w.heap.size, 3, none⟩ (.int .i64 d)) :=
  ⟨a, b, c, d, rfl, (((hc.other _ hg).other _ hg).other _ hg).other _ hg, (((k.setCell (p := ⟨w.heap.size, 0, none⟩) (.inr (Nat.le_refl _)) _).setCell (p := ⟨w.heap.size, 1, none⟩) (.inr (Nat.le_refl _)) _).setCell (p := ⟨w.heap.size, 2, none⟩) (.inr (Nat.le_refl _)) _).setCell (p := ⟨w.heap.size, 3, none⟩) (.inr (Nat.le_refl _)) _⟩
set_option maxRecDepth 100000 in
set_option maxHeartbeats 2000000 in
theorem l08Entry_any (w : World) (g : Nat) (hc : Cur w g) : Calls Try.prog 61 #[.pointer (some ⟨g, 0, none⟩)] w (DrawnEnt w g) := by
  have hg := hc.lt
  have k0 := (Keep.refl g (g + 1) w).alloc (.cells #[.int .i64 0, .int .i64 0, .int .i64 0, .int .i64 0] 26)
  have hc0 := hc.keep0 (keep_1 w (.cells #[.int .i64 0, .int .i64 0, .int .i64 0, .int .i64 0] 26))
  have R0 := Lo.new w 26 #[.int .i64 0, .int .i64 0, .int .i64 0, .int .i64 0] rfl
  go_enter Try.func61, Try.ntmps61
  go_wp2_with fail
  generalize w.alloc (.cells #[.int .i64 0, .int .i64 0, .int .i64 0, .int .i64 0] 26) = W0 at k0 hc0 R0 ⊢
  refine (l01Below_any W0 g hc0 3 (by omega) (by omega)).mono ?_
  rintro e W1 ⟨x0, rfl, _, _, hc1, j1⟩
  have R1 := R0.move j1 hg
  have k1 := k0.win j1
  clear R0 k0 j1 hc0
  go_wp2_with fail
  refine (l01Below_any W1 g hc1 4 (by omega) (by omega)).mono ?_
  rintro e W2 ⟨x1, rfl, _, _, hc2, j2⟩
  have R2 := R1.move j2 hg
  have k2 := k1.win j2
  clear R1 k1 j2 hc1
  go_wp2_with fail
  refine (l01Below_any W2 g hc2 6 (by omega) (by omega)).mono ?_
  rintro e W3 ⟨x2, rfl, _, _, hc3, j3⟩
  have R3 := R2.move j3 hg
  have k3 := k2.win j3
  clear R2 k2 j3 hc2
  go_wp2_with fail
  refine (l01Below_any W3 g hc3 3 (by omega) (by omega)).mono ?_
  rintro e W4 ⟨x3, rfl, _, _, hc4, j4⟩
  have R4 := R3.move j4 hg
  have k4 := k3.win j4
  clear R3 k3 j4 hc3
  obtain ⟨r0, r1, r2, r3, f0, f1, f2, f3⟩ := R4.c4
  go_wp2
  refine bodyPost_ret (v := .agg #[.int .i64 (1 + x0), .int .i64 x1, .int .i64 x2, .int .i64 (1 + x3)]) (by simp [results, Try.results61, go_sem, r0, r1, r2, r3]) rfl ?_
  exact ent_end _ _ _ _ hc4 hg k4
/-- Several elements, which lie in a block that was made just before. -/
theorem wpList_append_lit {P : Program} {w0 w : World} {ops : Array Oper} {rest : List Oper} {o : Oper} {a : Act} {Q : Exit → Act → World → Prop} (hgd : o.guard = none) (s x : Operand) (t : TypeId)
    (ho : o.op = .call { callee := .builtin .append, args := #[s, x], argTypes := #[t, t] })
    {e : TypeId} {z : Value} {sz bytes : Nat} (el : Elem P t e z sz bytes) {B : Nat} {v : Value} {n : Nat} {xs : List Value} (hs : a.eval s = v) (hb : Bld w0 B e sz w v n xs)
    (m c : Nat) (cs : List Value) (ty : TypeId) {g : Nat} (hx : a.eval x = .slice (some ⟨g, 0, none⟩) m c) (hg : w.heap.size = g) (hl : cs.length = m * sz) (h1 : ∀ u ∈ cs, u.oneCell' = true)
    (hbytes : (n + m) * bytes ≤ 140737488355328) (h63 : n + m ≤ maxLen)
    (h : ∀ v' w', Bld w0 B e sz w' v' (n + m) (xs ++ cs) → w.heap.size ≤ w'.heap.size → wpList P ops Q rest (a.put o.dst v') w') : wpList P ops Q (o :: rest) a (w.alloc (.cells cs.toArray ty)) := by
  subst hg
  refine wpList_append_bld hgd s x t ho el hs (hb.alloc _) ⟨w.heap.size, 0, none⟩ m c cs hx hl (fun j u hu => ?_) h1 h63 hbytes fun v' w' h2 h3 => h v' w' h2 (by have := h3.size; simp at this; omega)
  rw [show (⟨w.heap.size, 0, none⟩ : Addr).add j = ⟨w.heap.size, j, none⟩ from by unfold Addr.add; split <;> simp_all]
  rw [cell_of_row _ w.heap.size j cs.toArray ty (0, 0) (Go.heap_alloc_new w _)]
  simpa using hu
/-- A buffer of at most eight entries was drawn. -/
def DrawnBuf (w : World) (g : Nat) (e : Ending) (w' : World) : Prop := ∃ (v : Value) (l : List Ent), e = .returned v ∧ l.length ≤ 8 ∧ Row w' w.heap.size w'.heap.size 26 4 v (ints (entsI l)) ∧ Cur w' g ∧ Keep g (g + 1) w w'
theorem Bld.lower {w0 w : World} {e : TypeId} {sz : Nat} {v : Value} {n : Nat} {xs : List Value} {B B' : Nat} (h : Bld w0 B e sz w v n xs) (hB : B' ≤ B) : Bld w B' e sz w v n xs := by
  refine ⟨?_, Below.refl _ _, Nat.le_trans hB h.le⟩
  obtain ⟨h1, ⟨rfl, rfl⟩ | ⟨g, cap, cur, rfl, hb, hg, hn, hm, hs, ht⟩⟩ := h.own
  · exact ⟨h1, .inl ⟨rfl, rfl⟩⟩
  · exact ⟨h1, .inr ⟨g, cap, cur, rfl, Nat.le_trans hB hb, hg, hn, hm, hs, ht⟩⟩
theorem bld_ents {w0 w : World} {e : TypeId} {v : Value} {n : Nat} {l : List Ent} {B : Nat} (h : Bld w0 B e 4 w v n (ints (entsI l))) : l.length = n := by
  have := h.len
  rw [ints_length, entsI_length] at this
  omega
set_option maxRecDepth 100000 in
set_option maxHeartbeats 8000000 in
theorem l08Buffer_any (w : World) (g : Nat) (hc : Cur w g) : Calls Try.prog 60 #[.pointer (some ⟨g, 0, none⟩)] w (DrawnBuf w g) := by
  have hg := hc.lt
  have hb0 := Lib.hid (Bld.lit (B := w.heap.size) w 26 4 (Nat.le_refl _) (g := w.heap.size) rfl).rebase
  have hc0 := Lib.hid (hc.keep0 (keep_1 w (.cells #[] 26)))
  have hk0 := Lib.hid ((Keep.refl g (g + 1) w).alloc (.cells #[] 26))
  clear hc
  go_enter Try.func60, Try.ntmps60
  go_wp2
  go_loopw [3, 4] (fun v i wr => ∃ (k m : Nat) (l : List Ent), k ≤ 8 ∧ i = .int .i64 k ∧ m ≤ 6 ∧ Bld wr w.heap.size 26 4 wr v m (ints (entsI l)) ∧ Cur wr g ∧ Keep g (g + 1) w wr) (fun _ i _ => 9 - (intOf i).toNat)
  case atStart => exact ⟨0, 0, [], by omega, rfl, by omega, hb0.out, hc0.out, hk0.out⟩
  case round =>
    obtain ⟨k, m, l, hk, rfl, hm, hb, hcur, hK⟩ := hrel
    clear hb0 hc0 hk0
    go_wp2_with fail
    refine (l01Below_any wr g hcur 9 (by omega) (by omega)).mono ?_
    rintro e W2 ⟨x, rfl, x0, x9, hc2, j2⟩
    have hb2 := hb.move j2 hg
    have k2 := hK.win j2
    clear hb hcur hK j2
    by_cases hlt : (k : Int) < x
    · have hd : decide ((k : Int) < x) = true := by simpa using hlt
      go_wp2_with fail
      refine (l08Entry_any W2 g hc2).mono ?_
      rintro e W3 ⟨a, b, c, d, rfl, hc3, j3⟩
      have hb3 := hb2.move j3 hg
      have k3 := k2.win j3
      have hml := Lib.hid (bld_ents hb3)
      clear hb2 hc2 k2 j3
      go_wp2_with fail
      refine (specPutEntry_bld W3 _ _ l a b c d hb3.row.rd (Nat.le_refl _) (by have := hml.out; omega)).mono ?_
      rintro e W4 ⟨v4, m4, rfl, hb4⟩
      have hm4 : m4 ≤ 6 := by rw [← bld_ents hb4]; exact putT_length _ _
      have q4 := Keep.of_below hb4.bel
      have hb5 := Lib.hid (hb4.lower (Nat.le_trans hb3.le (Nat.le_refl _)))
      have hc5 := Lib.hid (hc3.keep0 q4)
      have k5 := Lib.hid (k3.win (q4.any0 _ _))
      clear hb3 hc3 k3 q4 hb4 hml
      go_wp2
      go_roundw
      case rel => exact ⟨k + 1, m4, _, by omega, by go_num, hm4, hb5.out, hc5.out, k5.out⟩
      case measure => simp [intOf]; omega
    · have hd : decide ((k : Int) < x) = false := by simpa using hlt
      go_wp2_with fail
      refine (l01Once_any W2 g hc2 8 (by omega) (by omega)).mono ?_
      rintro e W3 ⟨bb, rfl, hc3, j3⟩
      have hb3 := hb2.move j3 hg
      have k3 := k2.win j3
      have hml := Lib.hid (bld_ents hb3)
      clear hb2 hc2 k2 j3 hlt hd
      rcases bb with _ | _
      · have hb5 := Lib.hid hb3
        have hc5 := Lib.hid hc3
        have k5 := Lib.hid k3
        clear hb3 hc3 k3
        go_wp2
        go_ret
        exact ⟨_, l, rfl, by have := hml.out; omega, hb5.out.row, hc5.out, k5.out⟩
      · go_wp2_with fail
        refine (l08Entry_any W3 g hc3).mono ?_
        rintro e W4 ⟨a, b, c, d, rfl, hc4, j4⟩
        have hb4 := hb3.move j4 hg
        have k4 := k3.win j4
        clear hb3 hc3 k3 j4
        go_wp2_with fail
        refine (l08Entry_any W4 g hc4).mono ?_
        rintro e W5 ⟨a', b', c', d', rfl, hc5, j5⟩
        have hb5 := hb4.move j5 hg
        have k5 := Lib.hid (k4.win j5)
        have hc6 := Lib.hid hc5
        clear hb4 hc4 k4 j5 hc5
        go_wp2_with (at_builtin; refine wpList_append_lit rfl _ _ 24 rfl elEnt rfl hb5 2 2 [.int .i64 a, .int .i64 b, .int .i64 c, .int .i64 d, .int .i64 a', .int .i64 b', .int .i64 c', .int .i64 d'] _ rfl (by first | rfl | simp) rfl (by simp [Value.oneCell']) (by omega) (by unfold maxLen; omega) (fun v' w' hb' hsz => ?_))
        have hb7 := Lib.hid hb'
        have hs7 := Lib.hid hsz
        clear hb' hsz hb5
        go_wp2
        go_ret
        have q := hb7.out
        rw [show ints (entsI l) ++ [.int .i64 a, .int .i64 b, .int .i64 c, .int .i64 d, .int .i64 a', .int .i64 b', .int .i64 c', .int .i64 d'] = ints (entsI (l ++ [(a, b, c, d), (a', b', c', d')])) from by simp [entsI, ints, entI]] at q
        have qk := Keep.of_belowB q.bel hs7.out
        exact ⟨_, _, rfl, by simp; have := hml.out; omega, q.row, hc6.out.keep qk (by omega), k5.out.trans qk (by intro i hi hw; omega)⟩
end Go.Proofs.Ytcoipfnphmealaa
