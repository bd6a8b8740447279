/-
  Draws that build slices: what is built beside a cursor that moves; DrawPlaces.
-/
import Derived.Test.YtcoipfnphmealaaCur
import Derived.Handy
namespace Go.Proofs.Ytcoipfnphmealaa
open Go.RowKit

theorem Bld.rebase {w0 w : World} {B : Nat} {e : TypeId} {sz : Nat} {v : Value} {n : Nat} {xs : List Value} (h : Bld w0 B e sz w v n xs) : Bld w B e sz w v n xs := ⟨h.own, Below.refl _ _, h.le⟩
theorem Bld.move {w w' : World} {B g : Nat} {e : TypeId} {sz : Nat} {v : Value} {n : Nat} {xs : List Value} (h : Bld w B e sz w v n xs) (hk : Keep g (g + 1) w w') (hg : g < B) : Bld w' B e sz w' v n xs := by
  refine ⟨h.own.kept (row := some g) ⟨hk.os, hk.tape, hk.output, hk.size, fun k h1 hne => hk.block k h1 (by have : k ≠ g := fun e => hne (by rw [e]); omega)⟩ ?_, Below.refl _ _, Nat.le_trans h.le hk.size⟩
  rcases hv : v.ownBlock with _ | k
  · exact .inl rfl
  · refine .inr fun e => ?_
    injection e with e
    have := (h.own.lt k hv).1
    omega
theorem Keep.of_belowB {w w' : World} {B : Nat} (h : Below B w w') (hs : w.heap.size ≤ w'.heap.size) : Keep B w.heap.size w w' := ⟨h.os, h.tape, h.output, hs, fun k h1 h2 => h.block k (by omega)⟩
theorem Keep.trB {a b c : World} {B : Nat} (h : Keep 0 0 a b) (k : Below B b c) (hs : b.heap.size ≤ c.heap.size) (hB : a.heap.size ≤ B) : Keep 0 0 a c :=
  h.trans (Keep.of_belowB k hs) fun i hi _ => by omega
/-- A slice that is built beside a cursor: at the world w1, the start being w. -/
structure Beside (w : World) (g : Nat) (E : TypeId) (sz : Nat) (w1 : World) (v : Value) (n : Nat) (xs : List Value) : Prop where
  bld : Bld w1 (g + 1) E sz w1 v n xs
  cur : Cur w1 g
  keep : Keep 0 0 w w1
  low : w.heap.size ≤ g
section
variable {w w1 w2 : World} {g sz n : Nat} {E : TypeId} {v v2 : Value} {xs ys : List Value}
theorem Beside.move (h : Beside w g E sz w1 v n xs) (hc : Cur w2 g) (hk : Keep g (g + 1) w1 w2) : Beside w g E sz w2 v n xs :=
  ⟨h.bld.move hk (Nat.lt_succ_self _), hc, h.keep.trm hk h.low, h.low⟩
theorem Beside.quiet (h : Beside w g E sz w1 v n xs) (hk : Keep 0 0 w1 w2) : Beside w g E sz w2 v n xs :=
  ⟨(h.bld.keep hk).rebase, h.cur.keep0 hk, h.keep.tr0 hk, h.low⟩
theorem Beside.grow {m : Nat} (h : Beside w g E sz w1 v n xs) (hb : Bld w1 (g + 1) E sz w2 v2 m ys) (hs : w1.heap.size ≤ w2.heap.size) : Beside w g E sz w2 v2 m ys :=
  ⟨hb.rebase, h.cur.keep (Keep.of_belowB hb.bel hs) (.inl (Nat.lt_succ_self _)), h.keep.trB hb.bel hs (Nat.le_succ_of_le h.low), h.low⟩
theorem Beside.row (h : Beside w g E sz w1 v n xs) : Row w1 w.heap.size w1.heap.size E sz v xs := h.bld.row.mono (Nat.le_succ_of_le h.low) (Nat.le_refl _)
theorem Beside.lit (hc : Cur w1 g) (hk : Keep 0 0 w w1) (hg : w.heap.size ≤ g) (E : TypeId) (sz : Nat) {q : Nat} (hq : w1.heap.size = q) : Beside w g E sz (w1.alloc (.cells #[] E)) (.slice (some ⟨q, 0, none⟩) 0 0) 0 [] := by
  subst hq
  have := hc.lt
  exact ⟨(Bld.lit (B := g + 1) w1 E sz (by omega) rfl).rebase, hc.keep0 (keep_1 w1 _), hk.alloc _, hg⟩
end
/-- Twelve numbers were drawn. -/
def Places (w : World) (e : Ending) (w' : World) : Prop := ∃ (v : Value) (l : List Int), e = .returned v ∧ l.length = 12 ∧ (∀ x ∈ l, 0 ≤ x ∧ x < 10000) ∧ Row w' w.heap.size w'.heap.size 3 1 v (ints l) ∧ Keep 0 0 w w'
theorem places_snoc {l : List Int} {x : Int} (h : ∀ y ∈ l, 0 ≤ y ∧ y < 10000) (h0 : 0 ≤ x) (h1 : x < 10000) : ∀ y ∈ l ++ [x], 0 ≤ y ∧ y < 10000 := by
  intro y hy
  rcases List.mem_append.1 hy with h2 | h2
  · exact h y h2
  · simp only [List.mem_singleton] at h2; subst h2; exact ⟨h0, h1⟩
set_option maxRecDepth 100000 in
set_option maxHeartbeats 2000000 in
theorem DrawPlaces_any (w : World) (v : Value) (bs : List Int) (hr : Rd w w.heap.size 1 v (byts bs)) : Calls Try.prog 23 #[v] w (Places w) := by
  go_enter Try.func23, Try.ntmps23
  go_wp2_with fail
  refine (l01New_any w v bs hr).mono ?_
  rintro e w1 ⟨rfl, hc1, hk1⟩
  have hb1 := Lib.hid (Beside.lit hc1 hk1 (Nat.le_refl _) 3 1 (q := w1.heap.size) rfl)
  clear hc1 hk1
  go_wp2
  go_loopw [4, 5] (fun v i wr => ∃ (k : Nat) (l : List Int), k ≤ 12 ∧ i = .int .i64 k ∧ l.length = k ∧ (∀ x ∈ l, 0 ≤ x ∧ x < 10000) ∧ Beside w w.heap.size 3 1 wr v k (ints l)) (fun _ i _ => 12 - (intOf i).toNat)
  case atStart => exact ⟨0, [], by omega, rfl, rfl, by simp, hb1.out⟩
  case round =>
    obtain ⟨k, l, hk, rfl, hl, hx, hb⟩ := hrel
    have HL := Lib.hid hl
    have HX := Lib.hid hx
    clear hl hx hb1
    by_cases hlt : k < 12
    · have hcur := hb.cur
      go_wp2_with fail
      refine (l01Below_big _ _ hcur 10000 (by omega) (by omega)).mono ?_
      rintro e w2 ⟨x, rfl, hx0, hx1, hc2, hk2⟩
      have hb2 := hb.move hc2 hk2
      have hb3 := hb2.bld
      have HY := Lib.hid (places_snoc HX.out hx0 hx1)
      clear hb hcur hc2 hk2
      go_wp2_with (at_builtin; refine wpList_append_one rfl _ _ 37 rfl elInt rfl hb3 1 [_] _ rfl (by first | rfl | simp) rfl (by simp [Value.oneCell']) (by omega) (by unfold maxLen; omega) (fun v' w' hb' hsz => ?_))
      go_roundw
      case rel => exact ⟨k + 1, l ++ [x], by omega, by go_num, by rw [List.length_append, HL.out]; rfl, HY.out, by rw [ints_append]; exact hb2.grow hb' hsz⟩
      case measure => simp [intOf]; omega
    · have hk12 : k = 12 := by omega
      subst hk12
      have hrow := Lib.hid hb.row
      have hkk := Lib.hid hb.keep
      go_wp2
      go_ret
      exact ⟨_, l, rfl, HL.out, HX.out, hrow.out, hkk.out⟩
end Go.Proofs.Ytcoipfnphmealaa
