/-
  TableNew and KeptNew, for small counts.
-/
import Derived.Test.YtcoipfnphmealaaRep
import Derived.Test.YtcoipfnphmealaaDrT
import Derived.Test.YtcoipfnphmealaaKpl
import Derived.Deep.RegionHeld3
import Derived.Deep.Cut
namespace Go.Proofs.Ytcoipfnphmealaa
open Go.RowKit

set_option maxRecDepth 100000 in
set_option maxHeartbeats 2000000 in
theorem implTableNew_any (w : World) (n : Nat) (hn : n ≤ 24) :
    Calls Try.prog 79 #[.int .i64 n] w fun e w' => ∃ v, e = .returned v ∧ Row w' w.heap.size w'.heap.size 67 2 v (ints (twosI (noTab n))) ∧ Keep 0 0 w w' := by
  go_enter Try.func79, Try.ntmps79
  go_wp2_with fail
  refine (implNoSlot_any _).mono ?_
  rintro e w1 ⟨rfl, k1⟩
  go_wp2_with fail
  refine (implBrought_in n (by omega) (by omega) _).mono ?_
  rintro e w' ⟨rfl, rfl⟩
  have L := (Lo.new w1 67 #[.int .i64 (-1), .int .i64 0] rfl).c2
  have K2 := k1.alloc (.cells #[.int .i64 (-1), .int .i64 0] 67)
  clear k1
  go_wp2_with fail
  refine (repeat_any _ w1.heap.size 1 n hn L.1 L.2.1).mono ?_
  rintro e w2 ⟨v, rfl, r, k3⟩
  have K3 := K2.tr0 k3
  have R := r.mono K2.size (Nat.le_refl _)
  clear L k3 r
  go_wp2
  go_ret
  exact ⟨_, rfl, R, K3⟩
theorem made_bols (n : Nat) : (madeCells (Value.bool false).cells n).toList = bols (List.replicate n false) := by
  rw [show (Value.bool false).cells = #[.bool false] from rfl, toList_madeCells_one]
  simp [bols]
theorem made_row (X : World) (n : Nat) (hn : n ≤ 24) {Z : Array Value} (hZ : Z = madeCells (Value.bool false).cells n) :
    Row (X.alloc (.cells Z 4)) X.heap.size (X.heap.size + 1) 4 1 (.slice (some ⟨X.heap.size, 0, none⟩) n n) (bols (List.replicate n false)) := by
  have h := Row.made X 4 (sz := 1) Z n (by rw [hZ, size_madeCells, Nat.mul_one]) (by unfold maxLen; omega)
  rw [hZ] at h ⊢
  rw [made_bols] at h
  exact h
theorem keptNew_end {w X W : World} {va vb : Value} {hi : Nat} {cs ds : List Value} (KW : Keep 0 0 w X) (kx : Keep 0 0 X W) (hs : w.heap.size + 1 = X.heap.size) (hh : hi = W.heap.size)
    (ha : Row W X.heap.size hi 4 1 va cs) (hb : Row W X.heap.size hi 67 2 vb ds) :
    Duo ((W.setCell ⟨w.heap.size, 0, none⟩ va).setCell ⟨w.heap.size, 1, none⟩ vb) w.heap.size ((W.setCell ⟨w.heap.size, 0, none⟩ va).setCell ⟨w.heap.size, 1, none⟩ vb).heap.size va vb cs ds ∧
    Keep 0 0 w ((W.setCell ⟨w.heap.size, 0, none⟩ va).setCell ⟨w.heap.size, 1, none⟩ vb) := by
  subst hh
  have kT : Keep w.heap.size (w.heap.size + 1) W ((W.setCell ⟨w.heap.size, 0, none⟩ va).setCell ⟨w.heap.size, 1, none⟩ vb) :=
    ((Keep.refl w.heap.size (w.heap.size + 1) W).setCell (p := ⟨w.heap.size, 0, none⟩) (.inl ⟨Nat.le_refl _, Nat.lt_succ_self _⟩) _).setCell (p := ⟨w.heap.size, 1, none⟩) (.inl ⟨Nat.le_refl _, Nat.lt_succ_self _⟩) _
  have hd := duo_of ha hb kx.size
  exact ⟨(hd.keep kT (by omega)).mono (by omega) kT.size, (KW.tr0 kx).trm kT (Nat.le_refl _)⟩
set_option maxRecDepth 100000 in
set_option maxHeartbeats 1000000 in
theorem implKeptNew_any (w : World) (n : Nat) (hn : n ≤ 24) :
    Calls Try.prog 47 #[.int .i64 n] w fun e w' => ∃ vc vd, e = .returned (.agg #[vc, vd]) ∧ Duo w' w.heap.size w'.heap.size vc vd (bols (List.replicate n false)) (ints (twosI (noTab n))) ∧ Keep 0 0 w w' := by
  obtain ⟨X, hX⟩ : ∃ X, X = w.alloc (.cells #[.slice none 0 0, .slice none 0 0] 55) := ⟨_, rfl⟩
  have KW : Keep 0 0 w X := by rw [hX]; exact keep_1 w _
  have LX : Lo X w.heap.size 55 #[.slice none 0 0, .slice none 0 0] := by rw [hX]; exact Lo.new w _ _ rfl
  obtain ⟨i, hi1, hz, hsz, hby⟩ := elBol.inf
  have hmk := fun W => run_make_row2 (P := Try.prog) 53 4 i _ elBol.und hi1 hz .i64 .i64 n n (Nat.le_refl _) (by rw [hby]; omega) (by omega) W
  rw [hsz, Nat.mul_one] at hmk
  obtain ⟨Z, hZ⟩ : ∃ Z, Z = madeCells (Value.bool false).cells n := ⟨_, rfl⟩
  rw [← hZ] at hmk
  have HX := Lib.hid hX
  have HZ := Lib.hid hZ
  have HSZ := Lib.hid (show w.heap.size + 1 = X.heap.size from by rw [hX]; simp)
  clear hX hZ
  go_enter Try.func47, Try.ntmps47
  go_wp2_with fail
  rw [← HX.out]
  go_region_with (first
    | (go_at_call 78; refine (implBrought_in n (by omega) (by omega) _).mono ?_; rintro e w' ⟨rfl, rfl⟩)
    | (go_at_call 79; refine (implTableNew_any _ n hn).mono ?_; rintro e w3 ⟨v3, rfl, r3, k3⟩; obtain ⟨D, n2, c2, rfl⟩ := r3.slice; have kx : Keep 0 0 X w3 := (by refine Keep.tr0 ?_ k3; (repeat' (first | (with_reducible exact Keep.refl _ _ _) | (with_reducible assumption) | (with_reducible refine Keep.drewN ?_ _) | (with_reducible refine Keep.drew ?_) | (with_reducible refine Keep.alloc ?_ _)))); have L3 := LX.keep0 kx; obtain ⟨q0, q1, e0, e1⟩ := L3.c2; have s0 := (Keep.refl 0 0 w3).cellsX L3.lt q0; have s1 := (Keep.refl 0 0 w3).cellsX L3.lt q1; have t0 := (Keep.refl 0 0 w3).freeX L3.lt e0; have t1 := (Keep.refl 0 0 w3).freeX L3.lt e1)
    | fail)
  · have hb := Lib.hid (keptNew_end KW kx HSZ.out rfl (((made_row X n hn HZ.out).keep ((Keep.refl 0 0 _).drew.tr0 k3) (.inr (.inr (Nat.le_refl 0)))).mono (Nat.le_refl _) (by have := k3.size; simpa using this)) (r3.mono (by simp) (Nat.le_refl _)))
    clear s0 s1 t0 t1 k3 r3
    go_wp2
    refine bodyPost_ret (v := .agg #[.slice (some ⟨X.heap.size, 0, none⟩) n n, .slice D n2 c2]) (by simp [results, Try.results47, go_sem, q0, q1]) rfl ?_
    exact ⟨_, _, rfl, hb.out⟩
  · have ka := keep_1 w3 (.cells Z 4)
    have hb := Lib.hid (keptNew_end KW (kx.tr0 ka) HSZ.out rfl ((made_row w3 n hn HZ.out).mono kx.size (by simp)) ((r3.keep ka (.inr (.inr (Nat.le_refl 0)))).mono (Nat.le_refl _) ka.size))
    clear k3 r3 ka
    go_wp2
    refine bodyPost_ret (v := .agg #[.slice (some ⟨w3.heap.size, 0, none⟩) n n, .slice D n2 c2]) (by simp [results, Try.results47, go_sem, s0, s1]) rfl ?_
    exact ⟨_, _, rfl, hb.out⟩
end Go.Proofs.Ytcoipfnphmealaa
