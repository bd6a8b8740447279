/-
  The draw of tables and of what is kept of them.
-/
import Derived.Test.YtcoipfnphmealaaKbx
import Derived.Test.YtcoipfnphmealaaDrT
import Derived.Deep.RegionHeld3
import Derived.Deep.Cut
namespace Go.Proofs.Ytcoipfnphmealaa
open Go.RowKit

set_option maxRecDepth 100000 in
theorem specBrought_4 (w : World) : Calls Try.prog 130 #[.int .i64 4, .int .i64 0, .int .i64 24] w fun e w' => e = .returned (.int .i64 4) ∧ w = w' := by
  go_enter Try.func130, Try.ntmps130
  go_wp2
  go_ret
  exact ⟨rfl, rfl⟩
set_option maxRecDepth 100000 in
set_option maxHeartbeats 2000000 in
theorem specTableNew_4 (w : World) : Calls Try.prog 118 #[.int .i64 4] w fun e w' => ∃ v, e = .returned v ∧ Row w' w.heap.size w'.heap.size 67 2 v (ints (twosI (noTab 4))) ∧ Keep 0 0 w w' := by
  have hb0 := Bld.lit (B := w.heap.size) w 67 2 (Nat.le_refl _) (g := w.heap.size) rfl
  go_enter Try.func118, Try.ntmps118
  go_wp2_with (go_at_call 130; refine (specBrought_4 _).mono ?_; rintro e w' ⟨rfl, rfl⟩)
  go_loopw [3, 4] (fun v i wr => ∃ k : Nat, k ≤ 4 ∧ i = .int .i64 (4 - k) ∧ Bld w w.heap.size 67 2 wr v k (ints (twosI (noTab k)))) (fun _ i _ => (intOf i).toNat)
  case atStart => exact ⟨0, Nat.zero_le _, rfl, hb0⟩
  case round =>
    obtain ⟨k, hk, rfl, hb⟩ := hrel
    clear hb0
    by_cases hlt : k < 4
    · have HS := Lib.hid (show ints (twosI (noTab (k + 1))) = ints (twosI (noTab k)) ++ [.int .i64 (-1), .int .i64 0] from by
        rw [show noTab (k + 1) = noTab k ++ [(-1, 0)] from List.replicate_succ', snocT])
      go_wp2_with (first
        | (go_at_call 85; refine (specNoSlot_any _).mono ?_; rintro e w2 ⟨rfl, k2⟩; have hb3 := hb.keep k2)
        | (at_builtin; refine wpList_append_one rfl _ _ 50 rfl elSlot rfl hb3 1 [.int .i64 (-1), .int .i64 0] _ rfl (by first | rfl | simp) rfl (by simp [Value.oneCell']) (by omega) (by unfold maxLen; omega) (fun v' w' hb' hsz => ?_))
        | fail)
      go_roundw
      case rel => exact ⟨k + 1, by omega, by go_num, by rw [HS.out]; exact hb'⟩
      case measure => simp [intOf]; omega
    · obtain rfl : k = 4 := by omega
      have HK := Lib.hid (bld_post0 hb rfl)
      clear hb
      go_wp2
      go_ret
      exact ⟨_, rfl, HK.out⟩
set_option maxRecDepth 100000 in
set_option maxHeartbeats 2000000 in
theorem specKeptNew_4 (w : World) :
    Calls Try.prog 99 #[.int .i64 4] w fun e w' => ∃ vc vd, e = .returned (.agg #[vc, vd]) ∧ Duo w' w.heap.size w'.heap.size vc vd (bols (List.replicate 4 false)) (ints (twosI (noTab 4))) ∧ Keep 0 0 w w' := by
  obtain ⟨X, hX⟩ : ∃ X, X = w.alloc (.cells #[.slice none 0 0, .slice none 0 0] 55) := ⟨_, rfl⟩
  have KW : Keep 0 0 w X := by rw [hX]; exact keep_1 w _
  have LX : Lo X w.heap.size 55 #[.slice none 0 0, .slice none 0 0] := by rw [hX]; exact Lo.new w _ _ rfl
  obtain ⟨i, hi1, hz, hsz, hby⟩ := elBol.inf
  have hmk := fun W => run_make_row2 (P := Try.prog) 53 4 i _ elBol.und hi1 hz .i64 .i64 4 4 (Nat.le_refl _) (by rw [hby]; omega) (by omega) W
  rw [hsz, Nat.mul_one] at hmk
  obtain ⟨Z, hZ⟩ : ∃ Z, Z = madeCells (Value.bool false).cells 4 := ⟨_, rfl⟩
  rw [← hZ] at hmk
  have hmk2 : ∀ W, Sem.run Try.prog (Instr.makeSlice 53 (Value.int IntKind.i64 4) (Value.int IntKind.i64 4)) W = Result.ok (.slice (some ⟨W.heap.size, 0, none⟩) 4 4) (W.alloc (.cells Z 4)) := hmk
  clear hmk
  have HX := Lib.hid hX
  have HZ := Lib.hid hZ
  have HSZ := Lib.hid (show w.heap.size + 1 = X.heap.size from by rw [hX]; simp)
  clear hX hZ
  go_enter Try.func99, Try.ntmps99
  go_wp2_with fail
  rw [← HX.out]
  refine (specTableNew_4 X).mono ?_
  rintro e w3 ⟨v3, rfl, r3, k3⟩
  obtain ⟨D, n2, c2, rfl⟩ := r3.slice
  have hn2 : n2 = 4 := by have := r3.len.1; rw [ints_length, twosI_length, noTab_length] at this; omega
  subst hn2
  have L3 := LX.keep0 k3
  obtain ⟨q0, q1, e0, e1⟩ := L3.c2
  have s0 := (Keep.refl 0 0 w3).cellsX L3.lt q0
  have s1 := (Keep.refl 0 0 w3).cellsX L3.lt q1
  have t0 := (Keep.refl 0 0 w3).freeX L3.lt e0
  have t1 := (Keep.refl 0 0 w3).freeX L3.lt e1
  clear q0 q1 e0 e1
  have ka := keep_1 w3 (.cells Z 4)
  have hb := Lib.hid (keptNew_end KW (k3.tr0 ka) HSZ.out rfl ((made_row w3 4 (by omega) HZ.out).mono k3.size (by simp)) ((r3.keep ka (.inr (.inr (Nat.le_refl 0)))).mono (Nat.le_refl _) ka.size))
  have K3 := Lib.hid k3
  clear k3 r3 ka
  go_wp2
  refine bodyPost_ret (v := .agg #[.slice (some ⟨w3.heap.size, 0, none⟩) 4 4, .slice D 4 c2]) (by simp [results, Try.results99, go_sem, s0, s1]) rfl ?_
  exact ⟨_, _, rfl, hb.out⟩
set_option maxRecDepth 100000 in
set_option maxHeartbeats 2000000 in
theorem specWithSlot_8 (w : World) (hi : Nat) (v : Value) (l : List Two) (p : Nat) (x0 x1 : Int) (hr : Rd w hi 2 v (ints (twosI l))) (z : hi ≤ w.heap.size) (hl : l.length = 8) (hp : p < 8) :
    Calls Try.prog 56 #[v, .int .i64 p, .agg #[.int .i64 x0, .int .i64 x1]] w fun e w' => ∃ v', e = .returned v' ∧ Row w' w.heap.size w'.heap.size 67 2 v' (ints (twosI (l.set p (x0, x1)))) ∧ Keep 0 0 w w' := by
  obtain ⟨A, n, c, rfl, h1, h2, hl2, hc⟩ := hr
  have hn : n = 8 := by rw [ints_length, twosI_length] at hl2; omega
  subst hn
  obtain ⟨X, hX⟩ : ∃ X, X = w.alloc (.cells #[.int .i64 x0, .int .i64 x1] 67) := ⟨_, rfl⟩
  have KW : Keep 0 0 w X := by rw [hX]; exact keep_1 w _
  have LX : Lo X w.heap.size 67 #[.int .i64 x0, .int .i64 x1] := by rw [hX]; exact Lo.new w _ _ rfl
  have hr2 : Rd (X.alloc (.cells #[] 67)) hi 2 (.slice A 8 c) (ints (twosI l)) := (Rd.keep ⟨A, 8, c, rfl, h1, h2, hl2, hc⟩ KW z (.inr (Nat.le_refl 0))).keep (keep_1 X _) (Nat.le_trans z KW.size) (.inr (Nat.le_refl 0))
  have hb0 := Bld.lit (B := X.heap.size) X 67 2 (Nat.le_refl _) (g := X.heap.size) rfl
  have hin : inB (p : Int) 0 7 = true := inB_t (by omega) (by omega)
  have HX := Lib.hid hX
  clear hc hX hl2 h1 h2
  go_enter Try.func56, Try.ntmps56
  obtain ⟨x0c, x1c, _, _⟩ := LX.c2
  go_upto_region 1 with (fail)
  rw [← HX.out]
  go_wp2_with (at_builtin; refine wpList_append_rd rfl (.tmp 8) (.tmp 9) 50 rfl elSlot rfl hb0 rfl hr2 (ints_one _) (by omega) (by unfold maxLen; omega) (fun v3 w3 hb3 hs3 => ?_))
  refine (l01In_any _ _ _ _).mono ?_
  rintro e w' ⟨rfl, rfl⟩
  rw [hin]
  simp only [Nat.zero_add, List.nil_append] at hb3
  obtain ⟨A3, c3, rfl⟩ := hb3.slice
  have y0 := (hb3.cell (p := ⟨w.heap.size, 0, none⟩) LX.lt).trans x0c
  have y1 := (hb3.cell (p := ⟨w.heap.size, 1, none⟩) LX.lt).trans x1c
  have r4 := hb3.row
  have hc8 := r4.len.2
  unfold maxLen at hc8
  obtain ⟨hc8, hc9⟩ := hc8
  obtain ⟨q, off, rfl, hq1, hq2, hq3, hat⟩ := r4.at_ (by omega)
  have hlen : (ints (twosI l)).length = 16 := by rw [ints_length, twosI_length]; omega
  obtain ⟨z0, s0⟩ : ∃ z, (ints (twosI l))[p * 2]? = some z := ⟨_, List.getElem?_eq_getElem (by omega)⟩
  obtain ⟨z1, s1⟩ : ∃ z, (ints (twosI l))[p * 2 + 1]? = some z := ⟨_, List.getElem?_eq_getElem (by omega)⟩
  obtain ⟨c0, f0⟩ := hat (p * 2) _ s0
  obtain ⟨c1, f1⟩ := hat (p * 2 + 1) _ s1
  have r5 := (r4.set_ (p * 2) (.int .i64 x0)).set_ (p * 2 + 1) (.int .i64 x1)
  rw [twos_set l p x0 x1 (by omega)] at r5
  have k5 := (((Keep.of_below hb3.bel).setCell (p := ⟨q, off + p * 2, none⟩) (.inr hq1) (.int .i64 x0)).setCell (p := ⟨q, off + (p * 2 + 1), none⟩) (.inr hq1) (.int .i64 x1))
  rw [show off + (p * 2 + 1) = off + p * 2 + 1 from rfl] at c1 f1
  have R5 := Lib.hid r5
  have K5 := Lib.hid (KW.tr0 k5)
  have hpn : (p : Int) < 8 := by omega
  have hkx := KW.size
  have HKX := Lib.hid hkx
  clear hat s0 s1 r4 r5 k5 hlen hkx hb3 hb0 hr2 x0c x1c
  go_wp2
  go_ret
  refine ⟨_, rfl, ?_, ?_⟩
  · have := R5.out.mono HKX.out (Nat.le_refl _)
    simpa [World.setCell, Nat.add_assoc] using this
  · have := K5.out
    simpa [World.setCell, Nat.add_assoc] using this
end Go.Proofs.Ytcoipfnphmealaa
