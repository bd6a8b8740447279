/-
  The draw of two control blocks.
-/
import Derived.Test.YtdlcchoemladnaaDrN
import Derived.Deep.Cut
import Derived.Deep.DeepCutAuto
namespace Go.Proofs.Ytdlcchoemladnaa
open Go.RowKit

theorem pair_ab {W : World} {qa qb : Nat} {E : TypeId} {a0 a1 a2 b0 b1 b2 : Value} (x0 x1 x2 y0 y1 y2 : Value) (A : Lo W qa E #[a0, a1, a2]) (B : Lo W qb E #[b0, b1, b2]) (h : qa ≠ qb) :
    Lo ((((((W.setCell ⟨qa, 0, none⟩ x0).setCell ⟨qa, 1, none⟩ x1).setCell ⟨qa, 2, none⟩ x2).setCell ⟨qb, 0, none⟩ y0).setCell ⟨qb, 1, none⟩ y1).setCell ⟨qb, 2, none⟩ y2) qa E #[x0, x1, x2] ∧
    Lo ((((((W.setCell ⟨qa, 0, none⟩ x0).setCell ⟨qa, 1, none⟩ x1).setCell ⟨qa, 2, none⟩ x2).setCell ⟨qb, 0, none⟩ y0).setCell ⟨qb, 1, none⟩ y1).setCell ⟨qb, 2, none⟩ y2) qb E #[y0, y1, y2] :=
  ⟨(((((A.set3_0 x0).set3_1 x1).set3_2 x2).other y0 (Ne.symm h)).other y1 (Ne.symm h)).other y2 (Ne.symm h), (((((B.other x0 h).other x1 h).other x2 h).set3_0 y0).set3_1 y1).set3_2 y2⟩
set_option maxRecDepth 100000 in
set_option maxHeartbeats 4000000 in
theorem DrawGrantsMore_any (w : World) (v : Value) (bs : List Int) (hr : Rd w w.heap.size 1 v (byts bs)) : Calls Try.prog 14 #[v] w fun e w' => ∃ (t p : Int) (o : Bool) (t2 p2 : Int) (o2 : Bool), e = .returned (.tuple #[.agg #[.int .i64 t, .int .i64 p, .bool o], .agg #[.int .i64 t2, .int .i64 p2, .bool o2]]) ∧ Keep 0 0 w w' := by
  have k0 := keep_2 w (.cells #[.int .i64 0, .int .i64 0, .bool false] 25) (.cells #[.int .i64 0, .int .i64 0, .bool false] 25)
  have hr0 := (hr.keep k0 (Nat.le_refl _) (.inr (Nat.le_refl 0))).mono k0.size
  have A0 := (Lo.new w 25 #[.int .i64 0, .int .i64 0, .bool false] rfl).keep0 (keep_1 (w.alloc (.cells #[.int .i64 0, .int .i64 0, .bool false] 25)) (.cells #[.int .i64 0, .int .i64 0, .bool false] 25))
  have B0 := Lo.new (w.alloc (.cells #[.int .i64 0, .int .i64 0, .bool false] 25)) 25 #[.int .i64 0, .int .i64 0, .bool false] (p := w.heap.size + 1) (by simp)
  go_enter Try.func14, Try.ntmps14
  go_wp2_with fail
  generalize (w.alloc (.cells #[.int .i64 0, .int .i64 0, .bool false] 25)).alloc (.cells #[.int .i64 0, .int .i64 0, .bool false] 25) = W0 at k0 hr0 A0 B0 ⊢
  refine (l01New_any W0 v bs hr0).mono ?_
  rintro e W1 ⟨rfl, hc1, j1⟩
  have A1 := A0.keep0 j1
  have B1 := B0.keep0 j1
  have k1 := k0.tr0 j1
  have z1 : w.heap.size + 1 < W0.heap.size := B0.lt
  have z0 : w.heap.size < W0.heap.size := Nat.lt_of_succ_lt z1
  have zz : w.heap.size ≤ W0.heap.size := Nat.le_of_lt z0
  clear k0 j1 hr0 A0 B0
  go_wp2_with fail
  refine (l11Any_any W1 _ hc1).mono ?_
  rintro e W2 ⟨t, p, o, rfl, lt, lp, hc2, j2⟩
  have A2 : Lo W2 w.heap.size 25 #[.int .i64 0, .int .i64 0, .bool false] := ⟨(j2.block _ A1.lt (.inl z0)).trans A1.row⟩
  have B2 : Lo W2 (w.heap.size + 1) 25 #[.int .i64 0, .int .i64 0, .bool false] := ⟨(j2.block _ B1.lt (.inl z1)).trans B1.row⟩
  have k2 := k1.trm j2 zz
  have ka := keep_1 W2 (.cells #[.int .i64 t, .int .i64 p, .bool o] 25)
  have A3 := A2.keep0 ka
  have B3 := B2.keep0 ka
  have hc3 := hc2.keep0 ka
  have k3 := k2.tr0 ka
  have X3 := Lo.new W2 25 #[.int .i64 t, .int .i64 p, .bool o] rfl
  have hgx : W0.heap.size < W2.heap.size := hc2.lt
  clear k1 j2 hc1 A1 B1 A2 B2 hc2 k2 ka
  go_wp2_with fail
  generalize W2.alloc (.cells #[.int .i64 t, .int .i64 p, .bool o] 25) = W3 at A3 B3 hc3 k3 X3 ⊢
  refine (l01Once_any W3 _ hc3 2 (by omega) (by omega)).mono ?_
  rintro e W4 ⟨b, rfl, hc4, j4⟩
  have A4 : Lo W4 w.heap.size 25 #[.int .i64 0, .int .i64 0, .bool false] := ⟨(j4.block _ A3.lt (.inl z0)).trans A3.row⟩
  have B4 : Lo W4 (w.heap.size + 1) 25 #[.int .i64 0, .int .i64 0, .bool false] := ⟨(j4.block _ B3.lt (.inl z1)).trans B3.row⟩
  have X4 := X3.move j4 hgx
  have k4 := k3.trm j4 zz
  clear A3 B3 hc3 k3 X3 j4
  have KD := (Keep.refl 0 0 W4).drew
  have hcD := hc4.keep0 KD
  have AD := A4.keep0 KD
  have BD := B4.keep0 KD
  have XD := Lib.hid (X4.keep0 KD)
  have kD := k4.tr0 KD
  have HC := Lib.hid (show ∀ w' : World, Lo w' W2.heap.size 25 #[.int .i64 t, .int .i64 p, .bool o] → w'.cell? ⟨W2.heap.size, 0, none⟩ = some (.int .i64 t) ∧ w'.cell? ⟨W2.heap.size, 1, none⟩ = some (.int .i64 p) ∧ w'.cell? ⟨W2.heap.size, 2, none⟩ = some (.bool o) from fun w' h => ⟨h.cell 0 rfl, h.cell 1 rfl, h.cell 2 rfl⟩)
  clear k4 A4 B4 hc4 X4
  have hne : w.heap.size ≠ w.heap.size + 1 := by omega
  rcases b with _ | _
  · go_wp2_with fail
    go_cut [] (fun wx => ∃ (t2 p2 : Int) (o2 : Bool), Lo wx w.heap.size 25 #[.int .i64 t2, .int .i64 p2, .bool o2] ∧ Lo wx (w.heap.size + 1) 25 #[.int .i64 t, .int .i64 p, .bool o] ∧ Keep 0 0 w wx)
    case first =>
      obtain ⟨x0, x1, x2⟩ := HC.out _ XD.out
      go_region_with (first | (go_at_call 50; refine (l11Any_any _ _ hcD).mono ?_; rintro e W5 ⟨t2, p2, o2, rfl, _, _, _, j5⟩; obtain ⟨y0, y1, y2⟩ := HC.out _ (XD.out.move j5 hgx); have LA := ((⟨(j5.block _ AD.lt (.inl z0)).trans AD.row⟩ : Lo W5 w.heap.size 25 #[.int .i64 0, .int .i64 0, .bool false])); have LB := ((⟨(j5.block _ BD.lt (.inl z1)).trans BD.row⟩ : Lo W5 (w.heap.size + 1) 25 #[.int .i64 0, .int .i64 0, .bool false])); obtain ⟨a0, a1, a2, e0, e1, e2⟩ := LA.c3; obtain ⟨b0, b1, b2, f0, f1, f2⟩ := LB.c3) | fail)
      all_goals
        have k5 := kD.trm j5 zz
        go_wp2_with fail
        go_meet
        first
          | (with_reducible exact ⟨t2, p2, o2, (pair_ab (.int .i64 t2) (.int .i64 p2) (.bool o2) (.int .i64 t) (.int .i64 p) (.bool o) LA LB hne).1, (pair_ab (.int .i64 t2) (.int .i64 p2) (.bool o2) (.int .i64 t) (.int .i64 p) (.bool o) LA LB hne).2, by repeat' (first | exact k5 | (with_reducible refine Keep.setCell ?_ (.inr (by first | exact Nat.le_refl _ | exact Nat.le_succ _)) _))⟩)
          | (with_reducible exact ⟨t2, p2, o2, (pair_ab (.int .i64 t) (.int .i64 p) (.bool o) (.int .i64 t2) (.int .i64 p2) (.bool o2) LB LA (Ne.symm hne)).2, (pair_ab (.int .i64 t) (.int .i64 p) (.bool o) (.int .i64 t2) (.int .i64 p2) (.bool o2) LB LA (Ne.symm hne)).1, by repeat' (first | exact k5 | (with_reducible refine Keep.setCell ?_ (.inr (by first | exact Nat.le_refl _ | exact Nat.le_succ _)) _))⟩)
    case rest =>
      obtain ⟨t2, p2, o2, LA, LB, KK⟩ := hcut
      obtain ⟨a0, a1, a2, _⟩ := LA.c3
      obtain ⟨b0, b1, b2, _⟩ := LB.c3
      go_wp2
      refine bodyPost_ret (v := .tuple #[.agg #[.int .i64 t2, .int .i64 p2, .bool o2], .agg #[.int .i64 t, .int .i64 p, .bool o]]) (by simp [results, Try.results14, go_sem, a0, a1, a2, b0, b1, b2]) rfl ?_
      exact ⟨_, _, _, _, _, _, rfl, KK⟩
  · go_wp2_with fail
    go_cut [] (fun wx => ∃ (t2 p2 : Int) (o2 : Bool), Lo wx w.heap.size 25 #[.int .i64 t2, .int .i64 p2, .bool o2] ∧ Lo wx (w.heap.size + 1) 25 #[.int .i64 t, .int .i64 p, .bool o] ∧ Keep 0 0 w wx)
    case first =>
      obtain ⟨x0, x1, x2⟩ := HC.out _ XD.out
      go_region_with (first
      | (go_at_call 49; refine (l12Traps_any _ _ hcD).mono ?_; rintro e W5 ⟨u, rfl, _, j5⟩; obtain ⟨v0, v1, v2⟩ := HC.out _ (XD.out.move j5 hgx))
      | (go_at_call 16; refine (specMergedCtl_any _ _ _ _ _).mono ?_; rintro e W6 ⟨rfl, j6⟩; obtain ⟨y0, y1, y2⟩ := HC.out _ ((XD.out.move j5 hgx).keep0 j6); have LA := ((⟨(j5.block _ AD.lt (.inl z0)).trans AD.row⟩ : Lo W5 w.heap.size 25 #[.int .i64 0, .int .i64 0, .bool false]).keep0 j6); have LB := ((⟨(j5.block _ BD.lt (.inl z1)).trans BD.row⟩ : Lo W5 (w.heap.size + 1) 25 #[.int .i64 0, .int .i64 0, .bool false]).keep0 j6); obtain ⟨a0, a1, a2, e0, e1, e2⟩ := LA.c3; obtain ⟨b0, b1, b2, f0, f1, f2⟩ := LB.c3) | fail)
      all_goals
        have k5 := (kD.trm j5 zz).tr0 j6
        go_wp2_with fail
        go_meet
        first
          | (with_reducible exact ⟨mergeT u t, p, o, (pair_ab (.int .i64 (mergeT u t)) (.int .i64 p) (.bool o) (.int .i64 t) (.int .i64 p) (.bool o) LA LB hne).1, (pair_ab (.int .i64 (mergeT u t)) (.int .i64 p) (.bool o) (.int .i64 t) (.int .i64 p) (.bool o) LA LB hne).2, by repeat' (first | exact k5 | (with_reducible refine Keep.setCell ?_ (.inr (by first | exact Nat.le_refl _ | exact Nat.le_succ _)) _))⟩)
          | (with_reducible exact ⟨mergeT u t, p, o, (pair_ab (.int .i64 t) (.int .i64 p) (.bool o) (.int .i64 (mergeT u t)) (.int .i64 p) (.bool o) LB LA (Ne.symm hne)).2, (pair_ab (.int .i64 t) (.int .i64 p) (.bool o) (.int .i64 (mergeT u t)) (.int .i64 p) (.bool o) LB LA (Ne.symm hne)).1, by repeat' (first | exact k5 | (with_reducible refine Keep.setCell ?_ (.inr (by first | exact Nat.le_refl _ | exact Nat.le_succ _)) _))⟩)
    case rest =>
      obtain ⟨t2, p2, o2, LA, LB, KK⟩ := hcut
      obtain ⟨a0, a1, a2, _⟩ := LA.c3
      obtain ⟨b0, b1, b2, _⟩ := LB.c3
      go_wp2
      refine bodyPost_ret (v := .tuple #[.agg #[.int .i64 t2, .int .i64 p2, .bool o2], .agg #[.int .i64 t, .int .i64 p, .bool o]]) (by simp [results, Try.results14, go_sem, a0, a1, a2, b0, b1, b2]) rfl ?_
      exact ⟨_, _, _, _, _, _, rfl, KK⟩
end Go.Proofs.Ytdlcchoemladnaa
