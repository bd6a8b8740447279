/-
  The draws of the arguments of the functions on buffers and on tags. Nothing is said of what is drawn but its kind, and that a buffer has at most eight entries.
-/
import Derived.Test.YtcoipfnphmealaaBuD
namespace Go.Proofs.Ytcoipfnphmealaa
open Go.RowKit

set_option maxRecDepth 100000 in
set_option maxHeartbeats 2000000 in
theorem DrawFindEntry_any (w : World) (v : Value) (bs : List Int) (hr : Rd w w.heap.size 1 v (byts bs)) : Calls Try.prog 17 #[v] w fun e w' => ∃ (b : Value) (l : List Ent) (t p : Int), e = .returned (.tuple #[b, .int .i64 t, .int .i64 p]) ∧ l.length ≤ 8 ∧ Row w' w.heap.size w'.heap.size 26 4 b (ints (entsI l)) ∧ Keep 0 0 w w' := by
  go_enter Try.func17, Try.ntmps17
  go_wp2_with fail
  refine (l01New_any w v bs hr).mono ?_
  rintro e W1 ⟨rfl, hc1, k1⟩
  go_wp2_with fail
  refine (l08Buffer_any W1 _ hc1).mono ?_
  rintro e W2 ⟨b, l, rfl, hl, r2, hc2, j2⟩
  have k2 := k1.trm j2 (Nat.le_refl _)
  have R2 := r2
  have z2 : w.heap.size < W1.heap.size := hc1.lt
  clear k1 j2 hc1 r2
  go_wp2_with fail
  refine (l01Below_any W2 _ hc2 5 (by omega) (by omega)).mono ?_
  rintro e W3 ⟨x, rfl, _, _, hc3, j3⟩
  have k3 := k2.trm j3 (Nat.le_refl _)
  have R3 := (R2.keep j3 (by omega)).mono (Nat.le_refl _) j3.size
  clear k2 R2 j3 hc2
  go_wp2_with fail
  refine (l01Below_any W3 _ hc3 6 (by omega) (by omega)).mono ?_
  rintro e W4 ⟨y, rfl, _, _, hc4, j4⟩
  have k4 := k3.trm j4 (Nat.le_refl _)
  have R4 := (R3.keep j4 (by omega)).mono (Nat.le_refl _) j4.size
  clear k3 R3 j4 hc3
  go_wp2
  go_returns
  exact ⟨b, l, _, _, rfl, hl, R4.mono (Nat.le_of_lt z2) (Nat.le_refl _), k4⟩
set_option maxRecDepth 100000 in
set_option maxHeartbeats 2000000 in
theorem DrawFlushPage_any (w : World) (v : Value) (bs : List Int) (hr : Rd w w.heap.size 1 v (byts bs)) : Calls Try.prog 25 #[v] w fun e w' => ∃ (b : Value) (l : List Ent) (t p : Int), e = .returned (.tuple #[b, .int .i64 t, .int .i64 p]) ∧ l.length ≤ 8 ∧ Row w' w.heap.size w'.heap.size 26 4 b (ints (entsI l)) ∧ Keep 0 0 w w' := by
  go_enter Try.func25, Try.ntmps25
  go_wp2_with fail
  refine (DrawFindEntry_any w v bs hr).mono ?_
  rintro e W1 ⟨b, l, t, p, rfl, h1, h2, h3⟩
  go_wp2
  go_returns
  exact ⟨b, l, t, p, rfl, h1, h2, h3⟩
set_option maxRecDepth 100000 in
set_option maxHeartbeats 2000000 in
theorem DrawFlushTag_any (w : World) (v : Value) (bs : List Int) (hr : Rd w w.heap.size 1 v (byts bs)) : Calls Try.prog 69 #[v] w fun e w' => ∃ (b : Value) (l : List Ent) (t : Int), e = .returned (.tuple #[b, .int .i64 t]) ∧ l.length ≤ 8 ∧ Row w' w.heap.size w'.heap.size 26 4 b (ints (entsI l)) ∧ Keep 0 0 w w' := by
  go_enter Try.func69, Try.ntmps69
  go_wp2_with fail
  refine (DrawFindEntry_any w v bs hr).mono ?_
  rintro e W1 ⟨b, l, t, p, rfl, h1, h2, h3⟩
  go_wp2
  go_returns
  exact ⟨b, l, t, rfl, h1, h2, h3⟩
set_option maxRecDepth 100000 in
set_option maxHeartbeats 2000000 in
theorem DrawFlushHost_any (w : World) (v : Value) (bs : List Int) (hr : Rd w w.heap.size 1 v (byts bs)) : Calls Try.prog 28 #[v] w fun e w' => ∃ (b : Value) (l : List Ent) (t : Int), e = .returned (.tuple #[b, .int .i64 t]) ∧ l.length ≤ 8 ∧ Row w' w.heap.size w'.heap.size 26 4 b (ints (entsI l)) ∧ Keep 0 0 w w' := by
  go_enter Try.func28, Try.ntmps28
  go_wp2_with fail
  refine (DrawFlushTag_any w v bs hr).mono ?_
  rintro e W1 ⟨b, l, t, rfl, h1, h2, h3⟩
  go_wp2
  go_returns
  exact ⟨b, l, t, rfl, h1, h2, h3⟩
set_option maxRecDepth 100000 in
set_option maxHeartbeats 2000000 in
theorem DrawFlushMon_any (w : World) (v : Value) (bs : List Int) (hr : Rd w w.heap.size 1 v (byts bs)) : Calls Try.prog 32 #[v] w fun e w' => ∃ (b : Value) (l : List Ent) (m : Int), e = .returned (.tuple #[b, .int .i64 m]) ∧ l.length ≤ 8 ∧ Row w' w.heap.size w'.heap.size 26 4 b (ints (entsI l)) ∧ Keep 0 0 w w' := by
  go_enter Try.func32, Try.ntmps32
  go_wp2_with fail
  refine (l01New_any w v bs hr).mono ?_
  rintro e W1 ⟨rfl, hc1, k1⟩
  go_wp2_with fail
  refine (l08Buffer_any W1 _ hc1).mono ?_
  rintro e W2 ⟨b, l, rfl, hl, r2, hc2, j2⟩
  have k2 := k1.trm j2 (Nat.le_refl _)
  have R2 := r2
  have z2 : w.heap.size < W1.heap.size := hc1.lt
  clear k1 j2 hc1 r2
  go_wp2_with fail
  refine (l01Below_any W2 _ hc2 5 (by omega) (by omega)).mono ?_
  rintro e W3 ⟨x, rfl, _, _, hc3, j3⟩
  have k3 := k2.trm j3 (Nat.le_refl _)
  have R3 := (R2.keep j3 (by omega)).mono (Nat.le_refl _) j3.size
  clear k2 R2 j3 hc2
  go_wp2
  go_returns
  exact ⟨b, l, _, rfl, hl, R3.mono (Nat.le_of_lt z2) (Nat.le_refl _), k3⟩
set_option maxRecDepth 100000 in
set_option maxHeartbeats 2000000 in
theorem DrawPutEntry_any (w : World) (v : Value) (bs : List Int) (hr : Rd w w.heap.size 1 v (byts bs)) : Calls Try.prog 11 #[v] w fun e w' => ∃ (b : Value) (l : List Ent) (x0 x1 x2 x3 : Int), e = .returned (.tuple #[b, .agg #[.int .i64 x0, .int .i64 x1, .int .i64 x2, .int .i64 x3]]) ∧ l.length ≤ 8 ∧ Row w' w.heap.size w'.heap.size 26 4 b (ints (entsI l)) ∧ Keep 0 0 w w' := by
  have k0 := keep_1 w (.cells #[.int .i64 0, .int .i64 0, .int .i64 0, .int .i64 0] 26)
  have hr0 := (hr.keep k0 (Nat.le_refl _) (.inr (Nat.le_refl 0))).mono k0.size
  have R0 := Lo.new w 26 #[.int .i64 0, .int .i64 0, .int .i64 0, .int .i64 0] rfl
  go_enter Try.func11, Try.ntmps11
  go_wp2_with fail
  generalize w.alloc (.cells #[.int .i64 0, .int .i64 0, .int .i64 0, .int .i64 0] 26) = W0 at k0 hr0 R0 ⊢
  refine (l01New_any W0 v bs hr0).mono ?_
  rintro e W1 ⟨rfl, hc1, j1⟩
  have R1 := R0.keep0 j1
  have k1 := k0.tr0 j1
  have z0 : w.heap.size < W0.heap.size := R0.lt
  have zz : w.heap.size ≤ W0.heap.size := Nat.le_of_lt z0
  have z1 : W0.heap.size < W1.heap.size := hc1.lt
  clear k0 j1 hr0 R0
  go_wp2_with fail
  refine (l08Buffer_any W1 _ hc1).mono ?_
  rintro e W2 ⟨b, l, rfl, hl, Q2, hc2, j2⟩
  have R2 : Lo W2 w.heap.size 26 #[.int .i64 0, .int .i64 0, .int .i64 0, .int .i64 0] := ⟨(j2.block _ R1.lt (.inl z0)).trans R1.row⟩
  have k2 := k1.trm j2 zz
  clear k1 j2 hc1 R1
  go_wp2_with fail
  refine (l08Entry_any W2 _ hc2).mono ?_
  rintro e W3 ⟨x0, x1, x2, x3, rfl, hc3, j3⟩
  have R3 : Lo W3 w.heap.size 26 #[.int .i64 0, .int .i64 0, .int .i64 0, .int .i64 0] := ⟨(j3.block _ R2.lt (.inl z0)).trans R2.row⟩
  have k3 := k2.trm j3 zz
  have Q3 := (Q2.keep j3 (by omega)).mono (Nat.le_refl _) j3.size
  clear k2 j3 hc2 R2 Q2
  obtain ⟨r0, r1, r2, r3, f0, f1, f2, f3⟩ := R3.c4
  go_wp2
  refine bodyPost_ret (v := .tuple #[b, .agg #[.int .i64 x0, .int .i64 x1, .int .i64 x2, .int .i64 x3]]) (by simp [results, Try.results11, go_sem, r0, r1, r2, r3]) rfl ?_
  have kk : Keep w.heap.size (w.heap.size + 1) W3 ((((W3.setCell ⟨w.heap.size, 0, none⟩ (.int .i64 x0)).setCell ⟨w.heap.size, 1, none⟩ (.int .i64 x1)).setCell ⟨w.heap.size, 2, none⟩ (.int .i64 x2)).setCell ⟨w.heap.size, 3, none⟩ (.int .i64 x3)) :=
    ((((Keep.refl _ _ W3).setCell (p := ⟨w.heap.size, 0, none⟩) (.inl ⟨Nat.le_refl _, Nat.lt_succ_self _⟩) _).setCell (p := ⟨w.heap.size, 1, none⟩) (.inl ⟨Nat.le_refl _, Nat.lt_succ_self _⟩) _).setCell (p := ⟨w.heap.size, 2, none⟩) (.inl ⟨Nat.le_refl _, Nat.lt_succ_self _⟩) _).setCell (p := ⟨w.heap.size, 3, none⟩) (.inl ⟨Nat.le_refl _, Nat.lt_succ_self _⟩) _
  exact ⟨b, l, x0, x1, x2, x3, rfl, hl, ((Q3.keep kk (by omega)).mono (by omega) kk.size), k3.trm kk (Nat.le_refl _)⟩
set_option maxRecDepth 100000 in
set_option maxHeartbeats 2000000 in
theorem DrawTagOf_any (w : World) (v : Value) (bs : List Int) (hr : Rd w w.heap.size 1 v (byts bs)) : Calls Try.prog 39 #[v] w fun e w' => ∃ (x y : Int), e = .returned (.tuple #[.int .i64 x, .int .i64 y]) ∧ Keep 0 0 w w' := by
  go_enter Try.func39, Try.ntmps39
  go_wp2_with fail
  refine (l01New_any w v bs hr).mono ?_
  rintro e W1 ⟨rfl, hc1, k1⟩
  go_wp2_with fail
  refine (l01PickInt_lit W1 _ hc1 [0, 1, 2, 3, -1, 9223372036854775807] 6 rfl (by omega) (by omega) rfl).mono ?_
  rintro e W2 ⟨x, rfl, _, hc2, j2⟩
  have k2 := k1.trm j2 (Nat.le_refl _)
  clear k1 j2 hc1
  go_wp2_with fail
  refine (l01PickInt_lit W2 _ hc2 [0, 1, 2, -1, 9223372036854775807] 5 rfl (by omega) (by omega) rfl).mono ?_
  rintro e W3 ⟨y, rfl, _, hc3, j3⟩
  have k3 := k2.trm j3 (Nat.le_refl _)
  clear k2 j3 hc2
  go_wp2
  go_returns
  exact ⟨x, y, rfl, k3⟩
theorem DrawTagsOf_any (w : World) (v : Value) (bs : List Int) (hr : Rd w w.heap.size 1 v (byts bs)) : Calls Try.prog 41 #[v] w fun e w' => ∃ x : Int, e = .returned (.int .i64 x) ∧ Keep 0 0 w w' := by
  go_enter Try.func41, Try.ntmps41
  go_wp2_with fail
  refine (DrawTagOf_any w v bs hr).mono ?_
  rintro e W1 ⟨x, y, rfl, k1⟩
  go_wp2
  go_ret
  exact ⟨x, rfl, k1⟩
set_option maxRecDepth 100000 in
set_option maxHeartbeats 2000000 in
theorem l09Tag_any (w : World) (v : Value) (bs : List Int) (hr : Rd w w.heap.size 1 v (byts bs)) : Calls Try.prog 76 #[v] w fun e w' => ∃ x : Int, e = .returned (.int .i64 x) ∧ Keep 0 0 w w' := by
  go_enter Try.func76, Try.ntmps76
  go_wp2_with fail
  refine (l01New_any w v bs hr).mono ?_
  rintro e W1 ⟨rfl, hc1, k1⟩
  go_wp2_with fail
  refine (l01PickInt_lit W1 _ hc1 [1, 2, 3, 4, 5, 6, 7, 0, -1, 9223372036854775807, -9223372036854775808] 11 rfl (by omega) (by omega) rfl).mono ?_
  rintro e W2 ⟨x, rfl, _, hc2, j2⟩
  have k2 := k1.trm j2 (Nat.le_refl _)
  clear k1 j2 hc1
  go_wp2
  go_ret
  exact ⟨x, rfl, k2⟩
theorem DrawTagMon_any (w : World) (v : Value) (bs : List Int) (hr : Rd w w.heap.size 1 v (byts bs)) : Calls Try.prog 40 #[v] w fun e w' => ∃ x : Int, e = .returned (.int .i64 x) ∧ Keep 0 0 w w' := by
  go_enter Try.func40, Try.ntmps40
  go_wp2_with fail
  refine (l09Tag_any w v bs hr).mono ?_
  rintro e W1 ⟨x, rfl, k1⟩
  go_wp2
  go_ret
  exact ⟨x, rfl, k1⟩
end Go.Proofs.Ytcoipfnphmealaa
