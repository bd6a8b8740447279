/-
  The draws of control blocks, of traps, of what is posted; the faults of a control block rise and are at most four.
-/
import Derived.Test.YtdlcchoemladnaaDoorDrN
import Derived.Test.YtdlcchoemladnaaDoorTxt
import Derived.Test.YtdlcchoemladnaaDoorExC
namespace Go.Proofs.YtdlcchoemladnaaDoor
open Go.RowKit

set_option maxRecDepth 100000 in
set_option maxHeartbeats 2000000 in
theorem DrawCtlFaults_any (w : World) (v : Value) (bs : List Int) (hr : Rd w w.heap.size 1 v (byts bs)) : Calls Tryd.prog 25 #[v] w fun e w' => ∃ (t p : Int) (o : Bool), e = .returned (.agg #[.int .i64 t, .int .i64 p, .bool o]) ∧ Lim t ∧ Lim p ∧ Keep 0 0 w w' := by
  have k0 := keep_1 w (.cells #[.int .i64 0, .int .i64 0, .bool false] 38)
  have hr0 := (hr.keep k0 (Nat.le_refl _) (.inr (Nat.le_refl 0))).mono k0.size
  have R0 := Lo.new w 38 #[.int .i64 0, .int .i64 0, .bool false] rfl
  go_enter Tryd.func25, Tryd.ntmps25
  go_wp2_with fail
  generalize w.alloc (.cells #[.int .i64 0, .int .i64 0, .bool false] 38) = W0 at k0 hr0 R0 ⊢
  refine (l01New_any W0 v bs hr0).mono ?_
  rintro e W1 ⟨rfl, hc1, j1⟩
  have R1 := R0.keep0 j1
  have k1 := k0.tr0 j1
  have z0 : w.heap.size < W0.heap.size := R0.lt
  have zz : w.heap.size ≤ W0.heap.size := Nat.le_of_lt z0
  clear k0 j1 hr0 R0
  go_wp2_with fail
  refine (l11Any_any W1 _ hc1).mono ?_
  rintro e W2 ⟨t, p, o, rfl, lt, lp, hc2, j2⟩
  have R2 : Lo W2 w.heap.size 38 #[.int .i64 0, .int .i64 0, .bool false] := ⟨(j2.block _ R1.lt (.inl z0)).trans R1.row⟩
  have k2 := k1.trm j2 zz
  clear k1 j2 hc1 R1
  obtain ⟨r0, r1, r2, f0, f1, f2⟩ := R2.c3
  go_wp2
  refine bodyPost_ret (v := .agg #[.int .i64 t, .int .i64 p, .bool o]) (by simp [results, Tryd.results25, go_sem, r0, r1, r2]) rfl ?_
  exact ⟨t, p, o, rfl, lt, lp, (((k2.setCell (p := ⟨w.heap.size, 0, none⟩) (.inr (Nat.le_refl _)) _).setCell (p := ⟨w.heap.size, 1, none⟩) (.inr (Nat.le_refl _)) _).setCell (p := ⟨w.heap.size, 2, none⟩) (.inr (Nat.le_refl _)) _)⟩
set_option maxRecDepth 100000 in
set_option maxHeartbeats 2000000 in
theorem DrawPosts_any (w : World) (v : Value) (bs : List Int) (hr : Rd w w.heap.size 1 v (byts bs)) : Calls Tryd.prog 28 #[v] w fun e w' => ∃ (t p : Int) (o : Bool) (n : Int), e = .returned (.tuple #[.agg #[.int .i64 t, .int .i64 p, .bool o], .int .i64 n]) ∧ Keep 0 0 w w' := by
  have k0 := keep_1 w (.cells #[.int .i64 0, .int .i64 0, .bool false] 38)
  have hr0 := (hr.keep k0 (Nat.le_refl _) (.inr (Nat.le_refl 0))).mono k0.size
  have R0 := Lo.new w 38 #[.int .i64 0, .int .i64 0, .bool false] rfl
  go_enter Tryd.func28, Tryd.ntmps28
  go_wp2_with fail
  generalize w.alloc (.cells #[.int .i64 0, .int .i64 0, .bool false] 38) = W0 at k0 hr0 R0 ⊢
  refine (l01New_any W0 v bs hr0).mono ?_
  rintro e W1 ⟨rfl, hc1, j1⟩
  have R1 := R0.keep0 j1
  have k1 := k0.tr0 j1
  have z0 : w.heap.size < W0.heap.size := R0.lt
  have zz : w.heap.size ≤ W0.heap.size := Nat.le_of_lt z0
  clear k0 j1 hr0 R0
  go_wp2_with fail
  refine (l11Any_any W1 _ hc1).mono ?_
  rintro e W2 ⟨t, p, o, rfl, lt, lp, hc2, j2⟩
  have R2 : Lo W2 w.heap.size 38 #[.int .i64 0, .int .i64 0, .bool false] := ⟨(j2.block _ R1.lt (.inl z0)).trans R1.row⟩
  have k2 := k1.trm j2 zz
  clear k1 j2 hc1 R1
  go_wp2_with fail
  refine (l01PickInt_lit W2 _ hc2 [0, 1, 3, 7, 8, -1, 9223372036854775807] 7 rfl (by omega) (by omega) rfl).mono ?_
  rintro e W3 ⟨n, rfl, _, hc3, j3⟩
  have R3 : Lo W3 w.heap.size 38 #[.int .i64 0, .int .i64 0, .bool false] := ⟨(j3.block _ R2.lt (.inl z0)).trans R2.row⟩
  have k3 := k2.trm j3 zz
  clear k2 j3 hc2 R2
  obtain ⟨r0, r1, r2, f0, f1, f2⟩ := R3.c3
  go_wp2
  refine bodyPost_ret (v := .tuple #[.agg #[.int .i64 t, .int .i64 p, .bool o], .int .i64 n]) (by simp [results, Tryd.results28, go_sem, r0, r1, r2]) rfl ?_
  exact ⟨t, p, o, n, rfl, (((k3.setCell (p := ⟨w.heap.size, 0, none⟩) (.inr (Nat.le_refl _)) _).setCell (p := ⟨w.heap.size, 1, none⟩) (.inr (Nat.le_refl _)) _).setCell (p := ⟨w.heap.size, 2, none⟩) (.inr (Nat.le_refl _)) _)⟩
set_option maxHeartbeats 2000000 in
theorem DrawHasTrap_any (w : World) (v : Value) (bs : List Int) (hr : Rd w w.heap.size 1 v (byts bs)) : Calls Tryd.prog 27 #[v] w fun e w' => ∃ x y : Int, e = .returned (.tuple #[.int .i64 x, .int .i64 y]) ∧ Keep 0 0 w w' := by
  go_enter Tryd.func27, Tryd.ntmps27
  go_wp2_with fail
  refine (l01New_any w v bs hr).mono ?_
  rintro e W1 ⟨rfl, hc1, k1⟩
  go_wp2_with fail
  refine (l01Below_any W1 _ hc1 6 (by omega) (by omega)).mono ?_
  rintro e W2 ⟨x, rfl, x0, x1, hc2, j2⟩
  have k2 := k1.trm j2 (Nat.le_refl _)
  clear k1 j2 hc1
  go_wp2_with fail
  refine (l01Below_any W2 _ hc2 5 (by omega) (by omega)).mono ?_
  rintro e W3 ⟨y, rfl, y0, y1, hc3, j3⟩
  have k3 := k2.trm j3 (Nat.le_refl _)
  clear k2 j3 hc2
  go_wp2
  go_returns
  exact ⟨x - 1, y - 1, rfl, k3⟩
theorem faults_up (t p : Int) (o : Bool) : (faultsT t p o).Pairwise (· < ·) ∧ (faultsT t p o).length ≤ 4 := by
  unfold faultsT
  cases inB t 0 3 <;> cases inB p 0 255 <;> cases ((p != 0) && !o) <;> cases ((t == 2) && (p != 0)) <;> decide
theorem faults_lt {t p : Int} {o : Bool} {j : Nat} {x y : Int} (hx : (faultsT t p o)[j]? = some x) (hy : (faultsT t p o)[j + 1]? = some y) : x < y := by
  have h := (faults_up t p o).1
  rw [List.pairwise_iff_getElem] at h
  obtain ⟨h1, rfl⟩ := List.getElem?_eq_some_iff.1 hx
  obtain ⟨h2, rfl⟩ := List.getElem?_eq_some_iff.1 hy
  exact h j (j + 1) h1 h2 (by omega)
theorem ctlOk_len {t p : Int} {o : Bool} {n : Nat} (h : (faultsT t p o).length = n) : ctlOkT t p o = ((n : Int) == 0) := by
  unfold ctlOkT
  subst h
  cases faultsT t p o with
  | nil => rfl
  | cons a l => simp; omega
theorem posts_needs {t p n : Int} {o : Bool} (h : postsT t p o n = true) : o = true := by
  unfold postsT ctlOkT at h
  simp only [Bool.and_eq_true] at h
  obtain ⟨⟨h1, h2⟩, h3⟩ := h
  by_cases hp : p = 0
  · subst hp
    obtain ⟨m, hm⟩ : ∃ m : Nat, n = (m : Int) := by
      rw [inB_iff] at h2
      exact ⟨n.toNat, by omega⟩
    have : bitT 0 n = false := by unfold bitT; rw [Int.zero_ediv]; rfl
    rw [this] at h3
    cases h3
  · cases o
    · exfalso
      simp [faultsT] at h1
      exact hp h1.2.2.1
    · rfl
theorem posts_cases {t p n : Int} {o ps : Bool} (h : postsT t p o n = ps) : ps = false ∨ (ps = true ∧ o = true) := by
  cases ps
  · exact .inl rfl
  · exact .inr ⟨rfl, posts_needs h⟩
theorem Rd.two_at {w : World} {hi n c : Nat} {A : Option Addr} {l : List Int} (h : Rd w hi 1 (.slice A n c) (ints l)) (hl : l.length = n) {j : Nat} (hj : j + 1 < n) :
    ∃ g off x y, A = some ⟨g, off, none⟩ ∧ l[j]? = some x ∧ l[j + 1]? = some y ∧ w.cell? ⟨g, off + j, none⟩ = some (.int .i64 x) ∧ w.cell? ⟨g, off + (j + 1), none⟩ = some (.int .i64 y) := by
  obtain ⟨A', n', c', e, h1, h2, h3, h4⟩ := h
  injection e with e1 e2 e3
  subst e1 e2 e3
  obtain ⟨g, off, rfl, _, hc⟩ := h4 (by omega)
  exact ⟨g, off, l[j], l[j + 1], rfl, List.getElem?_eq_getElem (by omega), List.getElem?_eq_getElem (by omega), hc _ _ (ints_get l j (by omega)), hc _ _ (ints_get l (j + 1) (by omega))⟩
theorem ctl_text : ctlS 1 2 true = ⟨#[49, 32, 50, 32, 111, 112, 101, 110]⟩ := by
  unfold ctlS
  rw [decS_small 1 (by omega) (by omega), decS_small 2 (by omega) (by omega)]
  rfl
end Go.Proofs.YtdlcchoemladnaaDoor
