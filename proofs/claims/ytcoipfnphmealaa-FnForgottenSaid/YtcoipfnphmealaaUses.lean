/-
  Contracts of UsesOf: which slots of a table lead to a page.
-/
import Derived.Test.YtcoipfnphmealaaPair
import Derived.Test.YtcoipfnphmealaaElI
import Derived.Handy
namespace Go.Proofs.Ytcoipfnphmealaa
open Go.RowKit

def useAt (l : List Two) (p : Int) (i : Nat) : Bool := (l.getD i (0, 0)).1 == p
def usesUpto (l : List Two) (p : Int) (n : Nat) : List Int := ((List.range n).filter (useAt l p)).map fun (i : Nat) => (i : Int)
def usesT (l : List Two) (p : Int) : List Int := usesUpto l p l.length
theorem usesUpto_yes {l : List Two} {p : Int} {k : Nat} (h : useAt l p k = true) : usesUpto l p (k + 1) = usesUpto l p k ++ [(k : Int)] := by
  unfold usesUpto
  rw [List.range_succ, List.filter_append, List.map_append]
  simp [h]
theorem usesUpto_no {l : List Two} {p : Int} {k : Nat} (h : useAt l p k = false) : usesUpto l p (k + 1) = usesUpto l p k := by
  unfold usesUpto
  rw [List.range_succ, List.filter_append, List.map_append]
  simp [h]
theorem usesUpto_length (l : List Two) (p : Int) (n : Nat) : (usesUpto l p n).length ≤ n := by
  unfold usesUpto
  rw [List.length_map]
  exact Nat.le_trans (List.length_filter_le _ _) (by simp)
theorem useAt_eq {l : List Two} {p x0 x1 : Int} {k : Nat} (h : l[k]? = some (x0, x1)) : useAt l p k = (x0 == p) := by
  unfold useAt
  rw [List.getD_eq_getElem?_getD, h]
  rfl
set_option maxHeartbeats 2000000 in
theorem specUsesOf_any (w : World) (hi : Nat) (v : Value) (l : List Two) (p : Int) (hr : Rd w hi 2 v (ints (twosI l))) (hx : l.length ≤ 1048576) :
    Calls Try.prog 58 #[v, .int .i64 p] w fun e w' => ∃ v', e = .returned v' ∧ Row w' w.heap.size w'.heap.size 3 1 v' (ints (usesT l p)) ∧ Keep 0 0 w w' := by
  obtain ⟨A, n, c, rfl, hn, hm, hl, ha⟩ := hr
  rw [ints_length, twosI_length] at hl
  have hm2 : n ≤ 1048576 := by omega
  have HL := Lib.hid (show l.length = n from by omega)
  clear hl hx
  have hb0 := Bld.lit (B := w.heap.size) w 3 1 (Nat.le_refl _) (g := w.heap.size) rfl
  go_enter Try.func58, Try.ntmps58
  go_wp2
  go_loopw [5, 6] (fun v i wr => ∃ k m : Nat, k ≤ n ∧ i = .int .i64 k ∧ m ≤ k ∧ Bld w w.heap.size 3 1 wr v m (ints (usesUpto l p k))) (fun _ i _ => n - (intOf i).toNat)
  case atStart => exact ⟨0, 0, Nat.zero_le _, rfl, Nat.le_refl _, hb0⟩
  case round =>
    obtain ⟨k, m, hk, rfl, hmk, hb⟩ := hrel
    clear hb0
    by_cases hlt : k < n
    · obtain ⟨b, off, rfl, hb1, hca⟩ := ha (by omega)
      obtain ⟨x0, x1, hx, cx0, cx1, bA⟩ := twos_at HL.out hca hlt
      have HU := Lib.hid (useAt_eq (p := p) (get_of_take hx (by rw [HL.out]; exact hlt)))
      have d0 := (hb.cell (p := ⟨b, off + k * 2, none⟩) (by exact bA)).trans cx0
      clear hca ha hx cx0 cx1 bA
      rcases Bool.eq_false_or_eq_true (x0 == p) with q | q
      · have HS := Lib.hid (usesUpto_yes (HU.out.trans q))
        go_wp2_with (at_builtin; refine wpList_append_one rfl _ _ 37 rfl elInt rfl hb 1 [_] _ rfl (by first | rfl | simp) rfl (by simp [Value.oneCell']) (by omega) (by unfold maxLen; omega) (fun v' w' hb' hsz => ?_))
        go_roundw
        case rel => exact ⟨k + 1, m + 1, by omega, by go_num, by omega, by rw [HS.out, ints_append]; exact hb'⟩
        case measure => simp [intOf]; omega
      · have HS := Lib.hid (usesUpto_no (HU.out.trans q))
        go_wp2
        go_roundw
        case rel => exact ⟨k + 1, m, by omega, by go_num, by omega, by rw [HS.out]; exact hb⟩
        case measure => simp [intOf]; omega
    · have hkn : k = n := by omega
      subst hkn
      have hk := Lib.hid (bld_post0 hb (show ints (usesUpto l p k) = ints (usesT l p) from by unfold usesT; rw [HL.out]))
      clear hb
      go_wp2
      go_ret
      exact ⟨_, rfl, hk.out⟩
set_option maxHeartbeats 2000000 in
theorem implUsesOf_any (w : World) (hi : Nat) (v : Value) (l : List Two) (p : Int) (hr : Rd w hi 2 v (ints (twosI l))) (hx : l.length ≤ 1048576) :
    Calls Try.prog 87 #[v, .int .i64 p] w fun e w' => ∃ v', e = .returned v' ∧ Row w' w.heap.size w'.heap.size 3 1 v' (ints (usesT l p)) ∧ Keep 0 0 w w' := by
  obtain ⟨A, n, c, rfl, hn, hm, hl, ha⟩ := hr
  rw [ints_length, twosI_length] at hl
  have hm2 : n ≤ 1048576 := by omega
  have HL := Lib.hid (show l.length = n from by omega)
  clear hl hx
  have hb0 := Bld.lit (B := w.heap.size) w 3 1 (Nat.le_refl _) (g := w.heap.size) rfl
  go_enter Try.func87, Try.ntmps87
  go_wp2
  go_loopw [5, 11] (fun v i wr => ∃ k m : Nat, k ≤ n ∧ i = .int .i64 k ∧ m ≤ k ∧ Bld w w.heap.size 3 1 wr v m (ints (usesUpto l p k))) (fun _ i _ => n - (intOf i).toNat)
  case atStart => exact ⟨0, 0, Nat.zero_le _, rfl, Nat.le_refl _, hb0⟩
  case round =>
    obtain ⟨k, m, hk, rfl, hmk, hb⟩ := hrel
    clear hb0
    by_cases hlt : k < n
    · obtain ⟨b, off, rfl, hb1, hca⟩ := ha (by omega)
      obtain ⟨x0, x1, hx, cx0, cx1, bA⟩ := twos_at HL.out hca hlt
      have HU := Lib.hid (useAt_eq (p := p) (get_of_take hx (by rw [HL.out]; exact hlt)))
      have d0 := (hb.cell (p := ⟨b, off + k * 2, none⟩) (by exact bA)).trans cx0
      have d1 := (hb.cell (p := ⟨b, off + k * 2 + 1, none⟩) (by exact bA)).trans cx1
      have hb2 := hb.alloc (.cells #[.int .i64 x0, .int .i64 x1] 67)
      clear hca ha hx cx0 cx1 bA
      rcases Bool.eq_false_or_eq_true (x0 == p) with q | q
      · have HS := Lib.hid (usesUpto_yes (HU.out.trans q))
        go_wp2_with (at_builtin; refine wpList_append_one rfl _ _ 37 rfl elInt rfl hb2 1 [_] _ rfl (by first | rfl | simp) rfl (by simp [Value.oneCell']) (by omega) (by unfold maxLen; omega) (fun v' w' hb' hsz => ?_))
        go_roundw
        case rel => exact ⟨k + 1, m + 1, by omega, by go_num, by omega, by rw [HS.out, ints_append]; exact hb'⟩
        case measure => simp [intOf]; omega
      · have HS := Lib.hid (usesUpto_no (HU.out.trans q))
        go_wp2
        go_roundw
        case rel => exact ⟨k + 1, m, by omega, by go_num, by omega, by rw [HS.out]; exact hb2⟩
        case measure => simp [intOf]; omega
    · have hkn : k = n := by omega
      subst hkn
      have hk := Lib.hid (bld_post0 hb (show ints (usesUpto l p k) = ints (usesT l p) from by unfold usesT; rw [HL.out]))
      clear hb
      go_wp2
      go_ret
      exact ⟨_, rfl, hk.out⟩
end Go.Proofs.Ytcoipfnphmealaa
