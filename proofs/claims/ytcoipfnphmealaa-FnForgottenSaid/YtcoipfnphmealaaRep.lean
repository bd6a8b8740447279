/-
  The library's Repeat of one empty slot, for small counts.
-/
import Derived.Test.YtcoipfnphmealaaNew
import Derived.Test.YtcoipfnphmealaaShelf
import Derived.Laws.CopyOwn
import Derived.Deep.RegionLaw
namespace Go.Proofs.Ytcoipfnphmealaa
open Go.RowKit

theorem run_copy_wide {P : Program} (w : World) (dT sT ty elem : TypeId) (g o dLen dCap : Nat) (a : Addr) (sLen sCap : Nat) (cur : Array Value) (t : TypeId) (cs : List Value) (sz m : Nat)
    (hu : P.underlying dT = some (.slice elem)) (hs : ∃ i, P.info? elem = some i ∧ i.size = sz)
    (hg : w.heap[g]? = some (.cells cur t (0, 0))) (hm : Nat.min sLen dLen = m) (hn : cs.length = m * sz)
    (hsrc : ∀ j v, cs[j]? = some v → w.cell? (a.add j) = some v) (hfit : o + cs.length ≤ cur.size) (h1 : ∀ v ∈ cs, v.oneCell' = true) :
    (Builtin.copy_ #[dT, sT] ty #[.slice (some ⟨g, o, none⟩) dLen dCap, .slice (some a) sLen sCap]).run P w =
      .ok (goInt m) (w.setRow g (cur.toList.take o ++ cs ++ cur.toList.drop (o + cs.length)).toArray) := by
  have hl := run_loadCells_list (P := P) w a cs hsrc
  have hst := run_storeCells_at P g o t cs 0 cur w hg (by simpa using hfit) h1
  obtain ⟨i, hq, hi⟩ := hs
  subst hm
  simp [Builtin.copy_, run_underlying hu, Builtin.lenOf, Builtin.firstCells, sizeOf, typeInfo, hq, hi, ← hn, hl, hst]
theorem step_copy_run {P : Program} {ops : Array Oper} {o : Oper} {a : Act} {w : World} {K : Act → World → Prop} {Q : Exit → Act → World → Prop} {E : Prop} (hgd : o.guard = none) (d s : Operand) (dT sT : TypeId)
    (ho : o.op = .call { callee := .builtin .copy, args := #[d, s], argTypes := #[dT, sT] }) (dv sv : Value) (hd : a.eval d = dv) (hs : a.eval s = sv) (v : Value) (W1 : World)
    (hrun : (Builtin.copy_ #[dT, sT] o.type #[dv, sv]).run P w = .ok v W1) (h : K (a.put o.dst v) W1) :
    if Region.wanted o (yielded ops a.tmps) = true then Oper.wp P o a w K Q else E := by
  have hw : Region.wanted o (yielded ops a.tmps) = true := by simp [Region.wanted, hgd]
  rw [if_pos hw]
  unfold Oper.wp
  simp [execOp, ho, resolve, invoke, builtin, hd, hs, hrun, Result.andThen]
  exact h
def noTab (n : Nat) : List Two := List.replicate n (-1, 0)
theorem noTab_length (n : Nat) : (noTab n).length = n := by simp [noTab]
theorem mul_one_any (n : Nat) (hn : n ≤ 24) (w : World) : Calls Try.prog 116 #[.int .u64 1, .int .u64 n] w fun e w' => e = .returned (.tuple #[.int .u64 0, .int .u64 n]) ∧ w = w' := by
  refine (Try.bits_Mul 1 n (by omega) (by omega) w).mono ?_
  rintro e w' ⟨rfl, rfl⟩
  have h1 : 1 * n / 18446744073709551616 = 0 := by omega
  have h2 : 1 * n % 18446744073709551616 = n := by omega
  rw [h1, h2]
  exact ⟨rfl, rfl⟩
theorem noTab_cells (k m : Nat) (Z : List Value) :
    ((ints (twosI (noTab k)) ++ Z.drop (k * 2)).take (k * 2) ++ ints (twosI (noTab m)) ++ (ints (twosI (noTab k)) ++ Z.drop (k * 2)).drop (k * 2 + (ints (twosI (noTab m))).length)) = ints (twosI (noTab (k + m))) ++ Z.drop ((k + m) * 2) := by
  have l1 : (ints (twosI (noTab k))).length = k * 2 := by rw [ints_length, twosI_length, noTab_length]
  have l2 : (ints (twosI (noTab m))).length = m * 2 := by rw [ints_length, twosI_length, noTab_length]
  rw [List.take_append_of_le_length (by omega), List.take_of_length_le (by omega), l2, List.drop_append, List.drop_of_length_le (by omega), l1, List.nil_append, List.drop_drop]
  have e : noTab (k + m) = noTab k ++ noTab m := by simp [noTab]
  rw [e, twosI_append, ints_append]
  congr 2
  omega
theorem noTab_at (k j : Nat) (v : Value) (Z : List Value) (h : (ints (twosI (noTab k)))[j]? = some v) : (ints (twosI (noTab k)) ++ Z)[j]? = some v := by
  have hj : j < (ints (twosI (noTab k))).length := by
    rcases Nat.lt_or_ge j (ints (twosI (noTab k))).length with h1 | h1
    · exact h1
    · rw [List.getElem?_eq_none h1] at h; cases h
  rw [List.getElem?_append_left hj]
  exact h
theorem noTab_le {k m j : Nat} {v : Value} (hk : m ≤ k) (h : (ints (twosI (noTab m)))[j]? = some v) : (ints (twosI (noTab k)))[j]? = some v := by
  have e : noTab k = noTab m ++ noTab (k - m) := by unfold noTab; rw [List.replicate_append_replicate]; congr 1; omega
  rw [e, twosI_append, ints_append]
  exact noTab_at m j v _ h
/-- A copy of empty slots behind those that stand. -/
theorem copy_step (W : World) (G k n m sLen sCap : Nat) (a : Addr) (Z : Array Value) (hW : W.heap[G]? = some (.cells (ints (twosI (noTab k)) ++ Z.toList.drop (k * 2)).toArray 67 (0, 0))) (hZ : Z.size = n * 2) (hk : k ≤ n) (hm : Nat.min sLen (n - k) = m)
    (hs : ∀ j v, (ints (twosI (noTab m)))[j]? = some v → W.cell? (a.add j) = some v) :
    ∃ W1, (Builtin.copy_ #[50, 50] 3 #[.slice (some ⟨G, k * 2, none⟩) (n - k) (n - k), .slice (some a) sLen sCap]).run Try.prog W = .ok (.int .i64 m) W1 ∧
      W1.heap[G]? = some (.cells (ints (twosI (noTab (k + m))) ++ Z.toList.drop ((k + m) * 2)).toArray 67 (0, 0)) ∧ (∀ B, B ≤ G → Below B W W1) ∧ W1.heap.size = W.heap.size := by
  obtain ⟨i, hi1, hz, hsz, hby⟩ := elSlot.inf
  have l2 : (ints (twosI (noTab m))).length = m * 2 := by rw [ints_length, twosI_length, noTab_length]
  have l1 : (ints (twosI (noTab k))).length = k * 2 := by rw [ints_length, twosI_length, noTab_length]
  have hmn : k + m ≤ n := by have e : Nat.min sLen (n - k) = min sLen (n - k) := rfl; omega
  have hrun := run_copy_wide (P := Try.prog) W 50 50 3 67 G (k * 2) (n - k) (n - k) a sLen sCap _ _ (ints (twosI (noTab m))) 2 m elSlot.und ⟨i, hi1, hsz⟩ hW hm l2 hs (by simp only [List.size_toArray, List.length_append, l1, l2, List.length_drop, Array.length_toList]; omega) (ints_one _)
  rw [noTab_cells k m Z.toList] at hrun
  exact ⟨_, hrun, setRow_heap W G _ _ _ _ hW, fun B hB => below_setRow (Below.refl _ _) hB _, by simp [World.setRow]⟩
set_option maxRecDepth 100000 in
set_option maxHeartbeats 4000000 in
theorem repeat_any (w : World) (g c : Nat) (n : Nat) (hn : n ≤ 24)
    (c0 : w.cell? ⟨g, 0, none⟩ = some (.int .i64 (-1))) (c1 : w.cell? ⟨g, 1, none⟩ = some (.int .i64 0)) :
    Calls Try.prog 95 #[.slice (some ⟨g, 0, none⟩) 1 c, .int .i64 n] w fun e w' =>
      ∃ v, e = .returned v ∧ Row w' w.heap.size w'.heap.size 67 2 v (ints (twosI (noTab n))) ∧ Keep 0 0 w w' := by
  obtain ⟨i, hi1, hz, hsz, hby⟩ := elSlot.inf
  have hmk := fun W => run_make_row2 (P := Try.prog) 50 67 i _ elSlot.und hi1 hz .i64 .i64 n n (Nat.le_refl _) (by rw [hby]; omega) (by omega) W
  rw [hsz] at hmk
  obtain ⟨Z, hZ⟩ : ∃ Z, Z = madeCells #[.int .i64 0, .int .i64 0] (n * 2) := ⟨_, rfl⟩
  have hlen : Z.size = n * 2 := by rw [hZ, size_madeCells]
  rw [show (Value.agg #[Value.int IntKind.i64 0, Value.int IntKind.i64 0]).cells = #[.int .i64 0, .int .i64 0] from rfl, ← hZ] at hmk
  have HLEN := Lib.hid hlen
  clear hZ hlen
  go_enter Try.func95, Try.ntmps95
  go_wp2_with fail
  refine (mul_one_any n hn _).mono ?_
  rintro e w' ⟨rfl, rfl⟩
  obtain ⟨m0, hm0⟩ : ∃ m0, Nat.min 1 n = m0 := ⟨_, rfl⟩
  have hm1 : (n = 0 ∧ m0 = 0) ∨ (0 < n ∧ m0 = 1) := by have e : Nat.min 1 n = min 1 n := rfl; omega
  have HM := Lib.hid hm0
  have HS := Lib.hid (show ∀ j v, (ints (twosI (noTab m0)))[j]? = some v → (w.alloc (.cells Z 67)).cell? ((⟨g, 0, none⟩ : Addr).add j) = some v from by
    intro j v h
    have h1 := noTab_le (k := 1) (by omega) h
    rw [show (⟨g, 0, none⟩ : Addr).add j = ⟨g, j, none⟩ from by unfold Addr.add; split <;> simp_all]
    have hg1 := World.block_lt_of_cell? _ _ c0
    rw [(keep_1 w (.cells Z 67)).cell0 (p := ⟨g, j, none⟩) hg1]
    rcases j with _ | _ | j
    · exact c0.trans h1
    · exact c1.trans h1
    · simp [noTab, twosI, twoI, ints] at h1)
  obtain ⟨W1, hcp, hg1, hb1, hs1⟩ := copy_step (w.alloc (.cells Z 67)) w.heap.size 0 n m0 1 c ⟨g, 0, none⟩ Z (by simpa [noTab, twosI, ints] using Go.heap_alloc_new w (.cells Z 67)) HLEN.out (Nat.zero_le _) hm0 HS.out
  have hk1 := Keep.of_below (((Below.refl w.heap.size w).alloc (Nat.le_refl _) (.cells Z 67)).trans (hb1 _ (Nat.le_refl _)))
  simp only [Nat.zero_mul, Nat.sub_zero, Nat.zero_add] at hcp hg1
  have hz1 : w.heap.size < W1.heap.size := by rw [hs1]; simp
  clear hm0 hb1 hs1 HS
  go_wp2
  go_loopw [8] (fun v wr => ∃ k : Nat, k ≤ n ∧ (k = 0 → n = 0) ∧ v = .int .i64 k ∧ wr.heap[w.heap.size]? = some (.cells (ints (twosI (noTab k)) ++ Z.toList.drop (k * 2)).toArray 67 (0, 0)) ∧ Keep 0 0 w wr ∧ w.heap.size < wr.heap.size) (fun v _ => n - (intOf v).toNat)
  case atStart => exact ⟨m0, by omega, by omega, rfl, hg1, hk1, hz1⟩
  case round =>
    obtain ⟨k, hk, hk0, rfl, hg2, hk2, hz2⟩ := hrel
    clear hcp hg1 hk1 hmk hz1
    by_cases hlt : k < n
    · obtain ⟨m, hm⟩ : ∃ m, Nat.min k (n - k) = m := ⟨_, rfl⟩
      have hm2 : 0 < m ∧ m ≤ k ∧ k + m ≤ n := by have e : Nat.min k (n - k) = min k (n - k) := rfl; omega
      obtain ⟨W2, hcp, hg3, hb3, hs3⟩ := copy_step wr.drew w.heap.size k n m k n ⟨w.heap.size, 0, none⟩ Z hg2 HLEN.out hk hm (fun j v h => by
        rw [show (⟨w.heap.size, 0, none⟩ : Addr).add j = ⟨w.heap.size, j, none⟩ from by unfold Addr.add; split <;> simp_all]
        show wr.cell? _ = _
        rw [cell_of_row _ w.heap.size j _ 67 (0, 0) hg2]
        simpa using noTab_at k j v _ (noTab_le hm2.2.1 h))
      have hK2 := Lib.hid (Keep.of_below (hk2.drew.below.trans (hb3 _ (Nat.le_refl _))))
      have HG3 := Lib.hid hg3
      have HZ2 := Lib.hid (show w.heap.size < W2.heap.size from by rw [hs3]; exact hz2)
      obtain ⟨hm3, hm4, hm5⟩ := hm2
      clear hg2 hm hg3 hb3 hs3
      go_wp2
      have hkl : (k : Int) ≤ n := by omega
      have hne : ¬ n = k := by omega
      have hwr : IntKind.i64.wrap ((k : Int) + m) = (k : Int) + m := by rw [IntKind.wrap_i64]; omega
      go_region_law (refine step_copy_run rfl (.tmp 41) (.tmp 44) 50 50 rfl (.slice (some ⟨w.heap.size, k * 2, none⟩) (n - k) (n - k)) (.slice (some ⟨w.heap.size, 0, none⟩) k n) (by go_simp) (by go_simp) (.int .i64 m) W2 hcp ?_)
      all_goals go_simp
      all_goals go_wp2
      all_goals go_roundw
      case rel => exact ⟨k + m, by omega, by omega, by go_num, HG3.out, hK2.out, HZ2.out⟩
      case measure => simp [intOf]; omega
    · have hkn : k = n := by omega
      subst hkn
      go_wp2
      go_ret
      have hZl : Z.toList.length = k * 2 := by rw [Array.length_toList]; exact HLEN.out
      rw [List.drop_of_length_le (by omega), List.append_nil] at hg2
      refine ⟨_, rfl, ⟨some ⟨w.heap.size, 0, none⟩, k, k, rfl, Nat.le_refl _, by unfold maxLen; omega, by rw [ints_length, twosI_length, noTab_length], fun _ => ⟨w.heap.size, 0, _, rfl, Nat.le_refl _, hz2, hg2, fun j u hu => by simpa using hu⟩⟩, hk2⟩
end Go.Proofs.Ytcoipfnphmealaa
