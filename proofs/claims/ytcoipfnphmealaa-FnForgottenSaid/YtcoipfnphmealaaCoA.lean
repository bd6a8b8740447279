/-
  KnownIn counts what is known; Compose composes each slot.
-/
import Derived.Test.YtcoipfnphmealaaComp
import Derived.Test.YtcoipfnphmealaaKept
import Derived.Test.YtcoipfnphmealaaCopy
import Derived.Handy
namespace Go.Proofs.Ytcoipfnphmealaa
open Go.RowKit

def knownT (ks : List Bool) : Nat := (ks.filter id).length
theorem knownT_le (ks : List Bool) : knownT ks ≤ ks.length := List.length_filter_le _ _
theorem knownT_snoc (ks : List Bool) (b : Bool) : knownT (ks ++ [b]) = knownT ks + (if b then 1 else 0) := by cases b <;> simp [knownT]
set_option maxRecDepth 100000 in
set_option maxHeartbeats 2000000 in
theorem implKnownIn_any (w : World) (hi : Nat) (va vb : Value) (ks : List Bool) (ra : Rd w hi 1 va (bols ks)) (hx : ks.length ≤ 1048576) :
    Calls Try.prog 51 #[.agg #[va, vb]] w fun e w' => e = .returned (.int .i64 (knownT ks : Nat)) ∧ Keep 0 0 w w' := by
  obtain ⟨A, n, c, rfl, hn, hm, hl, ha⟩ := ra
  rw [bols_length, Nat.mul_one] at hl
  have hm2 : n ≤ 1048576 := by omega
  have KW := Lib.hid (keep_1 w (.cells #[.slice A n c, vb] 55))
  clear hm hn hx
  have HL := Lib.hid hl
  clear hl
  go_enter Try.func51, Try.ntmps51
  go_wp2
  go_loopw [3, 9] (fun v i wr => ∃ k : Nat, k ≤ n ∧ i = .int .i64 k ∧ v = .int .i64 (knownT (ks.take k) : Nat) ∧ wr = w.alloc (.cells #[.slice A n c, vb] 55)) (fun _ i _ => n - (intOf i).toNat)
  case atStart => exact ⟨0, Nat.zero_le _, rfl, rfl, rfl⟩
  case round =>
    obtain ⟨k, hk, rfl, rfl, rfl⟩ := hrel
    have hkt : knownT (ks.take k) ≤ n := Nat.le_trans (knownT_le _) (by rw [List.length_take]; omega)
    by_cases hlt : k < n
    · obtain ⟨b, off, rfl, hb1, hca⟩ := ha (by omega)
      have hlt2 : k < ks.length := by rw [HL.out]; exact hlt
      have c00 := hca k (.bool ks[k]) (by simp [bols, hlt2])
      have c0 := KW.out.cells (World.block_lt_of_cell? _ _ c00) c00
      have HT := Lib.hid (show knownT (ks.take (k + 1)) = knownT (ks.take k) + (if ks[k] then 1 else 0) from by rw [List.take_succ_eq_append_getElem hlt2, knownT_snoc])
      generalize ks[k] = bb at c0 HT
      obtain ⟨m, hm⟩ : ∃ m, knownT (ks.take k) = m := ⟨_, rfl⟩
      rw [hm] at HT hkt ⊢
      clear c00 hca ha hm
      rcases bb with _ | _
      · go_wp2
        go_roundw
        case rel => exact ⟨k + 1, by omega, by go_num, by rw [HT.out]; simp, by first | rfl | trivial⟩
        case measure => simp [intOf]; omega
      · go_wp2
        go_roundw
        case rel => exact ⟨k + 1, by omega, by go_num, by rw [HT.out]; go_num, by first | rfl | trivial⟩
        case measure => simp [intOf]; omega
    · have hkn : k = n := by omega
      subst hkn
      have HE := Lib.hid (show ks.take k = ks from List.take_of_length_le (by rw [HL.out]; omega))
      clear ha
      go_wp2
      go_ret
      exact ⟨by rw [HE.out]; rfl, KW.out⟩
theorem snocT (l : List Two) (a b : Int) : ints (twosI (l ++ [(a, b)])) = ints (twosI l) ++ [.int .i64 a, .int .i64 b] := by simp [twosI, ints, twoI]
set_option maxRecDepth 100000 in
set_option maxHeartbeats 4000000 in
theorem implCompose_any (w : World) (h1 h2 : Nat) (vi vo : Value) (inner outer : List Two) (ri : Rd w h1 2 vi (ints (twosI inner))) (ro : Rd w h2 2 vo (ints (twosI outer))) (z2 : h2 ≤ w.heap.size) (hx : inner.length ≤ 1048576) :
    Calls Try.prog 50 #[vi, vo] w fun e w' => ∃ v', e = .returned v' ∧ Row w' w.heap.size w'.heap.size 67 2 v' (ints (twosI (inner.map fun s => compT s outer))) ∧ Keep 0 0 w w' := by
  obtain ⟨A, n, c, rfl, hn, hm, hl, ha⟩ := ri
  rw [ints_length, twosI_length] at hl
  have hm2 : n ≤ 1048576 := by omega
  have HL := Lib.hid (show inner.length = n from by omega)
  have RO := Lib.hid ro
  clear hl hx hm hn ro
  have hb0 := Bld.lit (B := w.heap.size) w 67 2 (Nat.le_refl _) (g := w.heap.size) rfl
  go_enter Try.func50, Try.ntmps50
  go_wp2
  go_loopw [5, 11] (fun v i wr => ∃ k : Nat, k ≤ n ∧ i = .int .i64 k ∧ Bld w w.heap.size 67 2 wr v k (ints (twosI ((inner.take k).map fun s => compT s outer)))) (fun _ i _ => n - (intOf i).toNat)
  case atStart => exact ⟨0, Nat.zero_le _, rfl, hb0⟩
  case round =>
    obtain ⟨k, hk, rfl, hb⟩ := hrel
    clear hb0
    by_cases hlt : k < n
    · obtain ⟨b, off, rfl, hb1, hca⟩ := ha (by omega)
      obtain ⟨x0, x1, hx, cx0, cx1, bA⟩ := twos_at HL.out hca hlt
      obtain ⟨⟨y0, y1⟩, hy⟩ : ∃ y, compT (x0, x1) outer = y := ⟨_, rfl⟩
      have HY := Lib.hid hy
      have HS := Lib.hid (show ints (twosI ((inner.take (k + 1)).map fun s => compT s outer)) = ints (twosI ((inner.take k).map fun s => compT s outer)) ++ [.int .i64 y0, .int .i64 y1] from by
        rw [hx, List.map_append, List.map_cons, List.map_nil, hy, snocT])
      have d0 := (hb.cell (p := ⟨b, off + k * 2, none⟩) (by exact bA)).trans cx0
      have d1 := (hb.cell (p := ⟨b, off + k * 2 + 1, none⟩) (by exact bA)).trans cx1
      have hb2 := hb.alloc (.cells #[.int .i64 x0, .int .i64 x1] 67)
      have kb := Keep.of_below hb2.bel
      have ro2 := RO.out.keep kb z2 (.inr (Nat.le_refl 0))
      have hz := Nat.le_trans z2 kb.size
      clear hca ha hx cx0 cx1 bA hy hb kb
      go_wp2_with (first
        | (go_at_call 81; refine (implComposeSlot_to _ h2 vo outer x0 x1 y0 y1 ro2 hz HY.out).mono ?_; rintro e w2 ⟨rfl, k2⟩; have hb3 := hb2.keep k2)
        | (at_builtin; refine wpList_append_one rfl _ _ 50 rfl elSlot rfl hb3 1 [.int .i64 y0, .int .i64 y1] _ rfl (by first | rfl | simp) rfl (by simp [Value.oneCell']) (by omega) (by unfold maxLen; omega) (fun v' w' hb' hsz => ?_))
        | fail)
      go_roundw
      case rel => exact ⟨k + 1, by omega, by go_num, by rw [HS.out]; exact hb'⟩
      case measure => simp [intOf]; omega
    · have hkn : k = n := by omega
      subst hkn
      have HK := Lib.hid (bld_post0 hb (show ints (twosI ((inner.take k).map fun s => compT s outer)) = ints (twosI (inner.map fun s => compT s outer)) from by rw [List.take_of_length_le (by rw [HL.out]; omega)]))
      clear hb ha
      go_wp2
      go_ret
      exact ⟨_, rfl, HK.out⟩
end Go.Proofs.Ytcoipfnphmealaa
