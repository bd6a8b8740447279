/-
  Contracts of BufferOk, the program's and the reference's: no two entries of one tag and page, and at most six.
-/
import Derived.Test.YtcoipfnphmealaaFlush
namespace Go.Proofs.Ytcoipfnphmealaa
open Go.RowKit

def nd (acc : List Ent) : List Ent → Bool
  | [] => true
  | e :: t => !(acc.any (flPage e.1 e.2.1)) && nd (acc ++ [e]) t
def bufOkT (l : List Ent) : Bool := nd [] l && decide (l.length ≤ 6)
theorem drop_of_take {l : List Ent} {k : Nat} {e : Ent} (h : l.take (k + 1) = l.take k ++ [e]) (hk : k < l.length) : l.drop k = e :: l.drop (k + 1) := by
  have h1 : l[k] = e := by
    have := List.take_succ_eq_append_getElem (l := l) hk
    rw [h] at this
    have := List.append_cancel_left this
    simpa using this.symm
  rw [← h1]
  exact List.drop_eq_getElem_cons hk
theorem nd_step {l : List Ent} {k : Nat} {e : Ent} (h : l.take (k + 1) = l.take k ++ [e]) (hk : k < l.length) (hd : (l.take k).any (flPage e.1 e.2.1) = false) : nd (l.take k) (l.drop k) = nd (l.take (k + 1)) (l.drop (k + 1)) := by
  rw [drop_of_take h hk, nd, hd, h]
  rfl
theorem nd_dup {l : List Ent} {k : Nat} {e : Ent} (h : l.take (k + 1) = l.take k ++ [e]) (hk : k < l.length) (hd : (l.take k).any (flPage e.1 e.2.1) = true) (hn : nd [] l = nd (l.take k) (l.drop k)) : bufOkT l = false := by
  unfold bufOkT
  rw [hn, drop_of_take h hk, nd, hd]
  rfl
theorem nd_end {l : List Ent} {k : Nat} (hk : l.length ≤ k) (hn : nd [] l = nd (l.take k) (l.drop k)) : bufOkT l = decide (l.length ≤ 6) := by
  unfold bufOkT
  rw [hn, List.drop_of_length_le hk, nd]
  rfl
theorem any_hit {l : List Ent} {k j : Nat} {f : Ent} {p : Ent → Bool} (h : l.take (j + 1) = l.take j ++ [f]) (hj : j < k) (hp : p f = true) : (l.take k).any p = true := by
  have : l.take (j + 1) = (l.take k).take (j + 1) := by rw [List.take_take, Nat.min_eq_left (by omega)]
  rw [List.any_eq_true]
  refine ⟨f, ?_, hp⟩
  apply List.mem_of_mem_take (i := j + 1)
  rw [← this, h]
  simp
theorem any_skip {l : List Ent} {j : Nat} {f : Ent} {p : Ent → Bool} (h : l.take (j + 1) = l.take j ++ [f]) (hd : (l.take j).any p = false) (hp : p f = false) : (l.take (j + 1)).any p = false := by
  rw [h, List.any_append, hd]
  simp [hp]
theorem dup_cases (x0 x1 y0 y1 y2 y3 : Int) : ((x0 == y0) = true ∧ (x1 == y1) = true ∧ flPage x0 x1 (y0, y1, y2, y3) = true) ∨ ((x0 == y0) = false ∧ flPage x0 x1 (y0, y1, y2, y3) = false) ∨ ((x0 == y0) = true ∧ (x1 == y1) = false ∧ flPage x0 x1 (y0, y1, y2, y3) = false) := by
  by_cases h1 : x0 = y0
  · subst h1
    by_cases h2 : x1 = y1
    · subst h2; simp [flPage]
    · have h3 : ¬ y1 = x1 := fun e => h2 e.symm
      simp [flPage, h2, h3]
  · have h3 : ¬ y0 = x0 := fun e => h1 e.symm
    simp [flPage, h1, h3]

set_option maxHeartbeats 8000000 in
theorem specBufferOk_any (w : World) (hi : Nat) (v : Value) (l : List Ent) (hr : Rd w hi 4 v (ints (entsI l))) (hx : l.length ≤ 1048577) :
    Calls Try.prog 16 #[v] w fun e w' => e = .returned (.bool (bufOkT l)) ∧ Dr w w' := by
  obtain ⟨A, n, c, rfl, hn, hm, hl, ha⟩ := hr
  rw [ints_length, entsI_length] at hl
  have hm2 : n ≤ 1048577 := by omega
  have HL := Lib.hid (show l.length = n from by omega)
  have HA := Lib.hid ha
  clear hl hx ha
  go_enter Try.func16, Try.ntmps16
  go_wp2
  go_loopw [3] (fun i wr => ∃ k : Nat, k ≤ n ∧ i = .int .i64 k ∧ nd [] l = nd (l.take k) (l.drop k) ∧ Dr w wr) (fun i _ => n - (intOf i).toNat)
  case atStart => exact ⟨0, Nat.zero_le _, rfl, rfl, Dr.refl _⟩
  case round =>
    obtain ⟨k, hk, rfl, hnd, ⟨q0, rfl⟩⟩ := hrel
    have HN := Lib.hid hnd
    clear hnd
    by_cases hlt : k < n
    · obtain ⟨b, off, rfl, hb1, hca⟩ := HA.out (by omega)
      obtain ⟨x0, x1, x2, x3, hx, cx0, cx1, cx2, cx3, bA⟩ := ents_at HL.out hca hlt
      have HC := Lib.hid hca
      have HX := Lib.hid hx
      clear hca hx cx2 cx3 bA
      go_wp2
      go_loopw [4] (fun i wr => ∃ j m : Nat, j ≤ k ∧ i = .int .i64 j ∧ (l.take j).any (flPage x0 x1) = false ∧ wr = w.drewN m) (fun i _ => k - (intOf i).toNat)
      case atStart => exact ⟨0, q0, Nat.zero_le _, rfl, rfl, rfl⟩
      case round =>
        obtain ⟨j, m, hj, rfl, hany, rfl⟩ := hrel
        have HY := Lib.hid hany
        clear hany
        by_cases hjk : j < k
        · obtain ⟨y0, y1, y2, y3, hy, cy0, cy1, cy2, cy3, bB⟩ := ents_at HL.out HC.out (show j < n from by omega)
          have HZ := Lib.hid hy
          clear hy cy2 cy3 bB
          rcases dup_cases x0 x1 y0 y1 y2 y3 with ⟨e1, e2, he⟩ | ⟨e1, he⟩ | ⟨e1, e2, he⟩
          · have HF := Lib.hid (nd_dup HX.out (by rw [HL.out]; exact hlt) (any_hit HZ.out hjk he) HN.out)
            clear he
            go_wp2
            go_quiet (fail)
            go_wp2
            go_ret
            exact ⟨by rw [HF.out]; rfl, Dr.mk2 _ _ _⟩
          · have HF := Lib.hid (any_skip HZ.out HY.out he)
            clear he
            go_wp2
            go_quiet (fail)
            go_wp2
            go_roundw
            case rel => exact ⟨j + 1, _, by omega, by go_num, HF.out, rfl⟩
            case measure => simp [intOf]; omega
          · have HF := Lib.hid (any_skip HZ.out HY.out he)
            clear he
            go_wp2
            go_quiet (fail)
            go_wp2
            go_roundw
            case rel => exact ⟨j + 1, _, by omega, by go_num, HF.out, rfl⟩
            case measure => simp [intOf]; omega
        · have hjk2 : j = k := by omega
          subst hjk2
          have HF := Lib.hid (nd_step HX.out (by rw [HL.out]; exact hlt) HY.out)
          go_wp2
          go_roundw
          case rel => exact ⟨j + 1, by omega, by go_num, HN.out.trans HF.out, Dr.mk _ _⟩
          case measure => simp [intOf]; omega
    · have hkn : k = n := by omega
      subst hkn
      have HF := Lib.hid (nd_end (by rw [HL.out]; omega) HN.out)
      go_wp2
      go_ret
      exact ⟨by rw [HF.out, HL.out]; simp; omega, Dr.mk _ _⟩
set_option maxHeartbeats 8000000 in
theorem implBufferOk_any (w : World) (hi : Nat) (v : Value) (l : List Ent) (hr : Rd w hi 4 v (ints (entsI l))) (hx : l.length ≤ 1048577) :
    Calls Try.prog 15 #[v] w fun e w' => e = .returned (.bool (bufOkT l)) ∧ Keep 0 0 w w' := by
  obtain ⟨A, n, c, rfl, hn, hm, hl, ha⟩ := hr
  rw [ints_length, entsI_length] at hl
  have hm2 : n ≤ 1048577 := by omega
  unfold maxLen at hm
  have HL := Lib.hid (show l.length = n from by omega)
  have HA := Lib.hid ha
  clear hl hx ha
  go_enter Try.func15, Try.ntmps15
  go_wp2
  go_loopw [9] (fun i wr => ∃ k : Nat, k ≤ n ∧ i = .int .i64 k ∧ nd [] l = nd (l.take k) (l.drop k) ∧ Keep 0 0 w wr) (fun i _ => n - (intOf i).toNat)
  case atStart => exact ⟨0, Nat.zero_le _, rfl, rfl, Keep.refl _ _ _⟩
  case round =>
    obtain ⟨k, hk, rfl, hnd, hK⟩ := hrel
    obtain ⟨wo, rfl⟩ : ∃ wo : World, wo = wr := ⟨_, rfl⟩
    have HN := Lib.hid hnd
    clear hnd
    by_cases hlt : k < n
    · obtain ⟨b, off, rfl, hb1, hca⟩ := HA.out (by omega)
      obtain ⟨x0, x1, x2, x3, hx, cx0, cx1, cx2, cx3, bA⟩ := ents_at HL.out hca hlt
      have HC := Lib.hid hca
      have HX := Lib.hid hx
      have d0 := (hK.cell0 (p := ⟨b, off + k * 4, none⟩) (by exact bA)).trans cx0
      have d1 := (hK.cell0 (p := ⟨b, off + k * 4 + 1, none⟩) (by exact bA)).trans cx1
      have d2 := (hK.cell0 (p := ⟨b, off + k * 4 + 2, none⟩) (by exact bA)).trans cx2
      have d3 := (hK.cell0 (p := ⟨b, off + k * 4 + 3, none⟩) (by exact bA)).trans cx3
      have hlt' : (k : Int) < n := by omega
      clear hca hx cx0 cx1 cx2 cx3 bA
      go_wp2
      go_loopw [18] (fun i wr => ∃ j : Nat, j ≤ k ∧ i = .int .i64 j ∧ (l.take j).any (flPage x0 x1) = false ∧ Keep 0 0 (wo.alloc (.cells #[.int .i64 x0, .int .i64 x1, .int .i64 x2, .int .i64 x3] 26)) wr) (fun i _ => k - (intOf i).toNat)
      case atStart => exact ⟨0, Nat.zero_le _, rfl, rfl, Keep.refl _ _ _⟩
      case round =>
        obtain ⟨j, hj, rfl, hany, hJ⟩ := hrel
        have HY := Lib.hid hany
        have hKJ := (hK.alloc (.cells #[.int .i64 x0, .int .i64 x1, .int .i64 x2, .int .i64 x3] 26)).tr0 hJ
        have z := hJ.size
        simp at z
        have g0 : ∀ X, (wr.alloc X).cell? ⟨wo.heap.size, 0, none⟩ = some (.int .i64 x0) := fun X => (World.cell?_alloc_lt wr X ⟨wo.heap.size, 0, none⟩ (by exact z)).trans ((hJ.cell0 (p := ⟨wo.heap.size, 0, none⟩) (by simp)).trans (by go_cell))
        have g1 : ∀ X, (wr.alloc X).cell? ⟨wo.heap.size, 1, none⟩ = some (.int .i64 x1) := fun X => (World.cell?_alloc_lt wr X ⟨wo.heap.size, 1, none⟩ (by exact z)).trans ((hJ.cell0 (p := ⟨wo.heap.size, 1, none⟩) (by simp)).trans (by go_cell))
        clear hany d0 d1 d2 d3
        by_cases hjk : j < k
        · obtain ⟨y0, y1, y2, y3, hy, cy0, cy1, cy2, cy3, bB⟩ := ents_at HL.out HC.out (show j < n from by omega)
          have HZ := Lib.hid hy
          have d0 := (hKJ.cell0 (p := ⟨b, off + j * 4, none⟩) (by exact bB)).trans cy0
          have d1 := (hKJ.cell0 (p := ⟨b, off + j * 4 + 1, none⟩) (by exact bB)).trans cy1
          have d2 := (hKJ.cell0 (p := ⟨b, off + j * 4 + 2, none⟩) (by exact bB)).trans cy2
          have d3 := (hKJ.cell0 (p := ⟨b, off + j * 4 + 3, none⟩) (by exact bB)).trans cy3
          clear hy cy0 cy1 cy2 cy3 bB z
          rcases dup_cases x0 x1 y0 y1 y2 y3 with ⟨e1, e2, he⟩ | ⟨e1, he⟩ | ⟨e1, e2, he⟩
          · have HF := Lib.hid (nd_dup HX.out (by rw [HL.out]; exact hlt) (any_hit HZ.out hjk he) HN.out)
            clear he
            go_wp2
            go_ret
            exact ⟨by rw [HF.out]; rfl, hKJ.alloc _⟩
          · have HF := Lib.hid (any_skip HZ.out HY.out he)
            clear he
            go_wp2
            go_roundw
            case rel => exact ⟨j + 1, by omega, by go_num, HF.out, hJ.alloc _⟩
            case measure => simp [intOf]; omega
          · have HF := Lib.hid (any_skip HZ.out HY.out he)
            clear he
            go_wp2
            go_roundw
            case rel => exact ⟨j + 1, by omega, by go_num, HF.out, hJ.alloc _⟩
            case measure => simp [intOf]; omega
        · have hjk2 : j = k := by omega
          subst hjk2
          have HF := Lib.hid (nd_step HX.out (by rw [HL.out]; exact hlt) HY.out)
          go_wp2
          go_roundw
          case rel => exact ⟨j + 1, by omega, by go_num, HN.out.trans HF.out, hKJ⟩
          case measure => simp [intOf]; omega
    · have hkn : k = n := by omega
      subst hkn
      have HF := Lib.hid (nd_end (by rw [HL.out]; omega) HN.out)
      go_wp2
      go_ret
      exact ⟨by rw [HF.out, HL.out]; simp; omega, hK⟩
end Go.Proofs.Ytcoipfnphmealaa
