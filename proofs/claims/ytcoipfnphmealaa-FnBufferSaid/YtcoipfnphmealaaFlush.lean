/-
  Contracts of the functions that keep or drop entries of a buffer, the program's and the reference's.
-/
import Derived.Test.YtcoipfnphmealaaEnt
import Derived.WalkKit
import Derived.WalkSpells
import Derived.Deep.QuietTactic
import Derived.BigQuiet
import Derived.Handy
namespace Go.Proofs.Ytcoipfnphmealaa
open Go.RowKit

/-- An entry: tag, page, host, rights. -/
abbrev Ent := Int × Int × Int × Int
def entI (e : Ent) : List Int := [e.1, e.2.1, e.2.2.1, e.2.2.2]
def entsI (l : List Ent) : List Int := l.flatMap entI
def entV (e : Ent) : Value := .agg #[.int .i64 e.1, .int .i64 e.2.1, .int .i64 e.2.2.1, .int .i64 e.2.2.2]
theorem entsI_append (l k : List Ent) : entsI (l ++ k) = entsI l ++ entsI k := by simp [entsI]
theorem entsI_one (e : Ent) : entsI [e] = entI e := by simp [entsI]
theorem entsI_length (l : List Ent) : (entsI l).length = l.length * 4 := by
  induction l with
  | nil => rfl
  | cons a l ih => rw [show a :: l = [a] ++ l from rfl, entsI_append, List.length_append, ih, entsI_one, List.length_append, Nat.add_mul]; rfl
theorem entsI_take (l : List Ent) (k : Nat) : (entsI l).take (k * 4) = entsI (l.take k) := by
  induction l generalizing k with
  | nil => simp [entsI]
  | cons a l ih =>
    rw [show a :: l = [a] ++ l from rfl, entsI_append, entsI_one]
    cases k with
    | zero => simp [entsI]
    | succ k =>
      rw [show (k + 1) * 4 = 4 + k * 4 from by omega, List.take_append, show (entI a).length = 4 from rfl, show 4 + k * 4 - 4 = k * 4 from by omega, ih, List.take_of_length_le (by simp [entI])]
      simp [entsI]
theorem entsI_inj {l k : List Ent} (h : entsI l = entsI k) : l = k := by
  induction l generalizing k with
  | nil =>
    cases k with
    | nil => rfl
    | cons b k => simp [entsI, entI] at h
  | cons a l ih =>
    cases k with
    | nil => simp [entsI, entI] at h
    | cons b k =>
      rw [show a :: l = [a] ++ l from rfl, show b :: k = [b] ++ k from rfl, entsI_append, entsI_append, entsI_one, entsI_one] at h
      have h1 := List.append_inj h rfl
      have e1 : a = b := by
        have := h1.1
        simp only [entI, List.cons.injEq, and_true] at this
        obtain ⟨a1, a2, a3, a4⟩ := a
        obtain ⟨b1, b2, b3, b4⟩ := b
        simp_all
      rw [e1, ih h1.2]
/-- The entry number k, and its four cells. -/
theorem ents_at {w : World} {n : Nat} {b off : Nat} {l : List Ent} (hl : l.length = n) (hc : ∀ j u, (ints (entsI l))[j]? = some u → w.cell? ⟨b, off + j, none⟩ = some u) {k : Nat} (hk : k < n) :
    ∃ x0 x1 x2 x3 : Int, l.take (k + 1) = l.take k ++ [(x0, x1, x2, x3)] ∧ w.cell? ⟨b, off + k * 4, none⟩ = some (.int .i64 x0) ∧ w.cell? ⟨b, off + k * 4 + 1, none⟩ = some (.int .i64 x1) ∧
    w.cell? ⟨b, off + k * 4 + 2, none⟩ = some (.int .i64 x2) ∧ w.cell? ⟨b, off + k * 4 + 3, none⟩ = some (.int .i64 x3) ∧ b < w.heap.size := by
  obtain ⟨x0, x1, x2, x3, hx, c0, c1, c2, c3⟩ := ints_at4 (n := n) (by rw [entsI_length, hl]) hc hk
  refine ⟨x0, x1, x2, x3, ?_, c0, c1, c2, c3, World.block_lt_of_cell? _ _ c0⟩
  rw [entsI_take, entsI_take] at hx
  apply entsI_inj
  rw [hx, entsI_append, entsI_one]
  rfl

theorem filter_step (l : List Ent) (p : Ent → Bool) (k : Nat) (e : Ent) (h : l.take (k + 1) = l.take k ++ [e]) (hp : p e = true) : (l.take (k + 1)).filter p = (l.take k).filter p ++ [e] := by rw [h, List.filter_append]; simp [hp]
theorem filter_skip (l : List Ent) (p : Ent → Bool) (k : Nat) (e : Ent) (h : l.take (k + 1) = l.take k ++ [e]) (hp : p e = false) : (l.take (k + 1)).filter p = (l.take k).filter p := by rw [h, List.filter_append]; simp [hp]
theorem ents_snoc (l : List Ent) (x0 x1 x2 x3 : Int) : ints (entsI l) ++ [.int .i64 x0, .int .i64 x1, .int .i64 x2, .int .i64 x3] = ints (entsI (l ++ [(x0, x1, x2, x3)])) := by
  rw [entsI_append, ints_append, entsI_one]; rfl

theorem Bld.weaken {w0 w1 w : World} {e : TypeId} {sz : Nat} {v : Value} {n : Nat} {xs : List Value} (h : Bld w1 w1.heap.size e sz w v n xs) (hk : Keep 0 0 w0 w1) : Bld w0 w0.heap.size e sz w v n xs := by
  refine ⟨⟨h.own.1, ?_⟩, hk.below.trans (h.bel.mono hk.size), Nat.le_trans hk.size h.le⟩
  rcases h.own.2 with hn | ⟨g, cap, cur, hv, hb, r⟩
  · exact .inl hn
  · exact .inr ⟨g, cap, cur, hv, Nat.le_trans hk.size hb, r⟩
/-- Which entries a flush drops. -/
def flPage (t p : Int) (e : Ent) : Bool := e.1 == t && e.2.1 == p
def flTag (t : Int) (e : Ent) : Bool := e.1 == t
def flHost (h : Int) (e : Ent) : Bool := e.2.2.1 == h
theorem ents_of {xs : List Int} {n : Nat} (h : xs.length = n * 4) : ∃ l : List Ent, entsI l = xs ∧ l.length = n := by
  induction n generalizing xs with
  | zero => exact ⟨[], (List.eq_nil_of_length_eq_zero (by omega)).symm, rfl⟩
  | succ n ih =>
    rcases xs with _ | ⟨a, _ | ⟨b, _ | ⟨c, _ | ⟨d, ys⟩⟩⟩⟩
    · simp at h
    · simp at h; omega
    · simp at h; omega
    · simp at h; omega
    · obtain ⟨l, e, hl⟩ := ih (xs := ys) (by simp only [List.length_cons] at h; omega)
      exact ⟨(a, b, c, d) :: l, by rw [← e]; rfl, by simp [hl]⟩
theorem FlushPage_cases (t p x0 x1 x2 x3 : Int) : ((x0 != t) = true ∧ (fun e : Ent => !(flPage t p e)) (x0, x1, x2, x3) = true) ∨ ((x0 != t) = false ∧ (x1 != p) = true ∧ (fun e : Ent => !(flPage t p e)) (x0, x1, x2, x3) = true) ∨ ((x0 != t) = false ∧ (x1 != p) = false ∧ (fun e : Ent => !(flPage t p e)) (x0, x1, x2, x3) = false) := by
  by_cases h1 : x0 = t <;> by_cases h2 : x1 = p <;> simp [flPage, h1, h2]
set_option maxHeartbeats 4000000 in
theorem specFlushPage_bld (w : World) (hi : Nat) (v : Value) (l : List Ent) (t p : Int) (hr : Rd w hi 4 v (ints (entsI l))) (hx : l.length ≤ 1048577) :
    Calls Try.prog 29 #[v, .int .i64 t, .int .i64 p] w fun e w' => ∃ v' m, e = .returned v' ∧ m ≤ l.length ∧ Bld w w.heap.size 26 4 w' v' m (ints (entsI (l.filter fun e => !(flPage t p e)))) := by
  obtain ⟨A, n, c, rfl, hn, hm, hl, ha⟩ := hr
  rw [ints_length, entsI_length] at hl
  have hm2 : n ≤ 1048577 := by omega
  have HL := Lib.hid (show l.length = n from by omega)
  clear hl hx
  have hb0 := Bld.lit (B := w.heap.size) w 26 4 (Nat.le_refl _) (g := w.heap.size) rfl
  go_enter Try.func29, Try.ntmps29
  go_wp2
  go_loopw [7, 8] (fun v i wr => ∃ k m : Nat, k ≤ n ∧ i = .int .i64 k ∧ m ≤ k ∧ Bld w w.heap.size 26 4 wr v m (ints (entsI ((l.take k).filter fun e => !(flPage t p e))))) (fun _ i _ => n - (intOf i).toNat)
  case atStart => exact ⟨0, 0, Nat.zero_le _, rfl, Nat.le_refl _, hb0⟩
  case round =>
    obtain ⟨k, m, hk, rfl, hmk, hb⟩ := hrel
    clear hb0
    by_cases hlt : k < n
    · obtain ⟨b, off, rfl, hb1, hca⟩ := ha (by omega)
      obtain ⟨x0, x1, x2, x3, hx, cx0, cx1, cx2, cx3, bA⟩ := ents_at HL.out hca hlt
      have HX := Lib.hid hx
      have d0 := (hb.cell (p := ⟨b, off + k * 4, none⟩) (by exact bA)).trans cx0
      have d1 := (hb.cell (p := ⟨b, off + k * 4 + 1, none⟩) (by exact bA)).trans cx1
      have d2 := (hb.cell (p := ⟨b, off + k * 4 + 2, none⟩) (by exact bA)).trans cx2
      have d3 := (hb.cell (p := ⟨b, off + k * 4 + 3, none⟩) (by exact bA)).trans cx3
      clear hca ha hx cx0 cx1 cx2 cx3 bA
      rcases FlushPage_cases t p x0 x1 x2 x3 with ⟨e1, hp⟩ | ⟨e1, e2, hp⟩ | ⟨e1, e2, hp⟩
      · have HS := Lib.hid (filter_step l (fun e => !(flPage t p e)) k (x0, x1, x2, x3) HX.out hp)
        clear hp
        go_wp2_with (at_builtin; refine wpList_append_one rfl _ _ 24 rfl elEnt rfl hb 1 [_, _, _, _] _ rfl (by first | rfl | simp) rfl (by simp [Value.oneCell']) (by omega) (by unfold maxLen; omega) (fun v' w' hb' hsz => ?_))
        go_roundw
        case rel =>
          refine ⟨k + 1, m + 1, by omega, by go_num, by omega, ?_⟩
          rw [HS.out, ← ents_snoc]
          assumption
        case measure => simp [intOf]; omega
      · have HS := Lib.hid (filter_step l (fun e => !(flPage t p e)) k (x0, x1, x2, x3) HX.out hp)
        clear hp
        go_wp2_with (at_builtin; refine wpList_append_one rfl _ _ 24 rfl elEnt rfl hb 1 [_, _, _, _] _ rfl (by first | rfl | simp) rfl (by simp [Value.oneCell']) (by omega) (by unfold maxLen; omega) (fun v' w' hb' hsz => ?_))
        go_roundw
        case rel =>
          refine ⟨k + 1, m + 1, by omega, by go_num, by omega, ?_⟩
          rw [HS.out, ← ents_snoc]
          assumption
        case measure => simp [intOf]; omega
      · have HK := Lib.hid (filter_skip l (fun e => !(flPage t p e)) k (x0, x1, x2, x3) HX.out hp)
        clear hp
        go_wp2
        go_roundw
        case rel =>
          refine ⟨k + 1, m, by omega, by go_num, by omega, ?_⟩
          rw [HK.out]
          exact hb
        case measure => simp [intOf]; omega
    · have hkn : k = n := by omega
      subst hkn
      go_wp2
      go_ret
      rw [List.take_of_length_le (by rw [HL.out]; omega)] at hb
      exact ⟨_, m, rfl, by rw [HL.out]; exact hmk, hb⟩
theorem specFlushPage_any (w : World) (hi : Nat) (v : Value) (l : List Ent) (t p : Int) (hr : Rd w hi 4 v (ints (entsI l))) (hx : l.length ≤ 1048577) :
    Calls Try.prog 29 #[v, .int .i64 t, .int .i64 p] w fun e w' => ∃ v', e = .returned v' ∧ Row w' w.heap.size w'.heap.size 26 4 v' (ints (entsI (l.filter fun e => !(flPage t p e)))) ∧ Keep 0 0 w w' :=
  (specFlushPage_bld w hi v l t p hr hx).mono fun _ _ ⟨v', _, he, _, hb⟩ => ⟨v', he, bld_post0 hb rfl⟩
theorem FlushTag_cases (t x0 x1 x2 x3 : Int) : ((x0 != t) = true ∧ (fun e : Ent => !(flTag t e)) (x0, x1, x2, x3) = true) ∨ ((x0 != t) = false ∧ (fun e : Ent => !(flTag t e)) (x0, x1, x2, x3) = false) := by
  by_cases h1 : x0 = t <;> simp [flTag, h1]
set_option maxHeartbeats 4000000 in
theorem specFlushTag_bld (w : World) (hi : Nat) (v : Value) (l : List Ent) (t : Int) (hr : Rd w hi 4 v (ints (entsI l))) (hx : l.length ≤ 1048577) :
    Calls Try.prog 30 #[v, .int .i64 t] w fun e w' => ∃ v' m, e = .returned v' ∧ m ≤ l.length ∧ Bld w w.heap.size 26 4 w' v' m (ints (entsI (l.filter fun e => !(flTag t e)))) := by
  obtain ⟨A, n, c, rfl, hn, hm, hl, ha⟩ := hr
  rw [ints_length, entsI_length] at hl
  have hm2 : n ≤ 1048577 := by omega
  have HL := Lib.hid (show l.length = n from by omega)
  clear hl hx
  have hb0 := Bld.lit (B := w.heap.size) w 26 4 (Nat.le_refl _) (g := w.heap.size) rfl
  go_enter Try.func30, Try.ntmps30
  go_wp2
  go_loopw [5, 6] (fun v i wr => ∃ k m : Nat, k ≤ n ∧ i = .int .i64 k ∧ m ≤ k ∧ Bld w w.heap.size 26 4 wr v m (ints (entsI ((l.take k).filter fun e => !(flTag t e))))) (fun _ i _ => n - (intOf i).toNat)
  case atStart => exact ⟨0, 0, Nat.zero_le _, rfl, Nat.le_refl _, hb0⟩
  case round =>
    obtain ⟨k, m, hk, rfl, hmk, hb⟩ := hrel
    clear hb0
    by_cases hlt : k < n
    · obtain ⟨b, off, rfl, hb1, hca⟩ := ha (by omega)
      obtain ⟨x0, x1, x2, x3, hx, cx0, cx1, cx2, cx3, bA⟩ := ents_at HL.out hca hlt
      have HX := Lib.hid hx
      have d0 := (hb.cell (p := ⟨b, off + k * 4, none⟩) (by exact bA)).trans cx0
      have d1 := (hb.cell (p := ⟨b, off + k * 4 + 1, none⟩) (by exact bA)).trans cx1
      have d2 := (hb.cell (p := ⟨b, off + k * 4 + 2, none⟩) (by exact bA)).trans cx2
      have d3 := (hb.cell (p := ⟨b, off + k * 4 + 3, none⟩) (by exact bA)).trans cx3
      clear hca ha hx cx0 cx1 cx2 cx3 bA
      rcases FlushTag_cases t x0 x1 x2 x3 with ⟨e1, hp⟩ | ⟨e1, hp⟩
      · have HS := Lib.hid (filter_step l (fun e => !(flTag t e)) k (x0, x1, x2, x3) HX.out hp)
        clear hp
        go_wp2_with (at_builtin; refine wpList_append_one rfl _ _ 24 rfl elEnt rfl hb 1 [_, _, _, _] _ rfl (by first | rfl | simp) rfl (by simp [Value.oneCell']) (by omega) (by unfold maxLen; omega) (fun v' w' hb' hsz => ?_))
        go_roundw
        case rel =>
          refine ⟨k + 1, m + 1, by omega, by go_num, by omega, ?_⟩
          rw [HS.out, ← ents_snoc]
          assumption
        case measure => simp [intOf]; omega
      · have HK := Lib.hid (filter_skip l (fun e => !(flTag t e)) k (x0, x1, x2, x3) HX.out hp)
        clear hp
        go_wp2
        go_roundw
        case rel =>
          refine ⟨k + 1, m, by omega, by go_num, by omega, ?_⟩
          rw [HK.out]
          exact hb
        case measure => simp [intOf]; omega
    · have hkn : k = n := by omega
      subst hkn
      go_wp2
      go_ret
      rw [List.take_of_length_le (by rw [HL.out]; omega)] at hb
      exact ⟨_, m, rfl, by rw [HL.out]; exact hmk, hb⟩
theorem specFlushTag_any (w : World) (hi : Nat) (v : Value) (l : List Ent) (t : Int) (hr : Rd w hi 4 v (ints (entsI l))) (hx : l.length ≤ 1048577) :
    Calls Try.prog 30 #[v, .int .i64 t] w fun e w' => ∃ v', e = .returned v' ∧ Row w' w.heap.size w'.heap.size 26 4 v' (ints (entsI (l.filter fun e => !(flTag t e)))) ∧ Keep 0 0 w w' :=
  (specFlushTag_bld w hi v l t hr hx).mono fun _ _ ⟨v', _, he, _, hb⟩ => ⟨v', he, bld_post0 hb rfl⟩
theorem FlushHost_cases (h x0 x1 x2 x3 : Int) : ((x2 != h) = true ∧ (fun e : Ent => !(flHost h e)) (x0, x1, x2, x3) = true) ∨ ((x2 != h) = false ∧ (fun e : Ent => !(flHost h e)) (x0, x1, x2, x3) = false) := by
  by_cases h1 : x2 = h <;> simp [flHost, h1]
set_option maxHeartbeats 4000000 in
theorem specFlushHost_bld (w : World) (hi : Nat) (v : Value) (l : List Ent) (h : Int) (hr : Rd w hi 4 v (ints (entsI l))) (hx : l.length ≤ 1048577) :
    Calls Try.prog 31 #[v, .int .i64 h] w fun e w' => ∃ v' m, e = .returned v' ∧ m ≤ l.length ∧ Bld w w.heap.size 26 4 w' v' m (ints (entsI (l.filter fun e => !(flHost h e)))) := by
  obtain ⟨A, n, c, rfl, hn, hm, hl, ha⟩ := hr
  rw [ints_length, entsI_length] at hl
  have hm2 : n ≤ 1048577 := by omega
  have HL := Lib.hid (show l.length = n from by omega)
  clear hl hx
  have hb0 := Bld.lit (B := w.heap.size) w 26 4 (Nat.le_refl _) (g := w.heap.size) rfl
  go_enter Try.func31, Try.ntmps31
  go_wp2
  go_loopw [5, 6] (fun v i wr => ∃ k m : Nat, k ≤ n ∧ i = .int .i64 k ∧ m ≤ k ∧ Bld w w.heap.size 26 4 wr v m (ints (entsI ((l.take k).filter fun e => !(flHost h e))))) (fun _ i _ => n - (intOf i).toNat)
  case atStart => exact ⟨0, 0, Nat.zero_le _, rfl, Nat.le_refl _, hb0⟩
  case round =>
    obtain ⟨k, m, hk, rfl, hmk, hb⟩ := hrel
    clear hb0
    by_cases hlt : k < n
    · obtain ⟨b, off, rfl, hb1, hca⟩ := ha (by omega)
      obtain ⟨x0, x1, x2, x3, hx, cx0, cx1, cx2, cx3, bA⟩ := ents_at HL.out hca hlt
      have HX := Lib.hid hx
      have d0 := (hb.cell (p := ⟨b, off + k * 4, none⟩) (by exact bA)).trans cx0
      have d1 := (hb.cell (p := ⟨b, off + k * 4 + 1, none⟩) (by exact bA)).trans cx1
      have d2 := (hb.cell (p := ⟨b, off + k * 4 + 2, none⟩) (by exact bA)).trans cx2
      have d3 := (hb.cell (p := ⟨b, off + k * 4 + 3, none⟩) (by exact bA)).trans cx3
      clear hca ha hx cx0 cx1 cx2 cx3 bA
      rcases FlushHost_cases h x0 x1 x2 x3 with ⟨e1, hp⟩ | ⟨e1, hp⟩
      · have HS := Lib.hid (filter_step l (fun e => !(flHost h e)) k (x0, x1, x2, x3) HX.out hp)
        clear hp
        go_wp2_with (at_builtin; refine wpList_append_one rfl _ _ 24 rfl elEnt rfl hb 1 [_, _, _, _] _ rfl (by first | rfl | simp) rfl (by simp [Value.oneCell']) (by omega) (by unfold maxLen; omega) (fun v' w' hb' hsz => ?_))
        go_roundw
        case rel =>
          refine ⟨k + 1, m + 1, by omega, by go_num, by omega, ?_⟩
          rw [HS.out, ← ents_snoc]
          assumption
        case measure => simp [intOf]; omega
      · have HK := Lib.hid (filter_skip l (fun e => !(flHost h e)) k (x0, x1, x2, x3) HX.out hp)
        clear hp
        go_wp2
        go_roundw
        case rel =>
          refine ⟨k + 1, m, by omega, by go_num, by omega, ?_⟩
          rw [HK.out]
          exact hb
        case measure => simp [intOf]; omega
    · have hkn : k = n := by omega
      subst hkn
      go_wp2
      go_ret
      rw [List.take_of_length_le (by rw [HL.out]; omega)] at hb
      exact ⟨_, m, rfl, by rw [HL.out]; exact hmk, hb⟩
theorem specFlushHost_any (w : World) (hi : Nat) (v : Value) (l : List Ent) (h : Int) (hr : Rd w hi 4 v (ints (entsI l))) (hx : l.length ≤ 1048577) :
    Calls Try.prog 31 #[v, .int .i64 h] w fun e w' => ∃ v', e = .returned v' ∧ Row w' w.heap.size w'.heap.size 26 4 v' (ints (entsI (l.filter fun e => !(flHost h e)))) ∧ Keep 0 0 w w' :=
  (specFlushHost_bld w hi v l h hr hx).mono fun _ _ ⟨v', _, he, _, hb⟩ => ⟨v', he, bld_post0 hb rfl⟩
set_option maxHeartbeats 1000000 in
theorem FlushPageDrop_any (w : World) (x0 x1 x2 x3 t p : Int) (c0 : Addr) (c1 : Addr) (h0 : w.cell? c0 = some (.int .i64 t)) (h1 : w.cell? c1 = some (.int .i64 p)) :
    Calls Try.prog 67 #[.agg #[.int .i64 x0, .int .i64 x1, .int .i64 x2, .int .i64 x3], .pointer (some c0), .pointer (some c1)] w fun e w' => e = .returned (.bool (flPage t p (x0, x1, x2, x3))) ∧ Keep 0 0 w w' := by
  obtain ⟨b0, o0, s0⟩ := c0
  obtain rfl : s0 = none := by simpa [Addr.add] using World.cell?_spot h0
  have z0 := World.block_lt_of_cell? _ _ h0
  simp only at z0
  obtain ⟨b1, o1, s1⟩ := c1
  obtain rfl : s1 = none := by simpa [Addr.add] using World.cell?_spot h1
  have z1 := World.block_lt_of_cell? _ _ h1
  simp only at z1
  rcases Bool.eq_false_or_eq_true (x0 == t) with e0 | e0 <;> rcases Bool.eq_false_or_eq_true (x1 == p) with e1 | e1
  all_goals
    go_enter Try.func67, Try.ntmps67
    go_wp2
    all_goals try (go_quiet (fail); go_wp2)
    all_goals go_ret
    all_goals exact ⟨by simp [flPage, e0, e1], by first | exact keep_1 _ _ | exact (keep_1 _ _).drewN _⟩
set_option maxHeartbeats 4000000 in
theorem withoutFlushPage_bld (w : World) (hi : Nat) (v : Value) (l : List Ent) (t p : Int) (c0 : Addr) (c1 : Addr) (h0 : w.cell? c0 = some (.int .i64 t)) (h1 : w.cell? c1 = some (.int .i64 p)) (hr : Rd w hi 4 v (ints (entsI l))) (hx : l.length ≤ 1048577) :
    Calls Try.prog 65 #[v, .func (.func 67) #[] #[.pointer (some c0), .pointer (some c1)]] w fun e w' => ∃ v' m, e = .returned v' ∧ m ≤ l.length ∧ Bld w w.heap.size 26 4 w' v' m (ints (entsI (l.filter fun e => !(flPage t p e)))) := by
  obtain ⟨A, n, c, rfl, hn, hm, hl, ha⟩ := hr
  rw [ints_length, entsI_length] at hl
  have hm2 : n ≤ 1048577 := by omega
  have HL := Lib.hid (show l.length = n from by omega)
  clear hl hx
  have hb0 := Bld.lit (B := w.heap.size) w 26 4 (Nat.le_refl _) (g := w.heap.size) rfl
  obtain ⟨b0, o0, s0⟩ := c0
  obtain rfl : s0 = none := by simpa [Addr.add] using World.cell?_spot h0
  have z0 := World.block_lt_of_cell? _ _ h0
  simp only at z0
  obtain ⟨b1, o1, s1⟩ := c1
  obtain rfl : s1 = none := by simpa [Addr.add] using World.cell?_spot h1
  have z1 := World.block_lt_of_cell? _ _ h1
  simp only at z1
  go_enter Try.func65, Try.ntmps65
  go_wp2
  go_loopw [5, 11] (fun v i wr => ∃ k m : Nat, k ≤ n ∧ i = .int .i64 k ∧ m ≤ k ∧ Bld w w.heap.size 26 4 wr v m (ints (entsI ((l.take k).filter fun e => !(flPage t p e))))) (fun _ i _ => n - (intOf i).toNat)
  case atStart => exact ⟨0, 0, Nat.zero_le _, rfl, Nat.le_refl _, hb0⟩
  case round =>
    obtain ⟨k, m, hk, rfl, hmk, hb⟩ := hrel
    clear hb0
    by_cases hlt : k < n
    · obtain ⟨b, off, rfl, hb1, hca⟩ := ha (by omega)
      obtain ⟨x0, x1, x2, x3, hx, cx0, cx1, cx2, cx3, bA⟩ := ents_at HL.out hca hlt
      have HX := Lib.hid hx
      have d0 := (hb.cell (p := ⟨b, off + k * 4, none⟩) (by exact bA)).trans cx0
      have d1 := (hb.cell (p := ⟨b, off + k * 4 + 1, none⟩) (by exact bA)).trans cx1
      have d2 := (hb.cell (p := ⟨b, off + k * 4 + 2, none⟩) (by exact bA)).trans cx2
      have d3 := (hb.cell (p := ⟨b, off + k * 4 + 3, none⟩) (by exact bA)).trans cx3
      clear hca ha hx cx0 cx1 cx2 cx3 bA
      have hK := (Keep.of_below hb.bel).alloc (.cells #[.int .i64 x0, .int .i64 x1, .int .i64 x2, .int .i64 x3] 26)
      rcases Bool.eq_false_or_eq_true (flPage t p (x0, x1, x2, x3)) with hp | hp
      · have HF := Lib.hid (filter_skip l (fun e => !(flPage t p e)) k (x0, x1, x2, x3) HX.out (by simp [hp]))
        go_wp2_with fail
        refine (FlushPageDrop_any _ x0 x1 x2 x3 t p ⟨b0, o0, none⟩ ⟨b1, o1, none⟩ ((hK.cell0 (by exact z0)).trans h0) ((hK.cell0 (by exact z1)).trans h1)).mono ?_
        rintro e w1 ⟨rfl, k1⟩
        have hb1 := (hb.alloc (.cells #[.int .i64 x0, .int .i64 x1, .int .i64 x2, .int .i64 x3] 26)).keep k1
        go_wp2
        go_roundw
        case rel =>
          refine ⟨k + 1, m, by omega, by go_num, by omega, ?_⟩
          rw [HF.out]
          exact hb1
        case measure => simp [intOf]; omega
      · have HF := Lib.hid (filter_step l (fun e => !(flPage t p e)) k (x0, x1, x2, x3) HX.out (by simp [hp]))
        go_wp2_with fail
        refine (FlushPageDrop_any _ x0 x1 x2 x3 t p ⟨b0, o0, none⟩ ⟨b1, o1, none⟩ ((hK.cell0 (by exact z0)).trans h0) ((hK.cell0 (by exact z1)).trans h1)).mono ?_
        rintro e w1 ⟨rfl, k1⟩
        have g0 : w1.cell? ⟨wr.heap.size, 0, none⟩ = some (.int .i64 x0) := (k1.cell0 (p := ⟨wr.heap.size, 0, none⟩) (by simp)).trans (by go_cell)
        have g1 : w1.cell? ⟨wr.heap.size, 1, none⟩ = some (.int .i64 x1) := (k1.cell0 (p := ⟨wr.heap.size, 1, none⟩) (by simp)).trans (by go_cell)
        have g2 : w1.cell? ⟨wr.heap.size, 2, none⟩ = some (.int .i64 x2) := (k1.cell0 (p := ⟨wr.heap.size, 2, none⟩) (by simp)).trans (by go_cell)
        have g3 : w1.cell? ⟨wr.heap.size, 3, none⟩ = some (.int .i64 x3) := (k1.cell0 (p := ⟨wr.heap.size, 3, none⟩) (by simp)).trans (by go_cell)
        have hb1 := (hb.alloc (.cells #[.int .i64 x0, .int .i64 x1, .int .i64 x2, .int .i64 x3] 26)).keep k1
        go_wp2_with (at_builtin; refine wpList_append_one rfl _ _ 24 rfl elEnt rfl hb1 1 [_, _, _, _] _ rfl (by first | rfl | simp) rfl (by simp [Value.oneCell']) (by omega) (by unfold maxLen; omega) (fun v' w' hb' hsz => ?_))
        go_roundw
        case rel =>
          refine ⟨k + 1, m + 1, by omega, by go_num, by omega, ?_⟩
          rw [HF.out, ← ents_snoc]
          assumption
        case measure => simp [intOf]; omega
    · have hkn : k = n := by omega
      subst hkn
      go_wp2
      go_ret
      rw [List.take_of_length_le (by rw [HL.out]; omega)] at hb
      exact ⟨_, m, rfl, by rw [HL.out]; exact hmk, hb⟩
set_option maxHeartbeats 1000000 in
theorem implFlushPage_bld (w : World) (hi : Nat) (v : Value) (l : List Ent) (t p : Int) (hr : Rd w hi 4 v (ints (entsI l))) (hhi : hi ≤ w.heap.size) (hx : l.length ≤ 1048577) :
    Calls Try.prog 26 #[v, .int .i64 t, .int .i64 p] w fun e w' => ∃ v' m, e = .returned v' ∧ m ≤ l.length ∧ Bld w w.heap.size 26 4 w' v' m (ints (entsI (l.filter fun e => !(flPage t p e)))) := by
  go_enter Try.func26, Try.ntmps26
  go_wp2_with fail
  refine (withoutFlushPage_bld _ hi v l t p _ _ (by go_cell) (by go_cell) (hr.keep (keep_2 _ _ _) hhi (.inr (Nat.le_refl _))) hx).mono ?_
  rintro e w1 ⟨v1, m1, rfl, hm1, hb1⟩
  go_wp2
  go_ret
  exact ⟨_, m1, rfl, hm1, hb1.weaken (keep_2 _ _ _)⟩
theorem implFlushPage_any (w : World) (hi : Nat) (v : Value) (l : List Ent) (t p : Int) (hr : Rd w hi 4 v (ints (entsI l))) (hhi : hi ≤ w.heap.size) (hx : l.length ≤ 1048577) :
    Calls Try.prog 26 #[v, .int .i64 t, .int .i64 p] w fun e w' => ∃ v', e = .returned v' ∧ Row w' w.heap.size w'.heap.size 26 4 v' (ints (entsI (l.filter fun e => !(flPage t p e)))) ∧ Keep 0 0 w w' :=
  (implFlushPage_bld w hi v l t p hr hhi hx).mono fun _ _ ⟨v', _, he, _, hb⟩ => ⟨v', he, bld_post0 hb rfl⟩
set_option maxHeartbeats 1000000 in
theorem FlushTagDrop_any (w : World) (x0 x1 x2 x3 t : Int) (c0 : Addr) (h0 : w.cell? c0 = some (.int .i64 t)) :
    Calls Try.prog 68 #[.agg #[.int .i64 x0, .int .i64 x1, .int .i64 x2, .int .i64 x3], .pointer (some c0)] w fun e w' => e = .returned (.bool (flTag t (x0, x1, x2, x3))) ∧ Keep 0 0 w w' := by
  obtain ⟨b0, o0, s0⟩ := c0
  obtain rfl : s0 = none := by simpa [Addr.add] using World.cell?_spot h0
  have z0 := World.block_lt_of_cell? _ _ h0
  simp only at z0
  rcases Bool.eq_false_or_eq_true (x0 == t) with e0 | e0
  all_goals
    go_enter Try.func68, Try.ntmps68
    go_wp2
    all_goals try (go_quiet (fail); go_wp2)
    all_goals go_ret
    all_goals exact ⟨by simp [flTag, e0], by first | exact keep_1 _ _ | exact (keep_1 _ _).drewN _⟩
set_option maxHeartbeats 4000000 in
theorem withoutFlushTag_bld (w : World) (hi : Nat) (v : Value) (l : List Ent) (t : Int) (c0 : Addr) (h0 : w.cell? c0 = some (.int .i64 t)) (hr : Rd w hi 4 v (ints (entsI l))) (hx : l.length ≤ 1048577) :
    Calls Try.prog 65 #[v, .func (.func 68) #[] #[.pointer (some c0)]] w fun e w' => ∃ v' m, e = .returned v' ∧ m ≤ l.length ∧ Bld w w.heap.size 26 4 w' v' m (ints (entsI (l.filter fun e => !(flTag t e)))) := by
  obtain ⟨A, n, c, rfl, hn, hm, hl, ha⟩ := hr
  rw [ints_length, entsI_length] at hl
  have hm2 : n ≤ 1048577 := by omega
  have HL := Lib.hid (show l.length = n from by omega)
  clear hl hx
  have hb0 := Bld.lit (B := w.heap.size) w 26 4 (Nat.le_refl _) (g := w.heap.size) rfl
  obtain ⟨b0, o0, s0⟩ := c0
  obtain rfl : s0 = none := by simpa [Addr.add] using World.cell?_spot h0
  have z0 := World.block_lt_of_cell? _ _ h0
  simp only at z0
  go_enter Try.func65, Try.ntmps65
  go_wp2
  go_loopw [5, 11] (fun v i wr => ∃ k m : Nat, k ≤ n ∧ i = .int .i64 k ∧ m ≤ k ∧ Bld w w.heap.size 26 4 wr v m (ints (entsI ((l.take k).filter fun e => !(flTag t e))))) (fun _ i _ => n - (intOf i).toNat)
  case atStart => exact ⟨0, 0, Nat.zero_le _, rfl, Nat.le_refl _, hb0⟩
  case round =>
    obtain ⟨k, m, hk, rfl, hmk, hb⟩ := hrel
    clear hb0
    by_cases hlt : k < n
    · obtain ⟨b, off, rfl, hb1, hca⟩ := ha (by omega)
      obtain ⟨x0, x1, x2, x3, hx, cx0, cx1, cx2, cx3, bA⟩ := ents_at HL.out hca hlt
      have HX := Lib.hid hx
      have d0 := (hb.cell (p := ⟨b, off + k * 4, none⟩) (by exact bA)).trans cx0
      have d1 := (hb.cell (p := ⟨b, off + k * 4 + 1, none⟩) (by exact bA)).trans cx1
      have d2 := (hb.cell (p := ⟨b, off + k * 4 + 2, none⟩) (by exact bA)).trans cx2
      have d3 := (hb.cell (p := ⟨b, off + k * 4 + 3, none⟩) (by exact bA)).trans cx3
      clear hca ha hx cx0 cx1 cx2 cx3 bA
      have hK := (Keep.of_below hb.bel).alloc (.cells #[.int .i64 x0, .int .i64 x1, .int .i64 x2, .int .i64 x3] 26)
      rcases Bool.eq_false_or_eq_true (flTag t (x0, x1, x2, x3)) with hp | hp
      · have HF := Lib.hid (filter_skip l (fun e => !(flTag t e)) k (x0, x1, x2, x3) HX.out (by simp [hp]))
        go_wp2_with fail
        refine (FlushTagDrop_any _ x0 x1 x2 x3 t ⟨b0, o0, none⟩ ((hK.cell0 (by exact z0)).trans h0)).mono ?_
        rintro e w1 ⟨rfl, k1⟩
        have hb1 := (hb.alloc (.cells #[.int .i64 x0, .int .i64 x1, .int .i64 x2, .int .i64 x3] 26)).keep k1
        go_wp2
        go_roundw
        case rel =>
          refine ⟨k + 1, m, by omega, by go_num, by omega, ?_⟩
          rw [HF.out]
          exact hb1
        case measure => simp [intOf]; omega
      · have HF := Lib.hid (filter_step l (fun e => !(flTag t e)) k (x0, x1, x2, x3) HX.out (by simp [hp]))
        go_wp2_with fail
        refine (FlushTagDrop_any _ x0 x1 x2 x3 t ⟨b0, o0, none⟩ ((hK.cell0 (by exact z0)).trans h0)).mono ?_
        rintro e w1 ⟨rfl, k1⟩
        have g0 : w1.cell? ⟨wr.heap.size, 0, none⟩ = some (.int .i64 x0) := (k1.cell0 (p := ⟨wr.heap.size, 0, none⟩) (by simp)).trans (by go_cell)
        have g1 : w1.cell? ⟨wr.heap.size, 1, none⟩ = some (.int .i64 x1) := (k1.cell0 (p := ⟨wr.heap.size, 1, none⟩) (by simp)).trans (by go_cell)
        have g2 : w1.cell? ⟨wr.heap.size, 2, none⟩ = some (.int .i64 x2) := (k1.cell0 (p := ⟨wr.heap.size, 2, none⟩) (by simp)).trans (by go_cell)
        have g3 : w1.cell? ⟨wr.heap.size, 3, none⟩ = some (.int .i64 x3) := (k1.cell0 (p := ⟨wr.heap.size, 3, none⟩) (by simp)).trans (by go_cell)
        have hb1 := (hb.alloc (.cells #[.int .i64 x0, .int .i64 x1, .int .i64 x2, .int .i64 x3] 26)).keep k1
        go_wp2_with (at_builtin; refine wpList_append_one rfl _ _ 24 rfl elEnt rfl hb1 1 [_, _, _, _] _ rfl (by first | rfl | simp) rfl (by simp [Value.oneCell']) (by omega) (by unfold maxLen; omega) (fun v' w' hb' hsz => ?_))
        go_roundw
        case rel =>
          refine ⟨k + 1, m + 1, by omega, by go_num, by omega, ?_⟩
          rw [HF.out, ← ents_snoc]
          assumption
        case measure => simp [intOf]; omega
    · have hkn : k = n := by omega
      subst hkn
      go_wp2
      go_ret
      rw [List.take_of_length_le (by rw [HL.out]; omega)] at hb
      exact ⟨_, m, rfl, by rw [HL.out]; exact hmk, hb⟩
set_option maxHeartbeats 1000000 in
theorem implFlushTag_bld (w : World) (hi : Nat) (v : Value) (l : List Ent) (t : Int) (hr : Rd w hi 4 v (ints (entsI l))) (hhi : hi ≤ w.heap.size) (hx : l.length ≤ 1048577) :
    Calls Try.prog 27 #[v, .int .i64 t] w fun e w' => ∃ v' m, e = .returned v' ∧ m ≤ l.length ∧ Bld w w.heap.size 26 4 w' v' m (ints (entsI (l.filter fun e => !(flTag t e)))) := by
  go_enter Try.func27, Try.ntmps27
  go_wp2_with fail
  refine (withoutFlushTag_bld _ hi v l t _ (by go_cell) (hr.keep (keep_1 _ _) hhi (.inr (Nat.le_refl _))) hx).mono ?_
  rintro e w1 ⟨v1, m1, rfl, hm1, hb1⟩
  go_wp2
  go_ret
  exact ⟨_, m1, rfl, hm1, hb1.weaken (keep_1 _ _)⟩
theorem implFlushTag_any (w : World) (hi : Nat) (v : Value) (l : List Ent) (t : Int) (hr : Rd w hi 4 v (ints (entsI l))) (hhi : hi ≤ w.heap.size) (hx : l.length ≤ 1048577) :
    Calls Try.prog 27 #[v, .int .i64 t] w fun e w' => ∃ v', e = .returned v' ∧ Row w' w.heap.size w'.heap.size 26 4 v' (ints (entsI (l.filter fun e => !(flTag t e)))) ∧ Keep 0 0 w w' :=
  (implFlushTag_bld w hi v l t hr hhi hx).mono fun _ _ ⟨v', _, he, _, hb⟩ => ⟨v', he, bld_post0 hb rfl⟩
set_option maxHeartbeats 1000000 in
theorem FlushHostDrop_any (w : World) (x0 x1 x2 x3 h : Int) (c0 : Addr) (h0 : w.cell? c0 = some (.int .i64 h)) :
    Calls Try.prog 66 #[.agg #[.int .i64 x0, .int .i64 x1, .int .i64 x2, .int .i64 x3], .pointer (some c0)] w fun e w' => e = .returned (.bool (flHost h (x0, x1, x2, x3))) ∧ Keep 0 0 w w' := by
  obtain ⟨b0, o0, s0⟩ := c0
  obtain rfl : s0 = none := by simpa [Addr.add] using World.cell?_spot h0
  have z0 := World.block_lt_of_cell? _ _ h0
  simp only at z0
  rcases Bool.eq_false_or_eq_true (x2 == h) with e0 | e0
  all_goals
    go_enter Try.func66, Try.ntmps66
    go_wp2
    all_goals try (go_quiet (fail); go_wp2)
    all_goals go_ret
    all_goals exact ⟨by simp [flHost, e0], by first | exact keep_1 _ _ | exact (keep_1 _ _).drewN _⟩
set_option maxHeartbeats 4000000 in
theorem withoutFlushHost_bld (w : World) (hi : Nat) (v : Value) (l : List Ent) (h : Int) (c0 : Addr) (h0 : w.cell? c0 = some (.int .i64 h)) (hr : Rd w hi 4 v (ints (entsI l))) (hx : l.length ≤ 1048577) :
    Calls Try.prog 65 #[v, .func (.func 66) #[] #[.pointer (some c0)]] w fun e w' => ∃ v' m, e = .returned v' ∧ m ≤ l.length ∧ Bld w w.heap.size 26 4 w' v' m (ints (entsI (l.filter fun e => !(flHost h e)))) := by
  obtain ⟨A, n, c, rfl, hn, hm, hl, ha⟩ := hr
  rw [ints_length, entsI_length] at hl
  have hm2 : n ≤ 1048577 := by omega
  have HL := Lib.hid (show l.length = n from by omega)
  clear hl hx
  have hb0 := Bld.lit (B := w.heap.size) w 26 4 (Nat.le_refl _) (g := w.heap.size) rfl
  obtain ⟨b0, o0, s0⟩ := c0
  obtain rfl : s0 = none := by simpa [Addr.add] using World.cell?_spot h0
  have z0 := World.block_lt_of_cell? _ _ h0
  simp only at z0
  go_enter Try.func65, Try.ntmps65
  go_wp2
  go_loopw [5, 11] (fun v i wr => ∃ k m : Nat, k ≤ n ∧ i = .int .i64 k ∧ m ≤ k ∧ Bld w w.heap.size 26 4 wr v m (ints (entsI ((l.take k).filter fun e => !(flHost h e))))) (fun _ i _ => n - (intOf i).toNat)
  case atStart => exact ⟨0, 0, Nat.zero_le _, rfl, Nat.le_refl _, hb0⟩
  case round =>
    obtain ⟨k, m, hk, rfl, hmk, hb⟩ := hrel
    clear hb0
    by_cases hlt : k < n
    · obtain ⟨b, off, rfl, hb1, hca⟩ := ha (by omega)
      obtain ⟨x0, x1, x2, x3, hx, cx0, cx1, cx2, cx3, bA⟩ := ents_at HL.out hca hlt
      have HX := Lib.hid hx
      have d0 := (hb.cell (p := ⟨b, off + k * 4, none⟩) (by exact bA)).trans cx0
      have d1 := (hb.cell (p := ⟨b, off + k * 4 + 1, none⟩) (by exact bA)).trans cx1
      have d2 := (hb.cell (p := ⟨b, off + k * 4 + 2, none⟩) (by exact bA)).trans cx2
      have d3 := (hb.cell (p := ⟨b, off + k * 4 + 3, none⟩) (by exact bA)).trans cx3
      clear hca ha hx cx0 cx1 cx2 cx3 bA
      have hK := (Keep.of_below hb.bel).alloc (.cells #[.int .i64 x0, .int .i64 x1, .int .i64 x2, .int .i64 x3] 26)
      rcases Bool.eq_false_or_eq_true (flHost h (x0, x1, x2, x3)) with hp | hp
      · have HF := Lib.hid (filter_skip l (fun e => !(flHost h e)) k (x0, x1, x2, x3) HX.out (by simp [hp]))
        go_wp2_with fail
        refine (FlushHostDrop_any _ x0 x1 x2 x3 h ⟨b0, o0, none⟩ ((hK.cell0 (by exact z0)).trans h0)).mono ?_
        rintro e w1 ⟨rfl, k1⟩
        have hb1 := (hb.alloc (.cells #[.int .i64 x0, .int .i64 x1, .int .i64 x2, .int .i64 x3] 26)).keep k1
        go_wp2
        go_roundw
        case rel =>
          refine ⟨k + 1, m, by omega, by go_num, by omega, ?_⟩
          rw [HF.out]
          exact hb1
        case measure => simp [intOf]; omega
      · have HF := Lib.hid (filter_step l (fun e => !(flHost h e)) k (x0, x1, x2, x3) HX.out (by simp [hp]))
        go_wp2_with fail
        refine (FlushHostDrop_any _ x0 x1 x2 x3 h ⟨b0, o0, none⟩ ((hK.cell0 (by exact z0)).trans h0)).mono ?_
        rintro e w1 ⟨rfl, k1⟩
        have g0 : w1.cell? ⟨wr.heap.size, 0, none⟩ = some (.int .i64 x0) := (k1.cell0 (p := ⟨wr.heap.size, 0, none⟩) (by simp)).trans (by go_cell)
        have g1 : w1.cell? ⟨wr.heap.size, 1, none⟩ = some (.int .i64 x1) := (k1.cell0 (p := ⟨wr.heap.size, 1, none⟩) (by simp)).trans (by go_cell)
        have g2 : w1.cell? ⟨wr.heap.size, 2, none⟩ = some (.int .i64 x2) := (k1.cell0 (p := ⟨wr.heap.size, 2, none⟩) (by simp)).trans (by go_cell)
        have g3 : w1.cell? ⟨wr.heap.size, 3, none⟩ = some (.int .i64 x3) := (k1.cell0 (p := ⟨wr.heap.size, 3, none⟩) (by simp)).trans (by go_cell)
        have hb1 := (hb.alloc (.cells #[.int .i64 x0, .int .i64 x1, .int .i64 x2, .int .i64 x3] 26)).keep k1
        go_wp2_with (at_builtin; refine wpList_append_one rfl _ _ 24 rfl elEnt rfl hb1 1 [_, _, _, _] _ rfl (by first | rfl | simp) rfl (by simp [Value.oneCell']) (by omega) (by unfold maxLen; omega) (fun v' w' hb' hsz => ?_))
        go_roundw
        case rel =>
          refine ⟨k + 1, m + 1, by omega, by go_num, by omega, ?_⟩
          rw [HF.out, ← ents_snoc]
          assumption
        case measure => simp [intOf]; omega
    · have hkn : k = n := by omega
      subst hkn
      go_wp2
      go_ret
      rw [List.take_of_length_le (by rw [HL.out]; omega)] at hb
      exact ⟨_, m, rfl, by rw [HL.out]; exact hmk, hb⟩
set_option maxHeartbeats 1000000 in
theorem implFlushHost_bld (w : World) (hi : Nat) (v : Value) (l : List Ent) (h : Int) (hr : Rd w hi 4 v (ints (entsI l))) (hhi : hi ≤ w.heap.size) (hx : l.length ≤ 1048577) :
    Calls Try.prog 24 #[v, .int .i64 h] w fun e w' => ∃ v' m, e = .returned v' ∧ m ≤ l.length ∧ Bld w w.heap.size 26 4 w' v' m (ints (entsI (l.filter fun e => !(flHost h e)))) := by
  go_enter Try.func24, Try.ntmps24
  go_wp2_with fail
  refine (withoutFlushHost_bld _ hi v l h _ (by go_cell) (hr.keep (keep_1 _ _) hhi (.inr (Nat.le_refl _))) hx).mono ?_
  rintro e w1 ⟨v1, m1, rfl, hm1, hb1⟩
  go_wp2
  go_ret
  exact ⟨_, m1, rfl, hm1, hb1.weaken (keep_1 _ _)⟩
theorem implFlushHost_any (w : World) (hi : Nat) (v : Value) (l : List Ent) (h : Int) (hr : Rd w hi 4 v (ints (entsI l))) (hhi : hi ≤ w.heap.size) (hx : l.length ≤ 1048577) :
    Calls Try.prog 24 #[v, .int .i64 h] w fun e w' => ∃ v', e = .returned v' ∧ Row w' w.heap.size w'.heap.size 26 4 v' (ints (entsI (l.filter fun e => !(flHost h e)))) ∧ Keep 0 0 w w' :=
  (implFlushHost_bld w hi v l h hr hhi hx).mono fun _ _ ⟨v', _, he, _, hb⟩ => ⟨v', he, bld_post0 hb rfl⟩
end Go.Proofs.Ytcoipfnphmealaa
