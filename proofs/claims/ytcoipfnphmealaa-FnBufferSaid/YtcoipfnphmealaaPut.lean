/-
  Contracts of PutEntry, the program's and the reference's.
-/
import Derived.Test.YtcoipfnphmealaaFlush
import Derived.Test.YtcoipfnphmealaaCut
import Derived.Deep.RegionHeld3
namespace Go.Proofs.Ytcoipfnphmealaa
open Go.RowKit

/-- The buffer behind an entry's being put: the page's elder entry dropped, the new one last, at most six. -/
def putAll (l : List Ent) (e : Ent) : List Ent := (l.filter fun x => !(flPage e.1 e.2.1 x)) ++ [e]
def putT (l : List Ent) (e : Ent) : List Ent := (putAll l e).drop ((putAll l e).length - 6)

theorem entsI_drop (l : List Ent) (k : Nat) : (entsI l).drop (k * 4) = entsI (l.drop k) := by
  induction l generalizing k with
  | nil => simp [entsI]
  | cons a l ih =>
    cases k with
    | zero => simp
    | succ k =>
      rw [show a :: l = [a] ++ l from rfl, entsI_append, entsI_one, show (k + 1) * 4 = 4 + k * 4 from by omega, List.drop_append, show (entI a).length = 4 from rfl, show 4 + k * 4 - 4 = k * 4 from by omega, ih, List.drop_of_length_le (by simp [entI])]
      simp
theorem ints_drop (l : List Int) (k : Nat) : (ints l).drop k = ints (l.drop k) := by simp [ints]
section
variable {w0 w : World} {E : TypeId} {A : Option Addr} {m c : Nat} {l : List Ent} {x0 x1 x2 x3 : Int}
theorem put_len (h : Bld w0 w0.heap.size E 4 w (.slice A (m + 1) c) (m + 1) (ints (entsI (l.filter fun e => !(flPage x0 x1 e))) ++ [.int .i64 x0, .int .i64 x1, .int .i64 x2, .int .i64 x3])) : (putAll l (x0, x1, x2, x3)).length = m + 1 := by
  have := h.len
  rw [ents_snoc, ints_length, entsI_length] at this
  have e : (putAll l (x0, x1, x2, x3)) = (l.filter fun e => !(flPage x0 x1 e)) ++ [(x0, x1, x2, x3)] := rfl
  rw [e]
  omega
theorem put_small_bld (h : Bld w0 w0.heap.size E 4 w (.slice A (m + 1) c) (m + 1) (ints (entsI (l.filter fun e => !(flPage x0 x1 e))) ++ [.int .i64 x0, .int .i64 x1, .int .i64 x2, .int .i64 x3])) (h6 : m + 1 ≤ 6) :
    Bld w0 w0.heap.size E 4 w (.slice A (m + 1) c) (m + 1) (ints (entsI (putT l (x0, x1, x2, x3)))) := by
  have hl := put_len h
  unfold putT
  rw [hl, show m + 1 - 6 = 0 from by omega]
  rw [ents_snoc] at h
  exact h
theorem put_small (h : Bld w0 w0.heap.size E 4 w (.slice A (m + 1) c) (m + 1) (ints (entsI (l.filter fun e => !(flPage x0 x1 e))) ++ [.int .i64 x0, .int .i64 x1, .int .i64 x2, .int .i64 x3])) (h6 : m + 1 ≤ 6) :
    Row w w0.heap.size w.heap.size E 4 (.slice A (m + 1) c) (ints (entsI (putT l (x0, x1, x2, x3)))) ∧ Keep 0 0 w0 w := by
  have hl := put_len h
  refine bld_post0 h ?_
  unfold putT
  rw [hl, show m + 1 - 6 = 0 from by omega, ents_snoc]
  rfl
theorem put_big (h : Bld w0 w0.heap.size E 4 w (.slice A (m + 1) c) (m + 1) (ints (entsI (l.filter fun e => !(flPage x0 x1 e))) ++ [.int .i64 x0, .int .i64 x1, .int .i64 x2, .int .i64 x3])) :
    Row w w0.heap.size w.heap.size E 4 (.slice (Option.map (fun x => x.add ((m + 1 - 6) * 4)) A) (m + 1 - (m + 1 - 6)) (c - (m + 1 - 6))) (ints (entsI (putT l (x0, x1, x2, x3)))) ∧ Keep 0 0 w0 w := by
  have hl := put_len h
  obtain ⟨h1, h2⟩ := bld_post0 h rfl
  refine ⟨?_, h2⟩
  have := h1.cut (k := m + 1 - 6) (by omega) (Option.map (fun x => x.add ((m + 1 - 6) * 4)) A) (fun _ g off e => by
    subst e
    simp only [Option.map_some, Option.some.injEq]
    unfold Addr.add
    split <;> simp_all)
  rw [ents_snoc, ints_drop, entsI_drop] at this
  unfold putT
  rw [hl]
  exact this
end
set_option maxRecDepth 100000 in
set_option maxHeartbeats 4000000 in
theorem implPutEntry_any (w : World) (hi : Nat) (v : Value) (l : List Ent) (x0 x1 x2 x3 : Int) (hr : Rd w hi 4 v (ints (entsI l))) (hhi : hi ≤ w.heap.size) (hx : l.length ≤ 1048576) :
    Calls Try.prog 12 #[v, .agg #[.int .i64 x0, .int .i64 x1, .int .i64 x2, .int .i64 x3]] w fun e w' => ∃ v', e = .returned v' ∧ Row w' w.heap.size w'.heap.size 26 4 v' (ints (entsI (putT l (x0, x1, x2, x3)))) ∧ Keep 0 0 w w' := by
  have KB := (keep_1 w (.cells #[.int .i64 x0, .int .i64 x1, .int .i64 x2, .int .i64 x3] 26)).drew
  have hr1 := hr.keep KB hhi (.inr (Nat.le_refl 0))
  have hx1 : l.length ≤ 1048577 := by omega
  have HX := Lib.hid hx
  clear hx
  have HSb := Lib.hid (show ∀ (v : Value) (n : Nat) (xs : List Value) (w' : World), Bld (w.alloc (.cells #[.int .i64 x0, .int .i64 x1, .int .i64 x2, .int .i64 x3] 26)).drew (w.alloc (.cells #[.int .i64 x0, .int .i64 x1, .int .i64 x2, .int .i64 x3] 26)).drew.heap.size 26 4 w' v n xs → w'.cell? ⟨w.heap.size, 0, none⟩ = some (.int .i64 x0) ∧ w'.cell? ⟨w.heap.size, 1, none⟩ = some (.int .i64 x1) ∧ w'.cell? ⟨w.heap.size, 2, none⟩ = some (.int .i64 x2) ∧ w'.cell? ⟨w.heap.size, 3, none⟩ = some (.int .i64 x3) from fun v n xs w' hb =>
    ⟨(hb.cell (p := ⟨w.heap.size, 0, none⟩) (by simp)).trans (by go_cell), (hb.cell (p := ⟨w.heap.size, 1, none⟩) (by simp)).trans (by go_cell), (hb.cell (p := ⟨w.heap.size, 2, none⟩) (by simp)).trans (by go_cell), (hb.cell (p := ⟨w.heap.size, 3, none⟩) (by simp)).trans (by go_cell)⟩)
  have HSc := Lib.hid (show ∀ (o : Obj) (v : Value) (n : Nat) (xs : List Value) (w' : World), Bld ((w.alloc (.cells #[.int .i64 x0, .int .i64 x1, .int .i64 x2, .int .i64 x3] 26)).alloc o).drew ((w.alloc (.cells #[.int .i64 x0, .int .i64 x1, .int .i64 x2, .int .i64 x3] 26)).alloc o).drew.heap.size 26 4 w' v n xs → w'.cell? ⟨w.heap.size, 0, none⟩ = some (.int .i64 x0) ∧ w'.cell? ⟨w.heap.size, 1, none⟩ = some (.int .i64 x1) ∧ w'.cell? ⟨w.heap.size, 2, none⟩ = some (.int .i64 x2) ∧ w'.cell? ⟨w.heap.size, 3, none⟩ = some (.int .i64 x3) from fun o v n xs w' hb => HSb.out v n xs w' hb.weaken1)
  go_enter Try.func12, Try.ntmps12
  go_wp2
  go_region_held3 (fun w' => w'.cell? ⟨w.heap.size, 0, none⟩ = some (.int .i64 x0) ∧ w'.cell? ⟨w.heap.size, 1, none⟩ = some (.int .i64 x1) ∧ w'.cell? ⟨w.heap.size, 2, none⟩ = some (.int .i64 x2) ∧ w'.cell? ⟨w.heap.size, 3, none⟩ = some (.int .i64 x3))
    (first
      | go_keep
      | (apply HSb.out; assumption)
      | (apply HSc.out; assumption)
      | fail)
    (first
      | (go_at_call 26; refine (implFlushPage_bld _ hi v l x0 x1 ?_ ?_ hx1).mono ?_; (first | exact hr1 | exact hr1.keep (w := (w.alloc (.cells #[.int .i64 x0, .int .i64 x1, .int .i64 x2, .int .i64 x3] 26)).drew) ⟨rfl, rfl, rfl, (keep_1 _ _).size, fun k hk h => (keep_1 _ _).block k hk h⟩ (Nat.le_trans hhi KB.size) (.inr (Nat.le_refl 0))); (first | exact Nat.le_trans hhi KB.size | exact Nat.le_trans (Nat.le_trans hhi KB.size) (keep_1 (w.alloc (.cells #[.int .i64 x0, .int .i64 x1, .int .i64 x2, .int .i64 x3] 26)) _).size); (rintro e w1 ⟨v1, m1, rfl, hm1, hb1⟩))
      | (refine step_append_here (by rfl) (.tmp 11) (.tmp 13) _ (by rfl) elEnt (by rfl) (by assumption) 1 [.int .i64 x0, .int .i64 x1, .int .i64 x2, .int .i64 x3] _ (by rfl) (by rfl) ?_ ?_ ?_ ?_; (simp [Value.oneCell']); (omega); (unfold maxLen; omega); (intro v2 w2 hb2 hs2))
      | (refine step_append_old (by rfl) (.tmp 11) (.tmp 13) _ (by rfl) elEnt 1 [.int .i64 x0, .int .i64 x1, .int .i64 x2, .int .i64 x3] _ (by rfl) (by assumption) (by rfl) (by first | rfl | simp) (by rfl) ?_ ?_ ?_ ?_; (simp [Value.oneCell']); (omega); (unfold maxLen; omega); (intro v2 w2 hb2 hs2))
      | fail)
  all_goals
    obtain ⟨A2, c2, rfl⟩ := hb2.slice
    have hB3 := hb2.weaken KB
    have hl2 := (hb2.row).len.2
    have hm2 : m1 + 1 ≤ 1048577 := by have := HX.out; omega
    have hc2 : c2 ≤ 9223372036854775807 := by unfold maxLen at hl2; omega
    have hn2 : m1 + 1 ≤ c2 := hl2.1
    clear hl2 hb2 hs2
    by_cases h6 : m1 + 1 ≤ 6
    · go_wp2
      go_ret
      exact ⟨_, rfl, put_small hB3 h6⟩
    · go_wp2
      go_ret
      exact ⟨_, rfl, put_big hB3⟩
set_option maxRecDepth 100000 in
set_option maxHeartbeats 4000000 in
theorem specPutEntry_bld (w : World) (hi : Nat) (v : Value) (l : List Ent) (x0 x1 x2 x3 : Int) (hr : Rd w hi 4 v (ints (entsI l))) (hhi : hi ≤ w.heap.size) (hx : l.length ≤ 1048576) :
    Calls Try.prog 14 #[v, .agg #[.int .i64 x0, .int .i64 x1, .int .i64 x2, .int .i64 x3]] w fun e w' => ∃ v' m, e = .returned v' ∧ Bld w w.heap.size 26 4 w' v' m (ints (entsI (putT l (x0, x1, x2, x3)))) := by
  have KB := (keep_1 w (.cells #[.int .i64 x0, .int .i64 x1, .int .i64 x2, .int .i64 x3] 26)).drew
  have hr1 := hr.keep KB hhi (.inr (Nat.le_refl 0))
  have hx1 : l.length ≤ 1048577 := by omega
  have HX := Lib.hid hx
  clear hx
  have HSb := Lib.hid (show ∀ (v : Value) (n : Nat) (xs : List Value) (w' : World), Bld (w.alloc (.cells #[.int .i64 x0, .int .i64 x1, .int .i64 x2, .int .i64 x3] 26)).drew (w.alloc (.cells #[.int .i64 x0, .int .i64 x1, .int .i64 x2, .int .i64 x3] 26)).drew.heap.size 26 4 w' v n xs → w'.cell? ⟨w.heap.size, 0, none⟩ = some (.int .i64 x0) ∧ w'.cell? ⟨w.heap.size, 1, none⟩ = some (.int .i64 x1) ∧ w'.cell? ⟨w.heap.size, 2, none⟩ = some (.int .i64 x2) ∧ w'.cell? ⟨w.heap.size, 3, none⟩ = some (.int .i64 x3) from fun v n xs w' hb =>
    ⟨(hb.cell (p := ⟨w.heap.size, 0, none⟩) (by simp)).trans (by go_cell), (hb.cell (p := ⟨w.heap.size, 1, none⟩) (by simp)).trans (by go_cell), (hb.cell (p := ⟨w.heap.size, 2, none⟩) (by simp)).trans (by go_cell), (hb.cell (p := ⟨w.heap.size, 3, none⟩) (by simp)).trans (by go_cell)⟩)
  have HSc := Lib.hid (show ∀ (o : Obj) (v : Value) (n : Nat) (xs : List Value) (w' : World), Bld ((w.alloc (.cells #[.int .i64 x0, .int .i64 x1, .int .i64 x2, .int .i64 x3] 26)).alloc o).drew ((w.alloc (.cells #[.int .i64 x0, .int .i64 x1, .int .i64 x2, .int .i64 x3] 26)).alloc o).drew.heap.size 26 4 w' v n xs → w'.cell? ⟨w.heap.size, 0, none⟩ = some (.int .i64 x0) ∧ w'.cell? ⟨w.heap.size, 1, none⟩ = some (.int .i64 x1) ∧ w'.cell? ⟨w.heap.size, 2, none⟩ = some (.int .i64 x2) ∧ w'.cell? ⟨w.heap.size, 3, none⟩ = some (.int .i64 x3) from fun o v n xs w' hb => HSb.out v n xs w' hb.weaken1)
  go_enter Try.func14, Try.ntmps14
  go_wp2
  go_region_held3 (fun w' => w'.cell? ⟨w.heap.size, 0, none⟩ = some (.int .i64 x0) ∧ w'.cell? ⟨w.heap.size, 1, none⟩ = some (.int .i64 x1) ∧ w'.cell? ⟨w.heap.size, 2, none⟩ = some (.int .i64 x2) ∧ w'.cell? ⟨w.heap.size, 3, none⟩ = some (.int .i64 x3))
    (first
      | go_keep
      | (apply HSb.out; assumption)
      | (apply HSc.out; assumption)
      | fail)
    (first
      | (go_at_call 29; refine (specFlushPage_bld _ hi v l x0 x1 ?_ hx1).mono ?_; (first | exact hr1 | exact hr1.keep (w := (w.alloc (.cells #[.int .i64 x0, .int .i64 x1, .int .i64 x2, .int .i64 x3] 26)).drew) ⟨rfl, rfl, rfl, (keep_1 _ _).size, fun k hk h => (keep_1 _ _).block k hk h⟩ (Nat.le_trans hhi KB.size) (.inr (Nat.le_refl 0))); (rintro e w1 ⟨v1, m1, rfl, hm1, hb1⟩))
      | (refine step_append_here (by rfl) (.tmp 11) (.tmp 13) _ (by rfl) elEnt (by rfl) (by assumption) 1 [.int .i64 x0, .int .i64 x1, .int .i64 x2, .int .i64 x3] _ (by rfl) (by rfl) ?_ ?_ ?_ ?_; (simp [Value.oneCell']); (omega); (unfold maxLen; omega); (intro v2 w2 hb2 hs2))
      | (refine step_append_old (by rfl) (.tmp 11) (.tmp 13) _ (by rfl) elEnt 1 [.int .i64 x0, .int .i64 x1, .int .i64 x2, .int .i64 x3] _ (by rfl) (by assumption) (by rfl) (by first | rfl | simp) (by rfl) ?_ ?_ ?_ ?_; (simp [Value.oneCell']); (omega); (unfold maxLen; omega); (intro v2 w2 hb2 hs2))
      | fail)
  all_goals
    obtain ⟨A2, c2, rfl⟩ := hb2.slice
    have hB3 := hb2.weaken KB
    have hl2 := (hb2.row).len.2
    have hm2 : m1 + 1 ≤ 1048577 := by have := HX.out; omega
    have hc2 : c2 ≤ 9223372036854775807 := by unfold maxLen at hl2; omega
    have hn2 : m1 + 1 ≤ c2 := hl2.1
    clear hl2 hb2 hs2
    by_cases h6 : m1 + 1 ≤ 6
    · go_wp2
      go_ret
      exact ⟨_, _, rfl, put_small_bld hB3 h6⟩
    · obtain ⟨hr6, hk6⟩ := put_big hB3
      have hl6 := Lib.hid (show (putT l (x0, x1, x2, x3)).length ≤ 6 from by unfold putT; rw [List.length_drop]; omega)
      have hb0 := Bld.lit (B := w2.heap.size) w2 26 4 (Nat.le_refl _) (g := w2.heap.size) rfl
      have hr7 := hr6.rd.keep (keep_1 w2 (.cells #[] 26)) (Nat.le_refl _) (.inr (Nat.le_refl 0))
      have hk7 := Lib.hid hk6
      clear hr6 hk6 hB3
      go_wp2_with (at_builtin; refine wpList_append_rd rfl (.tmp 18) (.tmp 23) 24 rfl elEnt rfl hb0 rfl hr7 (ints_one _) (by omega) (by unfold maxLen; omega) (fun v3 w3 hb3 hs3 => ?_))
      go_ret
      rw [List.nil_append] at hb3
      exact ⟨_, _, rfl, hb3.weaken hk7.out⟩
theorem specPutEntry_any (w : World) (hi : Nat) (v : Value) (l : List Ent) (x0 x1 x2 x3 : Int) (hr : Rd w hi 4 v (ints (entsI l))) (hhi : hi ≤ w.heap.size) (hx : l.length ≤ 1048576) :
    Calls Try.prog 14 #[v, .agg #[.int .i64 x0, .int .i64 x1, .int .i64 x2, .int .i64 x3]] w fun e w' => ∃ v', e = .returned v' ∧ Row w' w.heap.size w'.heap.size 26 4 v' (ints (entsI (putT l (x0, x1, x2, x3)))) ∧ Keep 0 0 w w' :=
  (specPutEntry_bld w hi v l x0 x1 x2 x3 hr hhi hx).mono fun _ _ ⟨v', _, he, hb⟩ => ⟨v', he, bld_post0 hb rfl⟩
end Go.Proofs.Ytcoipfnphmealaa
