/-
  Contracts of FindEntry, the program's and the reference's: the first entry of a tag and a page.
-/
import Derived.Test.YtcoipfnphmealaaFlush
namespace Go.Proofs.Ytcoipfnphmealaa
open Go.RowKit

/-- The first entry of the tag and the page; an empty one where there is none. -/
def findT (l : List Ent) (t p : Int) : Ent := (l.find? (flPage t p)).getD (0, 0, 0, 0)
def hasE (l : List Ent) (t p : Int) : Bool := l.any (flPage t p)
theorem find_hit (l : List Ent) (t p : Int) (k : Nat) (e : Ent) (h : l.take (k + 1) = l.take k ++ [e]) (hn : (l.take k).any (flPage t p) = false) (he : flPage t p e = true) : findT l t p = e ∧ hasE l t p = true := by
  have hl : l = (l.take k ++ [e]) ++ l.drop (k + 1) := by rw [← h]; exact (List.take_append_drop _ _).symm
  have hnone : (l.take k).find? (flPage t p) = none := by
    rw [List.find?_eq_none]
    intro x hx
    have := List.any_eq_false.1 hn x hx
    simpa using this
  constructor
  · unfold findT
    rw [hl]
    simp [List.find?_append, hnone, he]
  · unfold hasE
    rw [hl]
    simp [List.any_append, he]
theorem find_skip (l : List Ent) (t p : Int) (k : Nat) (e : Ent) (h : l.take (k + 1) = l.take k ++ [e]) (hn : (l.take k).any (flPage t p) = false) (he : flPage t p e = false) : (l.take (k + 1)).any (flPage t p) = false := by
  rw [h, List.any_append, hn]
  simp [he]
theorem find_none (l : List Ent) (t p : Int) (k : Nat) (hk : l.length ≤ k) (hn : (l.take k).any (flPage t p) = false) : findT l t p = (0, 0, 0, 0) ∧ hasE l t p = false := by
  rw [List.take_of_length_le hk] at hn
  refine ⟨?_, hn⟩
  unfold findT
  have hnone : l.find? (flPage t p) = none := by
    rw [List.find?_eq_none]
    intro x hx
    have := List.any_eq_false.1 hn x hx
    simpa using this
  rw [hnone]
  rfl
theorem flPage_cases (t p x0 x1 x2 x3 : Int) : ((x0 == t) = true ∧ (x1 == p) = true ∧ flPage t p (x0, x1, x2, x3) = true) ∨ ((x0 == t) = false ∧ flPage t p (x0, x1, x2, x3) = false) ∨ ((x0 == t) = true ∧ (x1 == p) = false ∧ flPage t p (x0, x1, x2, x3) = false) := by
  by_cases h1 : x0 = t <;> by_cases h2 : x1 = p <;> simp [flPage, h1, h2]
def zeroE : Array Value := #[.int .i64 0, .int .i64 0, .int .i64 0, .int .i64 0]
/-- The result's variable stands as it was made. -/
def Box (w wr : World) : Prop := wr.heap[w.heap.size]? = some (.cells #[.int .i64 0, .int .i64 0, .int .i64 0, .int .i64 0] 26 (0, 0)) ∧ Keep 0 0 w wr
theorem Box.start (w : World) : Box w (w.alloc (.cells #[.int .i64 0, .int .i64 0, .int .i64 0, .int .i64 0] 26)) := ⟨Go.heap_alloc_new w _, keep_1 _ _⟩
theorem Box.alloc {w wr : World} (h : Box w wr) (o : Obj) : Box w (wr.alloc o) :=
  ⟨(Below.heap_alloc wr o _ (Array.getElem?_eq_some_iff.1 h.1).1).trans h.1, h.2.alloc o⟩
theorem Box.lt {w wr : World} (h : Box w wr) : w.heap.size < wr.heap.size := (Array.getElem?_eq_some_iff.1 h.1).1
theorem Box.cells {w wr : World} (h : Box w wr) : (wr.cell? ⟨w.heap.size, 0, none⟩ = some (.int .i64 0) ∧ wr.cell? ⟨w.heap.size, 1, none⟩ = some (.int .i64 0) ∧ wr.cell? ⟨w.heap.size, 2, none⟩ = some (.int .i64 0) ∧ wr.cell? ⟨w.heap.size, 3, none⟩ = some (.int .i64 0)) ∧
    (∀ j, wr.frozen? ⟨w.heap.size, j, none⟩ = false) := by
  refine ⟨⟨?_, ?_, ?_, ?_⟩, fun j => ?_⟩
  · exact (cell_of_row wr w.heap.size 0 _ _ (0, 0) h.1).trans rfl
  · exact (cell_of_row wr w.heap.size 1 _ _ (0, 0) h.1).trans rfl
  · exact (cell_of_row wr w.heap.size 2 _ _ (0, 0) h.1).trans rfl
  · exact (cell_of_row wr w.heap.size 3 _ _ (0, 0) h.1).trans rfl
  · simp [World.frozen?, h.1]

set_option maxHeartbeats 4000000 in
theorem specFindEntry_any (w : World) (hi : Nat) (v : Value) (l : List Ent) (t p : Int) (hr : Rd w hi 4 v (ints (entsI l))) (hx : l.length ≤ 1048577) :
    Calls Try.prog 19 #[v, .int .i64 t, .int .i64 p] w fun e w' => e = .returned (.tuple #[entV (findT l t p), .bool (hasE l t p)]) ∧ Keep 0 0 w w' := by
  obtain ⟨A, n, c, rfl, hn, hm, hl, ha⟩ := hr
  rw [ints_length, entsI_length] at hl
  have hm2 : n ≤ 1048577 := by omega
  have HL := Lib.hid (show l.length = n from by omega)
  clear hl hx
  go_enter Try.func19, Try.ntmps19
  go_wp2
  go_loopw [8] (fun i wr => ∃ k : Nat, k ≤ n ∧ i = .int .i64 k ∧ (l.take k).any (flPage t p) = false ∧ Box w wr) (fun i _ => n - (intOf i).toNat)
  case atStart => exact ⟨0, Nat.zero_le _, rfl, rfl, Box.start w⟩
  case round =>
    obtain ⟨k, hk, rfl, hnone, hB⟩ := hrel
    have HN := Lib.hid hnone
    clear hnone
    obtain ⟨⟨z0, z1, z2, z3⟩, zf⟩ := hB.cells
    by_cases hlt : k < n
    · obtain ⟨b, off, rfl, hb1, hca⟩ := ha (by omega)
      obtain ⟨x0, x1, x2, x3, hx, cx0, cx1, cx2, cx3, bA⟩ := ents_at HL.out hca hlt
      have HX := Lib.hid hx
      have d0 := (hB.2.cell0 (p := ⟨b, off + k * 4, none⟩) (by exact bA)).trans cx0
      have d1 := (hB.2.cell0 (p := ⟨b, off + k * 4 + 1, none⟩) (by exact bA)).trans cx1
      have d2 := (hB.2.cell0 (p := ⟨b, off + k * 4 + 2, none⟩) (by exact bA)).trans cx2
      have d3 := (hB.2.cell0 (p := ⟨b, off + k * 4 + 3, none⟩) (by exact bA)).trans cx3
      clear hca ha hx cx0 cx1 cx2 cx3 bA
      rcases flPage_cases t p x0 x1 x2 x3 with ⟨e1, e2, he⟩ | ⟨e1, he⟩ | ⟨e1, e2, he⟩
      · have HF := Lib.hid (find_hit l t p k _ HX.out HN.out he)
        clear he
        go_wp2
        refine bodyPost_ret (v := .tuple #[.agg #[.int .i64 x0, .int .i64 x1, .int .i64 x2, .int .i64 x3], .bool true]) (by simp [results, Try.results19, go_sem, z0, z1, z2, z3]) rfl ?_
        exact ⟨by rw [HF.out.1, HF.out.2]; rfl, by repeat' (first | exact hB.2 | (with_reducible refine Keep.setCell ?_ (.inr (Nat.le_refl _)) _))⟩
      · have HF := Lib.hid (find_skip l t p k _ HX.out HN.out he)
        clear he
        go_wp2
        go_roundw
        case rel => exact ⟨k + 1, by omega, by go_num, HF.out, hB⟩
        case measure => simp [intOf]; omega
      · have HF := Lib.hid (find_skip l t p k _ HX.out HN.out he)
        clear he
        go_wp2
        go_roundw
        case rel => exact ⟨k + 1, by omega, by go_num, HF.out, hB⟩
        case measure => simp [intOf]; omega
    · have HF := Lib.hid (find_none l t p k (by rw [HL.out]; omega) HN.out)
      go_wp2
      refine bodyPost_ret (v := .tuple #[.agg #[.int .i64 0, .int .i64 0, .int .i64 0, .int .i64 0], .bool false]) (by simp [results, Try.results19, go_sem, z0, z1, z2, z3]) rfl ?_
      exact ⟨by rw [HF.out.1, HF.out.2]; rfl, by repeat' (first | exact hB.2 | (with_reducible refine Keep.setCell ?_ (.inr (Nat.le_refl _)) _))⟩
theorem specFindEntry_to (w : World) (hi : Nat) (v : Value) (l : List Ent) (t p : Int) (hr : Rd w hi 4 v (ints (entsI l))) (hx : l.length ≤ 1048577) (e0 e1 e2 e3 : Int) (b : Bool) (hE : findT l t p = (e0, e1, e2, e3)) (hb : hasE l t p = b) :
    Calls Try.prog 19 #[v, .int .i64 t, .int .i64 p] w fun e w' => e = .returned (.tuple #[.agg #[.int .i64 e0, .int .i64 e1, .int .i64 e2, .int .i64 e3], .bool b]) ∧ Keep 0 0 w w' := by
  have h := specFindEntry_any w hi v l t p hr hx
  rw [hE, hb] at h
  exact h
set_option maxHeartbeats 4000000 in
theorem implFindEntry_any (w : World) (hi : Nat) (v : Value) (l : List Ent) (t p : Int) (hr : Rd w hi 4 v (ints (entsI l))) (hx : l.length ≤ 1048577) :
    Calls Try.prog 18 #[v, .int .i64 t, .int .i64 p] w fun e w' => e = .returned (.tuple #[entV (findT l t p), .bool (hasE l t p)]) ∧ Keep 0 0 w w' := by
  obtain ⟨A, n, c, rfl, hn, hm, hl, ha⟩ := hr
  rw [ints_length, entsI_length] at hl
  have hm2 : n ≤ 1048577 := by omega
  have HL := Lib.hid (show l.length = n from by omega)
  clear hl hx
  go_enter Try.func18, Try.ntmps18
  go_wp2
  go_loopw [12] (fun i wr => ∃ k : Nat, k ≤ n ∧ i = .int .i64 k ∧ (l.take k).any (flPage t p) = false ∧ Box w wr) (fun i _ => n - (intOf i).toNat)
  case atStart => exact ⟨0, Nat.zero_le _, rfl, rfl, Box.start w⟩
  case round =>
    obtain ⟨k, hk, rfl, hnone, hB⟩ := hrel
    have HN := Lib.hid hnone
    clear hnone
    by_cases hlt : k < n
    · obtain ⟨b, off, rfl, hb1, hca⟩ := ha (by omega)
      obtain ⟨x0, x1, x2, x3, hx, cx0, cx1, cx2, cx3, bA⟩ := ents_at HL.out hca hlt
      have HX := Lib.hid hx
      have d0 := (hB.2.cell0 (p := ⟨b, off + k * 4, none⟩) (by exact bA)).trans cx0
      have d1 := (hB.2.cell0 (p := ⟨b, off + k * 4 + 1, none⟩) (by exact bA)).trans cx1
      have d2 := (hB.2.cell0 (p := ⟨b, off + k * 4 + 2, none⟩) (by exact bA)).trans cx2
      have d3 := (hB.2.cell0 (p := ⟨b, off + k * 4 + 3, none⟩) (by exact bA)).trans cx3
      have hB' := hB.alloc (.cells #[.int .i64 x0, .int .i64 x1, .int .i64 x2, .int .i64 x3] 26)
      obtain ⟨⟨z0, z1, z2, z3⟩, zf⟩ := hB'.cells
      clear hca ha hx cx0 cx1 cx2 cx3 bA
      rcases flPage_cases t p x0 x1 x2 x3 with ⟨e1, e2, he⟩ | ⟨e1, he⟩ | ⟨e1, e2, he⟩
      · have HF := Lib.hid (find_hit l t p k _ HX.out HN.out he)
        clear he
        go_wp2
        refine bodyPost_ret (v := .tuple #[.agg #[.int .i64 x0, .int .i64 x1, .int .i64 x2, .int .i64 x3], .bool true]) (by simp [results, Try.results18, go_sem, z0, z1, z2, z3]) rfl ?_
        exact ⟨by rw [HF.out.1, HF.out.2]; rfl, by repeat' (first | exact hB'.2 | (with_reducible refine Keep.setCell ?_ (.inr (Nat.le_refl _)) _))⟩
      · have HF := Lib.hid (find_skip l t p k _ HX.out HN.out he)
        clear he
        go_wp2
        go_roundw
        case rel => exact ⟨k + 1, by omega, by go_num, HF.out, hB'⟩
        case measure => simp [intOf]; omega
      · have HF := Lib.hid (find_skip l t p k _ HX.out HN.out he)
        clear he
        go_wp2
        go_roundw
        case rel => exact ⟨k + 1, by omega, by go_num, HF.out, hB'⟩
        case measure => simp [intOf]; omega
    · have HF := Lib.hid (find_none l t p k (by rw [HL.out]; omega) HN.out)
      obtain ⟨⟨z0, z1, z2, z3⟩, zf⟩ := hB.cells
      go_wp2
      refine bodyPost_ret (v := .tuple #[.agg #[.int .i64 0, .int .i64 0, .int .i64 0, .int .i64 0], .bool false]) (by simp [results, Try.results18, go_sem, z0, z1, z2, z3]) rfl ?_
      exact ⟨by rw [HF.out.1, HF.out.2]; rfl, by repeat' (first | exact hB.2 | (with_reducible refine Keep.setCell ?_ (.inr (Nat.le_refl _)) _))⟩
theorem implFindEntry_to (w : World) (hi : Nat) (v : Value) (l : List Ent) (t p : Int) (hr : Rd w hi 4 v (ints (entsI l))) (hx : l.length ≤ 1048577) (e0 e1 e2 e3 : Int) (b : Bool) (hE : findT l t p = (e0, e1, e2, e3)) (hb : hasE l t p = b) :
    Calls Try.prog 18 #[v, .int .i64 t, .int .i64 p] w fun e w' => e = .returned (.tuple #[.agg #[.int .i64 e0, .int .i64 e1, .int .i64 e2, .int .i64 e3], .bool b]) ∧ Keep 0 0 w w' := by
  have h := implFindEntry_any w hi v l t p hr hx
  rw [hE, hb] at h
  exact h
end Go.Proofs.Ytcoipfnphmealaa
