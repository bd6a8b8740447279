/-
  Contracts of Decimal, CtlText, ExitName and ExitText, the program's and the reference's: their texts. The program's Decimal reads the library's table of powers of ten.
-/
import Derived.Test.YtdlcchoemladnaaDoorDec
import Derived.Test.YtdlcchoemladnaaDoorShelf
import Derived.Test.YtdlcchoemladnaaDoorScal
import Derived.Lib.SmallJoins
import Derived.Lib.LaidTab
import Derived.Handy
import Derived.Deep.RegionHeld3
namespace Go.Proofs.YtdlcchoemladnaaDoor
open Go.RowKit

/-- The library's table of powers of ten stands as its text lays it. -/
def Tab (w : World) : Prop := Lib.TabIs Tryd.prog w "internal/strconv.uint64pow10" .u64 Lib.pow10Tab
theorem gPow : Tryd.prog.globalNamed "internal/strconv.uint64pow10" = some 0 := by kernel_rfl
theorem Tab.keep {w w' : World} (h : Tab w) (k : Keep 0 0 w w') : Tab w' := Joins.tab_stays gPow h k.below (Nat.le_refl _)
theorem keep_grow (w : World) (k : Nat) (os : Array Obj) : Keep 0 0 w (Sort.grow (w.drewN k) os) :=
  ⟨rfl, rfl, rfl, by simp, fun i hi _ => Sort.heap_grow_old (w.drewN k) os hi⟩

def decS (n : Int) : ByteArray := ⟨(Lib.itoa n).toArray⟩
theorem decS_size (n : Int) (h0 : -9223372036854775808 ≤ n) (h1 : n ≤ 9223372036854775807) : (decS n).size ≤ 21 := by
  have := Lib.itoa_length_le n h0 h1
  show (Lib.itoa n).toArray.size ≤ 21
  simpa using this
theorem specDecimal_S (n : Int) (h0 : -9223372036854775808 ≤ n) (h1 : n ≤ 9223372036854775807) (w : World) : Calls Tryd.prog 45 #[.int .i64 n] w fun e w' => e = .returned (.string (decS n)) ∧ Keep 0 0 w w' :=
  specDecimal_any n h0 h1 w
theorem implDecimal_S (n : Int) (h0 : -9223372036854775808 ≤ n) (h1 : n ≤ 9223372036854775807) (w : World) (ht : Tab w) : Calls Tryd.prog 44 #[.int .i64 n] w fun e w' => e = .returned (.string (decS n)) ∧ Keep 0 0 w w' := by
  go_enter Tryd.func44, Tryd.ntmps44
  go_wp2_with (go_at_call 51; refine (Tryd.strconv_Itoa n h0 h1 _ ht).mono ?_; rintro e w' ⟨rfl, k, os, rfl⟩)
  go_ret
  exact ⟨rfl, keep_grow w k os⟩
theorem add_ok {P : Program} (a b : ByteArray) (h : a.size + b.size ≤ 9223372036854775807) : ∀ W, (Op.stringOp .add a b).run P W = .ok (.string (a ++ b)) W := fun W => run_string_add_sum W a b h
def spS : ByteArray := ⟨#[32]⟩
theorem size_append (a b : ByteArray) : (a ++ b).size = a.size + b.size := by simp
def ctlS (t p : Int) (o : Bool) : ByteArray := decS t ++ ⟨#[32]⟩ ++ decS p ++ (if o then ⟨#[32, 111, 112, 101, 110]⟩ else ⟨#[32, 115, 104, 117, 116]⟩)
theorem cat_last (a b c : ByteArray) : a ++ b ++ c = a ++ (b ++ c) := by apply ByteArray.ext; simp [Array.append_assoc]
set_option maxHeartbeats 2000000 in
theorem specCtlText_any (t p : Int) (o : Bool) (t0 : -9223372036854775808 ≤ t) (t1 : t ≤ 9223372036854775807) (p0 : -9223372036854775808 ≤ p) (p1 : p ≤ 9223372036854775807) (w : World) :
    Calls Tryd.prog 37 #[.agg #[.int .i64 t, .int .i64 p, .bool o]] w fun e w' => e = .returned (.string (ctlS t p o)) ∧ Keep 0 0 w w' := by
  have zt := decS_size t t0 t1
  have zp := decS_size p p0 p1
  have a1 := add_ok (P := Tryd.prog) (decS t) ⟨#[32]⟩ (by show _ + 1 ≤ _; omega)
  have a2 := add_ok (P := Tryd.prog) (decS t ++ ⟨#[32]⟩) (decS p) (by rw [size_append]; show _ + 1 + _ ≤ _; omega)
  have a3 := add_ok (P := Tryd.prog) (decS t ++ ⟨#[32]⟩ ++ decS p) ⟨#[32, 111, 112, 101, 110]⟩ (by rw [size_append, size_append]; show _ + 1 + _ + 5 ≤ _; omega)
  have a4 := add_ok (P := Tryd.prog) (decS t ++ ⟨#[32]⟩ ++ decS p) ⟨#[32, 115, 104, 117, 116]⟩ (by rw [size_append, size_append]; show _ + 1 + _ + 5 ≤ _; omega)
  have HS2 := Lib.hid (show ∀ w1 w2 : World, (w1.cell? ⟨w.heap.size, 0, none⟩ = some (.int .i64 t) ∧ w1.cell? ⟨w.heap.size, 1, none⟩ = some (.int .i64 p) ∧ w1.cell? ⟨w.heap.size, 2, none⟩ = some (.bool o) ∧ Keep 0 0 (w.alloc (.cells #[.int .i64 t, .int .i64 p, .bool o] 38)) w1) → Keep 0 0 w1 w2 →
      (w2.cell? ⟨w.heap.size, 0, none⟩ = some (.int .i64 t) ∧ w2.cell? ⟨w.heap.size, 1, none⟩ = some (.int .i64 p) ∧ w2.cell? ⟨w.heap.size, 2, none⟩ = some (.bool o) ∧ Keep 0 0 (w.alloc (.cells #[.int .i64 t, .int .i64 p, .bool o] 38)) w2) from fun w1 w2 ⟨h1, h2, h3, h4⟩ k => by
        have hz : w.heap.size < w1.heap.size := World.block_lt_of_cell? _ _ h1
        exact ⟨(k.cell0 (p := ⟨w.heap.size, 0, none⟩) hz).trans h1, (k.cell0 (p := ⟨w.heap.size, 1, none⟩) hz).trans h2, (k.cell0 (p := ⟨w.heap.size, 2, none⟩) hz).trans h3, h4.tr0 k⟩)
  have HS0 := Lib.hid (show ∀ w' : World, Keep 0 0 (w.alloc (.cells #[.int .i64 t, .int .i64 p, .bool o] 38)) w' → (w'.cell? ⟨w.heap.size, 0, none⟩ = some (.int .i64 t) ∧ w'.cell? ⟨w.heap.size, 1, none⟩ = some (.int .i64 p) ∧ w'.cell? ⟨w.heap.size, 2, none⟩ = some (.bool o) ∧ Keep 0 0 (w.alloc (.cells #[.int .i64 t, .int .i64 p, .bool o] 38)) w') from fun w' k =>
        ⟨(k.cell0 (p := ⟨w.heap.size, 0, none⟩) (by simp)).trans (by go_cell), (k.cell0 (p := ⟨w.heap.size, 1, none⟩) (by simp)).trans (by go_cell), (k.cell0 (p := ⟨w.heap.size, 2, none⟩) (by simp)).trans (by go_cell), k⟩)
  have K0 := Keep.refl 0 0 (w.alloc (.cells #[.int .i64 t, .int .i64 p, .bool o] 38))
  go_enter Tryd.func37, Tryd.ntmps37
  go_wp2
  go_region_held3 (fun w' => w'.cell? ⟨w.heap.size, 0, none⟩ = some (.int .i64 t) ∧ w'.cell? ⟨w.heap.size, 1, none⟩ = some (.int .i64 p) ∧ w'.cell? ⟨w.heap.size, 2, none⟩ = some (.bool o) ∧ Keep 0 0 (w.alloc (.cells #[.int .i64 t, .int .i64 p, .bool o] 38)) w')
    (first | (refine HS2.out ?_ _ ?_ ?_; rotate_right; (with_reducible assumption); (with_reducible assumption)) | (with_reducible exact HS0.out _ K0.drew) | (with_reducible exact HS0.out _ K0) | fail)
    (first
      | (go_at_call 45; refine (specDecimal_S _ (by assumption) (by assumption) _).mono ?_; rintro e w1 ⟨rfl, k1⟩)
      | fail)
  obtain ⟨c0, c1, c2, K9⟩ : w1.cell? ⟨w.heap.size, 0, none⟩ = some (.int .i64 t) ∧ w1.cell? ⟨w.heap.size, 1, none⟩ = some (.int .i64 p) ∧ w1.cell? ⟨w.heap.size, 2, none⟩ = some (.bool o) ∧ Keep 0 0 (w.alloc (.cells #[.int .i64 t, .int .i64 p, .bool o] 38)) w1 := by with_reducible assumption
  clear k1 K0
  rcases o with _ | _
  all_goals
    go_wp2
    go_ret
    exact ⟨rfl, (keep_1 w _).tr0 K9⟩
set_option maxHeartbeats 2000000 in
theorem implCtlText_any (t p : Int) (o : Bool) (t0 : -9223372036854775808 ≤ t) (t1 : t ≤ 9223372036854775807) (p0 : -9223372036854775808 ≤ p) (p1 : p ≤ 9223372036854775807) (w : World) (ht : Tab w) :
    Calls Tryd.prog 36 #[.agg #[.int .i64 t, .int .i64 p, .bool o]] w fun e w' => e = .returned (.string (ctlS t p o)) ∧ Keep 0 0 w w' := by
  have zt := decS_size t t0 t1
  have zp := decS_size p p0 p1
  have a1 := add_ok (P := Tryd.prog) (decS t) ⟨#[32]⟩ (by show _ + 1 ≤ _; omega)
  have a2 := add_ok (P := Tryd.prog) (decS t ++ ⟨#[32]⟩) (decS p) (by rw [size_append]; show _ + 1 + _ ≤ _; omega)
  have a3 := add_ok (P := Tryd.prog) (decS t ++ ⟨#[32]⟩ ++ decS p) ⟨#[32]⟩ (by rw [size_append, size_append]; show _ + 1 + _ + 1 ≤ _; omega)
  have a4 := add_ok (P := Tryd.prog) (decS t ++ ⟨#[32]⟩ ++ decS p ++ ⟨#[32]⟩) ⟨#[111, 112, 101, 110]⟩ (by rw [size_append, size_append, size_append]; show _ + 1 + _ + 1 + 4 ≤ _; omega)
  have a5 := add_ok (P := Tryd.prog) (decS t ++ ⟨#[32]⟩ ++ decS p ++ ⟨#[32]⟩) ⟨#[115, 104, 117, 116]⟩ (by rw [size_append, size_append, size_append]; show _ + 1 + _ + 1 + 4 ≤ _; omega)
  have HT := Lib.hid ht
  clear ht
  rcases o with _ | _
  · have HS2 := Lib.hid (show ∀ w1 w2 : World, (w1.cell? ⟨w.heap.size, 0, none⟩ = some (.int .i64 t) ∧ w1.cell? ⟨w.heap.size, 1, none⟩ = some (.int .i64 p) ∧ w1.cell? ⟨w.heap.size, 2, none⟩ = some (.bool false) ∧ Keep 0 0 (w.alloc (.cells #[.int .i64 t, .int .i64 p, .bool false] 38)) w1) → Keep 0 0 w1 w2 →
        (w2.cell? ⟨w.heap.size, 0, none⟩ = some (.int .i64 t) ∧ w2.cell? ⟨w.heap.size, 1, none⟩ = some (.int .i64 p) ∧ w2.cell? ⟨w.heap.size, 2, none⟩ = some (.bool false) ∧ Keep 0 0 (w.alloc (.cells #[.int .i64 t, .int .i64 p, .bool false] 38)) w2) from fun w1 w2 ⟨h1, h2, h3, h4⟩ k => by
          have hz : w.heap.size < w1.heap.size := World.block_lt_of_cell? _ _ h1
          exact ⟨(k.cell0 (p := ⟨w.heap.size, 0, none⟩) hz).trans h1, (k.cell0 (p := ⟨w.heap.size, 1, none⟩) hz).trans h2, (k.cell0 (p := ⟨w.heap.size, 2, none⟩) hz).trans h3, h4.tr0 k⟩)
    have HS0 := Lib.hid (show ∀ w' : World, Keep 0 0 (w.alloc (.cells #[.int .i64 t, .int .i64 p, .bool false] 38)) w' → (w'.cell? ⟨w.heap.size, 0, none⟩ = some (.int .i64 t) ∧ w'.cell? ⟨w.heap.size, 1, none⟩ = some (.int .i64 p) ∧ w'.cell? ⟨w.heap.size, 2, none⟩ = some (.bool false) ∧ Keep 0 0 (w.alloc (.cells #[.int .i64 t, .int .i64 p, .bool false] 38)) w') from fun w' k =>
          ⟨(k.cell0 (p := ⟨w.heap.size, 0, none⟩) (by simp)).trans (by go_cell), (k.cell0 (p := ⟨w.heap.size, 1, none⟩) (by simp)).trans (by go_cell), (k.cell0 (p := ⟨w.heap.size, 2, none⟩) (by simp)).trans (by go_cell), k⟩)
    have K0 := Keep.refl 0 0 (w.alloc (.cells #[.int .i64 t, .int .i64 p, .bool false] 38))
    go_enter Tryd.func36, Tryd.ntmps36
    go_wp2
    go_region_held3 (fun w' => w'.cell? ⟨w.heap.size, 0, none⟩ = some (.int .i64 t) ∧ w'.cell? ⟨w.heap.size, 1, none⟩ = some (.int .i64 p) ∧ w'.cell? ⟨w.heap.size, 2, none⟩ = some (.bool false) ∧ Keep 0 0 (w.alloc (.cells #[.int .i64 t, .int .i64 p, .bool false] 38)) w')
      (first | (refine HS2.out ?_ _ ?_ ?_; rotate_right; (with_reducible assumption); (with_reducible assumption)) | (with_reducible exact HS0.out _ K0.drew) | (with_reducible exact HS0.out _ K0) | fail)
      (first
        | (go_at_call 44; refine (implDecimal_S _ (by assumption) (by assumption) _ ?_).mono ?_; (first | (with_reducible exact HT.out.keep (keep_1 w _).drew) | (with_reducible exact HT.out.keep (keep_1 w _)) | (with_reducible exact (HT.out.keep (keep_1 w _).drew).keep k1) | (with_reducible exact (HT.out.keep (keep_1 w _)).keep k1) | (with_reducible exact ((HT.out.keep (keep_1 w _).drew).keep k1).keep ((Keep.refl 0 0 _).drew)) | fail); (rintro e w1 ⟨rfl, k1⟩))
        | fail)
    obtain ⟨c0, c1, c2, K9⟩ : w1.cell? ⟨w.heap.size, 0, none⟩ = some (.int .i64 t) ∧ w1.cell? ⟨w.heap.size, 1, none⟩ = some (.int .i64 p) ∧ w1.cell? ⟨w.heap.size, 2, none⟩ = some (.bool false) ∧ Keep 0 0 (w.alloc (.cells #[.int .i64 t, .int .i64 p, .bool false] 38)) w1 := by with_reducible assumption
    clear k1 K0
    go_wp2
    go_ret
    refine ⟨?_, (keep_1 w _).tr0 K9⟩
    unfold ctlS
    rw [cat_last (decS t ++ ⟨#[32]⟩ ++ decS p)]
    rfl
  · have HS2 := Lib.hid (show ∀ w1 w2 : World, (w1.cell? ⟨w.heap.size, 0, none⟩ = some (.int .i64 t) ∧ w1.cell? ⟨w.heap.size, 1, none⟩ = some (.int .i64 p) ∧ w1.cell? ⟨w.heap.size, 2, none⟩ = some (.bool true) ∧ Keep 0 0 (w.alloc (.cells #[.int .i64 t, .int .i64 p, .bool true] 38)) w1) → Keep 0 0 w1 w2 →
        (w2.cell? ⟨w.heap.size, 0, none⟩ = some (.int .i64 t) ∧ w2.cell? ⟨w.heap.size, 1, none⟩ = some (.int .i64 p) ∧ w2.cell? ⟨w.heap.size, 2, none⟩ = some (.bool true) ∧ Keep 0 0 (w.alloc (.cells #[.int .i64 t, .int .i64 p, .bool true] 38)) w2) from fun w1 w2 ⟨h1, h2, h3, h4⟩ k => by
          have hz : w.heap.size < w1.heap.size := World.block_lt_of_cell? _ _ h1
          exact ⟨(k.cell0 (p := ⟨w.heap.size, 0, none⟩) hz).trans h1, (k.cell0 (p := ⟨w.heap.size, 1, none⟩) hz).trans h2, (k.cell0 (p := ⟨w.heap.size, 2, none⟩) hz).trans h3, h4.tr0 k⟩)
    have HS0 := Lib.hid (show ∀ w' : World, Keep 0 0 (w.alloc (.cells #[.int .i64 t, .int .i64 p, .bool true] 38)) w' → (w'.cell? ⟨w.heap.size, 0, none⟩ = some (.int .i64 t) ∧ w'.cell? ⟨w.heap.size, 1, none⟩ = some (.int .i64 p) ∧ w'.cell? ⟨w.heap.size, 2, none⟩ = some (.bool true) ∧ Keep 0 0 (w.alloc (.cells #[.int .i64 t, .int .i64 p, .bool true] 38)) w') from fun w' k =>
          ⟨(k.cell0 (p := ⟨w.heap.size, 0, none⟩) (by simp)).trans (by go_cell), (k.cell0 (p := ⟨w.heap.size, 1, none⟩) (by simp)).trans (by go_cell), (k.cell0 (p := ⟨w.heap.size, 2, none⟩) (by simp)).trans (by go_cell), k⟩)
    have K0 := Keep.refl 0 0 (w.alloc (.cells #[.int .i64 t, .int .i64 p, .bool true] 38))
    go_enter Tryd.func36, Tryd.ntmps36
    go_wp2
    go_region_held3 (fun w' => w'.cell? ⟨w.heap.size, 0, none⟩ = some (.int .i64 t) ∧ w'.cell? ⟨w.heap.size, 1, none⟩ = some (.int .i64 p) ∧ w'.cell? ⟨w.heap.size, 2, none⟩ = some (.bool true) ∧ Keep 0 0 (w.alloc (.cells #[.int .i64 t, .int .i64 p, .bool true] 38)) w')
      (first | (refine HS2.out ?_ _ ?_ ?_; rotate_right; (with_reducible assumption); (with_reducible assumption)) | (with_reducible exact HS0.out _ K0.drew) | (with_reducible exact HS0.out _ K0) | fail)
      (first
        | (go_at_call 44; refine (implDecimal_S _ (by assumption) (by assumption) _ ?_).mono ?_; (first | (with_reducible exact HT.out.keep (keep_1 w _).drew) | (with_reducible exact HT.out.keep (keep_1 w _)) | (with_reducible exact (HT.out.keep (keep_1 w _).drew).keep k1) | (with_reducible exact (HT.out.keep (keep_1 w _)).keep k1) | (with_reducible exact ((HT.out.keep (keep_1 w _).drew).keep k1).keep ((Keep.refl 0 0 _).drew)) | fail); (rintro e w1 ⟨rfl, k1⟩))
        | fail)
    obtain ⟨c0, c1, c2, K9⟩ : w1.cell? ⟨w.heap.size, 0, none⟩ = some (.int .i64 t) ∧ w1.cell? ⟨w.heap.size, 1, none⟩ = some (.int .i64 p) ∧ w1.cell? ⟨w.heap.size, 2, none⟩ = some (.bool true) ∧ Keep 0 0 (w.alloc (.cells #[.int .i64 t, .int .i64 p, .bool true] 38)) w1 := by with_reducible assumption
    clear k1 K0
    go_wp2
    go_ret
    refine ⟨?_, (keep_1 w _).tr0 K9⟩
    unfold ctlS
    rw [cat_last (decS t ++ ⟨#[32]⟩ ++ decS p)]
    rfl
end Go.Proofs.YtdlcchoemladnaaDoor
