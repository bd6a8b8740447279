/-
  Contracts of the constructors of exits; when two exits have one text.
-/
import Derived.Test.YtdlcchoemladnaaDoorExT
import Derived.Test.YtdlcchoemladnaaDoorExit
namespace Go.Proofs.YtdlcchoemladnaaDoor
open Go.RowKit

theorem specFaultExit_any (p : Int) (b : Bool) (w : World) : Calls Tryd.prog 15 #[.int .i64 p, .bool b] w fun e w' => e = .returned (.agg #[.int .i64 1, .int .i64 p, .bool b, .int .i64 0]) ∧ Keep 0 0 w w' := by
  go_enter Tryd.func15, Tryd.ntmps15
  go_wp2
  go_returns
  exact ⟨rfl, by repeat' (first | exact Keep.refl _ _ _ | (with_reducible refine Keep.alloc ?_ _) | (with_reducible refine Keep.setCell ?_ (.inr (by first | (simp; done) | (simp; omega))) _))⟩
theorem specCallExit_any (n : Int) (w : World) : Calls Tryd.prog 16 #[.int .i64 n] w fun e w' => e = .returned (.agg #[.int .i64 2, .int .i64 0, .bool false, .int .i64 n]) ∧ Keep 0 0 w w' := by
  go_enter Tryd.func16, Tryd.ntmps16
  go_wp2
  go_returns
  exact ⟨rfl, by repeat' (first | exact Keep.refl _ _ _ | (with_reducible refine Keep.alloc ?_ _) | (with_reducible refine Keep.setCell ?_ (.inr (by first | (simp; done) | (simp; omega))) _))⟩
theorem specOutExit_any (n : Int) (w : World) : Calls Tryd.prog 17 #[.int .i64 n] w fun e w' => e = .returned (.agg #[.int .i64 3, .int .i64 0, .bool false, .int .i64 n]) ∧ Keep 0 0 w w' := by
  go_enter Tryd.func17, Tryd.ntmps17
  go_wp2
  go_returns
  exact ⟨rfl, by repeat' (first | exact Keep.refl _ _ _ | (with_reducible refine Keep.alloc ?_ _) | (with_reducible refine Keep.setCell ?_ (.inr (by first | (simp; done) | (simp; omega))) _))⟩
theorem implFaultExit_any (p : Int) (b : Bool) (w : World) : Calls Tryd.prog 12 #[.int .i64 p, .bool b] w fun e w' => e = .returned (.agg #[.int .i64 1, .int .i64 p, .bool b, .int .i64 0]) ∧ Keep 0 0 w w' := by
  go_enter Tryd.func12, Tryd.ntmps12
  go_wp2
  go_returns
  exact ⟨rfl, by repeat' (first | exact Keep.refl _ _ _ | (with_reducible refine Keep.alloc ?_ _) | (with_reducible refine Keep.setCell ?_ (.inr (by first | (simp; done) | (simp; omega))) _))⟩
theorem implCallExit_any (n : Int) (w : World) : Calls Tryd.prog 13 #[.int .i64 n] w fun e w' => e = .returned (.agg #[.int .i64 2, .int .i64 0, .bool false, .int .i64 n]) ∧ Keep 0 0 w w' := by
  go_enter Tryd.func13, Tryd.ntmps13
  go_wp2
  go_returns
  exact ⟨rfl, by repeat' (first | exact Keep.refl _ _ _ | (with_reducible refine Keep.alloc ?_ _) | (with_reducible refine Keep.setCell ?_ (.inr (by first | (simp; done) | (simp; omega))) _))⟩
theorem implOutExit_any (n : Int) (w : World) : Calls Tryd.prog 14 #[.int .i64 n] w fun e w' => e = .returned (.agg #[.int .i64 3, .int .i64 0, .bool false, .int .i64 n]) ∧ Keep 0 0 w w' := by
  go_enter Tryd.func14, Tryd.ntmps14
  go_wp2
  go_returns
  exact ⟨rfl, by repeat' (first | exact Keep.refl _ _ _ | (with_reducible refine Keep.alloc ?_ _) | (with_reducible refine Keep.setCell ?_ (.inr (by first | (simp; done) | (simp; omega))) _))⟩
theorem str_ne {a b : ByteArray} (h : a ≠ b) : (a.toList == b.toList) = false := by
  rw [beq_eq_false_iff_ne]
  intro e
  rw [ByteArray.toList_eq, ByteArray.toList_eq] at e
  exact h (ByteArray.ext (Array.toList_inj.1 e))
theorem decS_small (x : Int) (h0 : 0 ≤ x) (h1 : x < 4) : decS x = ⟨#[48 + UInt8.ofNat x.toNat]⟩ := by
  obtain ⟨m, rfl⟩ : ∃ m : Nat, x = (m : Int) := ⟨x.toNat, by omega⟩
  unfold decS
  rw [Lib.itoa_nonneg, Lib.decDigits_one (by omega)]
  simp
theorem fault_inj (x y : Int) (b c : Bool) (x0 : 0 ≤ x) (x1 : x < 4) (y0 : 0 ≤ y) (y1 : y < 4) (h : exitS 1 x b 0 = exitS 1 y c 0) : x = y ∧ b = c := by
  have hx : x = 0 ∨ x = 1 ∨ x = 2 ∨ x = 3 := by omega
  have hy : y = 0 ∨ y = 1 ∨ y = 2 ∨ y = 3 := by omega
  unfold exitS at h
  rw [if_pos rfl, if_pos rfl, decS_small x x0 x1, decS_small y y0 y1] at h
  clear x0 x1 y0 y1
  rcases hx with rfl | rfl | rfl | rfl <;> rcases hy with rfl | rfl | rfl | rfl <;> cases b <;> cases c <;> first | exact ⟨rfl, rfl⟩ | (exfalso; revert h; decide)
theorem call_out (n : Int) : exitS 2 0 false n ≠ exitS 3 0 false n := by
  intro h
  have := congrArg ByteArray.size h
  unfold exitS at this
  rw [if_neg (by omega), if_pos rfl, if_neg (by omega), if_neg (by omega), if_pos rfl, size_append, size_append] at this
  have e1 : (ByteArray.mk #[99, 97, 108, 108, 32]).size = 5 := rfl
  have e2 : (ByteArray.mk #[111, 117, 116, 32]).size = 4 := rfl
  omega
end Go.Proofs.YtdlcchoemladnaaDoor
