/-
  Contracts of ExitName and ExitText, the program's and the reference's: their texts.
-/
import Derived.Test.YtdlcchoemladnaaDoorTxt
namespace Go.Proofs.YtdlcchoemladnaaDoor
open Go.RowKit

def nameS (k : Int) : ByteArray := if k = 0 then ⟨#[110, 111, 110, 101]⟩ else if k = 1 then ⟨#[102, 97, 117, 108, 116]⟩ else if k = 2 then ⟨#[99, 97, 108, 108]⟩ else if k = 3 then ⟨#[111, 117, 116]⟩ else if k = 4 then ⟨#[104, 97, 108, 116]⟩ else ⟨#[63]⟩
theorem kindS_cases (k : Int) : k = 0 ∨ k = 1 ∨ k = 2 ∨ k = 3 ∨ k = 4 ∨ (inB k 0 4 = false ∧ nameS k = ⟨#[63]⟩) := by
  rcases inB_cases k 0 4 with ⟨_, _⟩ | ⟨h, h2⟩
  · omega
  · refine .inr (.inr (.inr (.inr (.inr ⟨h, ?_⟩))))
    unfold nameS
    rw [if_neg (by omega), if_neg (by omega), if_neg (by omega), if_neg (by omega), if_neg (by omega)]
theorem ne_beq {a b : Int} (h : a ≠ b) : (a == b) = false := by simpa using h
def exitS (k p : Int) (b : Bool) (n : Int) : ByteArray :=
  if k = 1 then ⟨#[102, 97, 117, 108, 116, 32]⟩ ++ decS p ++ (if b then ⟨#[32, 119]⟩ else ⟨#[32, 114]⟩)
  else if k = 2 then ⟨#[99, 97, 108, 108, 32]⟩ ++ decS n else if k = 3 then ⟨#[111, 117, 116, 32]⟩ ++ decS n else nameS k
theorem exitS_else {k : Int} (p : Int) (b : Bool) (n : Int) (h1 : k ≠ 1) (h2 : k ≠ 2) (h3 : k ≠ 3) : exitS k p b n = nameS k := by
  unfold exitS
  rw [if_neg h1, if_neg h2, if_neg h3]
set_option maxHeartbeats 2000000 in
theorem specExitName_any (k : Int) (w : World) : Calls Tryd.prog 23 #[.int .i64 k] w fun e w' => e = .returned (.string (nameS k)) ∧ Keep 0 0 w w' := by
  have b0 : inB 0 0 4 = true := rfl
  have b1 : inB 1 0 4 = true := rfl
  have b2 : inB 2 0 4 = true := rfl
  have b3 : inB 3 0 4 = true := rfl
  have b4 : inB 4 0 4 = true := rfl
  rcases kindS_cases k with rfl | rfl | rfl | rfl | rfl | ⟨h, hn⟩
  rotate_right
  · have HN := Lib.hid hn
    clear hn
    go_enter Tryd.func23, Tryd.ntmps23
    go_wp2_with (go_at_call 43; refine (l01In_any _ _ _ _).mono ?_; rintro e w' ⟨rfl, rfl⟩)
    go_ret
    exact ⟨by rw [HN.out]; rfl, Keep.refl _ _ _⟩
  all_goals
    go_enter Tryd.func23, Tryd.ntmps23
    go_wp2_with (go_at_call 43; refine (l01In_any _ _ _ _).mono ?_; rintro e w' ⟨rfl, rfl⟩)
    go_ret
    exact ⟨rfl, keep_1 _ _⟩
set_option maxHeartbeats 2000000 in
theorem implExitName_any (k : Int) (w : World) : Calls Tryd.prog 22 #[.int .i64 k] w fun e w' => e = .returned (.string (nameS k)) ∧ Keep 0 0 w w' := by
  have b0 : inB 0 0 4 = true := rfl
  have b1 : inB 1 0 4 = true := rfl
  have b2 : inB 2 0 4 = true := rfl
  have b3 : inB 3 0 4 = true := rfl
  have b4 : inB 4 0 4 = true := rfl
  rcases kindS_cases k with rfl | rfl | rfl | rfl | rfl | ⟨h, hn⟩
  rotate_right
  · have HN := Lib.hid hn
    clear hn
    go_enter Tryd.func22, Tryd.ntmps22
    go_wp2_with (go_at_call 42; refine (within_any _ _ _ _).mono ?_; rintro e w' ⟨rfl, rfl⟩)
    go_ret
    exact ⟨by rw [HN.out]; rfl, Keep.refl _ _ _⟩
  all_goals
    go_enter Tryd.func22, Tryd.ntmps22
    go_wp2_with (go_at_call 42; refine (within_any _ _ _ _).mono ?_; rintro e w' ⟨rfl, rfl⟩)
    go_ret
    exact ⟨rfl, keep_1 _ _⟩
set_option maxHeartbeats 4000000 in
theorem specExitText_any (k p : Int) (b : Bool) (n : Int) (p0 : -9223372036854775808 ≤ p) (p1 : p ≤ 9223372036854775807) (n0 : -9223372036854775808 ≤ n) (n1 : n ≤ 9223372036854775807) (w : World) :
    Calls Tryd.prog 21 #[.agg #[.int .i64 k, .int .i64 p, .bool b, .int .i64 n]] w fun e w' => e = .returned (.string (exitS k p b n)) ∧ Keep 0 0 w w' := by
  have zp := decS_size p p0 p1
  have zn := decS_size n n0 n1
  rcases kindS_cases k with hk | rfl | rfl | rfl | hk | ⟨hk, hn⟩
  · have HE := Lib.hid (exitS_else (k := k) p b n (by omega) (by omega) (by omega))
    have q1 : (k == 1) = false := ne_beq (by omega)
    have q2 : (k == 2) = false := ne_beq (by omega)
    have q3 : (k == 3) = false := ne_beq (by omega)
    clear hk
    have k0 := keep_1 w (.cells #[.int .i64 k, .int .i64 p, .bool b, .int .i64 n] 28)
    have x0 : (w.alloc (.cells #[.int .i64 k, .int .i64 p, .bool b, .int .i64 n] 28)).cell? ⟨w.heap.size, 0, none⟩ = some (.int .i64 k) := by go_cell
    have x1 : (w.alloc (.cells #[.int .i64 k, .int .i64 p, .bool b, .int .i64 n] 28)).cell? ⟨w.heap.size, 1, none⟩ = some (.int .i64 p) := by go_cell
    have x2 : (w.alloc (.cells #[.int .i64 k, .int .i64 p, .bool b, .int .i64 n] 28)).cell? ⟨w.heap.size, 2, none⟩ = some (.bool b) := by go_cell
    have x3 : (w.alloc (.cells #[.int .i64 k, .int .i64 p, .bool b, .int .i64 n] 28)).cell? ⟨w.heap.size, 3, none⟩ = some (.int .i64 n) := by go_cell
    have X0 := Lib.hid x0
    have X1 := Lib.hid x1
    have X2 := Lib.hid x2
    have X3 := Lib.hid x3
    have hz : w.heap.size < (w.alloc (.cells #[.int .i64 k, .int .i64 p, .bool b, .int .i64 n] 28)).heap.size := by simp
    clear x0 x1 x2 x3
    go_enter Tryd.func21, Tryd.ntmps21
    go_wp2_with fail
    refine (specExitName_any _ _).mono ?_
    rintro e w1 ⟨rfl, k1⟩
    have y0 := (k1.cell0 (p := ⟨w.heap.size, 0, none⟩) (by exact hz)).trans X0.out
    have y1 := (k1.cell0 (p := ⟨w.heap.size, 1, none⟩) (by exact hz)).trans X1.out
    have y2 := (k1.cell0 (p := ⟨w.heap.size, 2, none⟩) (by exact hz)).trans X2.out
    have y3 := (k1.cell0 (p := ⟨w.heap.size, 3, none⟩) (by exact hz)).trans X3.out
    have K1 := k0.tr0 k1
    clear k1 k0 hz
    go_wp2
    go_ret
    exact ⟨by rw [HE.out]; rfl, K1⟩
  · have k0 := keep_1 w (.cells #[.int .i64 1, .int .i64 p, .bool b, .int .i64 n] 28)
    have x0 : (w.alloc (.cells #[.int .i64 1, .int .i64 p, .bool b, .int .i64 n] 28)).cell? ⟨w.heap.size, 0, none⟩ = some (.int .i64 1) := by go_cell
    have x1 : (w.alloc (.cells #[.int .i64 1, .int .i64 p, .bool b, .int .i64 n] 28)).cell? ⟨w.heap.size, 1, none⟩ = some (.int .i64 p) := by go_cell
    have x2 : (w.alloc (.cells #[.int .i64 1, .int .i64 p, .bool b, .int .i64 n] 28)).cell? ⟨w.heap.size, 2, none⟩ = some (.bool b) := by go_cell
    have x3 : (w.alloc (.cells #[.int .i64 1, .int .i64 p, .bool b, .int .i64 n] 28)).cell? ⟨w.heap.size, 3, none⟩ = some (.int .i64 n) := by go_cell
    have X0 := Lib.hid x0
    have X1 := Lib.hid x1
    have X2 := Lib.hid x2
    have X3 := Lib.hid x3
    have hz : w.heap.size < (w.alloc (.cells #[.int .i64 1, .int .i64 p, .bool b, .int .i64 n] 28)).heap.size := by simp
    clear x0 x1 x2 x3
    have a1 := add_ok (P := Tryd.prog) ⟨#[102, 97, 117, 108, 116, 32]⟩ (decS p) (by show 6 + _ ≤ _; omega)
    have a2 := add_ok (P := Tryd.prog) (⟨#[102, 97, 117, 108, 116, 32]⟩ ++ decS p) ⟨#[32, 119]⟩ (by rw [size_append]; show 6 + _ + 2 ≤ _; omega)
    have a3 := add_ok (P := Tryd.prog) (⟨#[102, 97, 117, 108, 116, 32]⟩ ++ decS p) ⟨#[32, 114]⟩ (by rw [size_append]; show 6 + _ + 2 ≤ _; omega)
    rcases b with _ | _
    all_goals
      go_enter Tryd.func21, Tryd.ntmps21
      go_wp2_with fail
      refine (specExitName_any _ _).mono ?_
      rintro e w1 ⟨rfl, k1⟩
      have y0 := (k1.cell0 (p := ⟨w.heap.size, 0, none⟩) (by exact hz)).trans X0.out
      have y1 := (k1.cell0 (p := ⟨w.heap.size, 1, none⟩) (by exact hz)).trans X1.out
      have y2 := (k1.cell0 (p := ⟨w.heap.size, 2, none⟩) (by exact hz)).trans X2.out
      have y3 := (k1.cell0 (p := ⟨w.heap.size, 3, none⟩) (by exact hz)).trans X3.out
      rw [show nameS 1 = ⟨#[102, 97, 117, 108, 116]⟩ from rfl]
      have K1 := k0.tr0 k1
      clear k1 k0 hz
      go_wp2_with fail
      refine (specDecimal_S _ (by assumption) (by assumption) _).mono ?_
      rintro e w2 ⟨rfl, k2⟩
      have z0 := (k2.cell0 (p := ⟨w.heap.size, 0, none⟩) (World.block_lt_of_cell? _ _ y0)).trans y0
      have z1 := (k2.cell0 (p := ⟨w.heap.size, 1, none⟩) (World.block_lt_of_cell? _ _ y1)).trans y1
      have z2 := (k2.cell0 (p := ⟨w.heap.size, 2, none⟩) (World.block_lt_of_cell? _ _ y2)).trans y2
      have z3 := (k2.cell0 (p := ⟨w.heap.size, 3, none⟩) (World.block_lt_of_cell? _ _ y3)).trans y3
      have K2 := K1.tr0 k2
      clear K1 k2 y0 y1 y2 y3
      go_wp2
      go_ret
      exact ⟨rfl, K2⟩
  · have k0 := keep_1 w (.cells #[.int .i64 2, .int .i64 p, .bool b, .int .i64 n] 28)
    have x0 : (w.alloc (.cells #[.int .i64 2, .int .i64 p, .bool b, .int .i64 n] 28)).cell? ⟨w.heap.size, 0, none⟩ = some (.int .i64 2) := by go_cell
    have x1 : (w.alloc (.cells #[.int .i64 2, .int .i64 p, .bool b, .int .i64 n] 28)).cell? ⟨w.heap.size, 1, none⟩ = some (.int .i64 p) := by go_cell
    have x2 : (w.alloc (.cells #[.int .i64 2, .int .i64 p, .bool b, .int .i64 n] 28)).cell? ⟨w.heap.size, 2, none⟩ = some (.bool b) := by go_cell
    have x3 : (w.alloc (.cells #[.int .i64 2, .int .i64 p, .bool b, .int .i64 n] 28)).cell? ⟨w.heap.size, 3, none⟩ = some (.int .i64 n) := by go_cell
    have X0 := Lib.hid x0
    have X1 := Lib.hid x1
    have X2 := Lib.hid x2
    have X3 := Lib.hid x3
    have hz : w.heap.size < (w.alloc (.cells #[.int .i64 2, .int .i64 p, .bool b, .int .i64 n] 28)).heap.size := by simp
    clear x0 x1 x2 x3
    have a1 := add_ok (P := Tryd.prog) ⟨#[99, 97, 108, 108, 32]⟩ (decS n) (by show 5 + _ ≤ _; omega)
    go_enter Tryd.func21, Tryd.ntmps21
    go_wp2_with fail
    refine (specExitName_any _ _).mono ?_
    rintro e w1 ⟨rfl, k1⟩
    have y0 := (k1.cell0 (p := ⟨w.heap.size, 0, none⟩) (by exact hz)).trans X0.out
    have y1 := (k1.cell0 (p := ⟨w.heap.size, 1, none⟩) (by exact hz)).trans X1.out
    have y2 := (k1.cell0 (p := ⟨w.heap.size, 2, none⟩) (by exact hz)).trans X2.out
    have y3 := (k1.cell0 (p := ⟨w.heap.size, 3, none⟩) (by exact hz)).trans X3.out
    rw [show nameS 2 = ⟨#[99, 97, 108, 108]⟩ from rfl]
    have K1 := k0.tr0 k1
    clear k1 k0 hz
    go_wp2_with fail
    refine (specDecimal_S _ (by assumption) (by assumption) _).mono ?_
    rintro e w2 ⟨rfl, k2⟩
    have z0 := (k2.cell0 (p := ⟨w.heap.size, 0, none⟩) (World.block_lt_of_cell? _ _ y0)).trans y0
    have z1 := (k2.cell0 (p := ⟨w.heap.size, 1, none⟩) (World.block_lt_of_cell? _ _ y1)).trans y1
    have z2 := (k2.cell0 (p := ⟨w.heap.size, 2, none⟩) (World.block_lt_of_cell? _ _ y2)).trans y2
    have z3 := (k2.cell0 (p := ⟨w.heap.size, 3, none⟩) (World.block_lt_of_cell? _ _ y3)).trans y3
    have K2 := K1.tr0 k2
    clear K1 k2 y0 y1 y2 y3
    go_wp2
    go_ret
    exact ⟨rfl, K2⟩
  · have k0 := keep_1 w (.cells #[.int .i64 3, .int .i64 p, .bool b, .int .i64 n] 28)
    have x0 : (w.alloc (.cells #[.int .i64 3, .int .i64 p, .bool b, .int .i64 n] 28)).cell? ⟨w.heap.size, 0, none⟩ = some (.int .i64 3) := by go_cell
    have x1 : (w.alloc (.cells #[.int .i64 3, .int .i64 p, .bool b, .int .i64 n] 28)).cell? ⟨w.heap.size, 1, none⟩ = some (.int .i64 p) := by go_cell
    have x2 : (w.alloc (.cells #[.int .i64 3, .int .i64 p, .bool b, .int .i64 n] 28)).cell? ⟨w.heap.size, 2, none⟩ = some (.bool b) := by go_cell
    have x3 : (w.alloc (.cells #[.int .i64 3, .int .i64 p, .bool b, .int .i64 n] 28)).cell? ⟨w.heap.size, 3, none⟩ = some (.int .i64 n) := by go_cell
    have X0 := Lib.hid x0
    have X1 := Lib.hid x1
    have X2 := Lib.hid x2
    have X3 := Lib.hid x3
    have hz : w.heap.size < (w.alloc (.cells #[.int .i64 3, .int .i64 p, .bool b, .int .i64 n] 28)).heap.size := by simp
    clear x0 x1 x2 x3
    have a1 := add_ok (P := Tryd.prog) ⟨#[111, 117, 116, 32]⟩ (decS n) (by show 4 + _ ≤ _; omega)
    go_enter Tryd.func21, Tryd.ntmps21
    go_wp2_with fail
    refine (specExitName_any _ _).mono ?_
    rintro e w1 ⟨rfl, k1⟩
    have y0 := (k1.cell0 (p := ⟨w.heap.size, 0, none⟩) (by exact hz)).trans X0.out
    have y1 := (k1.cell0 (p := ⟨w.heap.size, 1, none⟩) (by exact hz)).trans X1.out
    have y2 := (k1.cell0 (p := ⟨w.heap.size, 2, none⟩) (by exact hz)).trans X2.out
    have y3 := (k1.cell0 (p := ⟨w.heap.size, 3, none⟩) (by exact hz)).trans X3.out
    rw [show nameS 3 = ⟨#[111, 117, 116]⟩ from rfl]
    have K1 := k0.tr0 k1
    clear k1 k0 hz
    go_wp2_with fail
    refine (specDecimal_S _ (by assumption) (by assumption) _).mono ?_
    rintro e w2 ⟨rfl, k2⟩
    have z0 := (k2.cell0 (p := ⟨w.heap.size, 0, none⟩) (World.block_lt_of_cell? _ _ y0)).trans y0
    have z1 := (k2.cell0 (p := ⟨w.heap.size, 1, none⟩) (World.block_lt_of_cell? _ _ y1)).trans y1
    have z2 := (k2.cell0 (p := ⟨w.heap.size, 2, none⟩) (World.block_lt_of_cell? _ _ y2)).trans y2
    have z3 := (k2.cell0 (p := ⟨w.heap.size, 3, none⟩) (World.block_lt_of_cell? _ _ y3)).trans y3
    have K2 := K1.tr0 k2
    clear K1 k2 y0 y1 y2 y3
    go_wp2
    go_ret
    exact ⟨rfl, K2⟩
  · have HE := Lib.hid (exitS_else (k := k) p b n (by omega) (by omega) (by omega))
    have q1 : (k == 1) = false := ne_beq (by omega)
    have q2 : (k == 2) = false := ne_beq (by omega)
    have q3 : (k == 3) = false := ne_beq (by omega)
    clear hk
    have k0 := keep_1 w (.cells #[.int .i64 k, .int .i64 p, .bool b, .int .i64 n] 28)
    have x0 : (w.alloc (.cells #[.int .i64 k, .int .i64 p, .bool b, .int .i64 n] 28)).cell? ⟨w.heap.size, 0, none⟩ = some (.int .i64 k) := by go_cell
    have x1 : (w.alloc (.cells #[.int .i64 k, .int .i64 p, .bool b, .int .i64 n] 28)).cell? ⟨w.heap.size, 1, none⟩ = some (.int .i64 p) := by go_cell
    have x2 : (w.alloc (.cells #[.int .i64 k, .int .i64 p, .bool b, .int .i64 n] 28)).cell? ⟨w.heap.size, 2, none⟩ = some (.bool b) := by go_cell
    have x3 : (w.alloc (.cells #[.int .i64 k, .int .i64 p, .bool b, .int .i64 n] 28)).cell? ⟨w.heap.size, 3, none⟩ = some (.int .i64 n) := by go_cell
    have X0 := Lib.hid x0
    have X1 := Lib.hid x1
    have X2 := Lib.hid x2
    have X3 := Lib.hid x3
    have hz : w.heap.size < (w.alloc (.cells #[.int .i64 k, .int .i64 p, .bool b, .int .i64 n] 28)).heap.size := by simp
    clear x0 x1 x2 x3
    go_enter Tryd.func21, Tryd.ntmps21
    go_wp2_with fail
    refine (specExitName_any _ _).mono ?_
    rintro e w1 ⟨rfl, k1⟩
    have y0 := (k1.cell0 (p := ⟨w.heap.size, 0, none⟩) (by exact hz)).trans X0.out
    have y1 := (k1.cell0 (p := ⟨w.heap.size, 1, none⟩) (by exact hz)).trans X1.out
    have y2 := (k1.cell0 (p := ⟨w.heap.size, 2, none⟩) (by exact hz)).trans X2.out
    have y3 := (k1.cell0 (p := ⟨w.heap.size, 3, none⟩) (by exact hz)).trans X3.out
    have K1 := k0.tr0 k1
    clear k1 k0 hz
    go_wp2
    go_ret
    exact ⟨by rw [HE.out]; rfl, K1⟩
  · have hk2 : k < 0 ∨ 4 < k := by
      rcases inB_cases k 0 4 with ⟨h, _⟩ | ⟨_, h⟩
      · rw [hk] at h; cases h
      · exact h
    have HE := Lib.hid (exitS_else (k := k) p b n (by omega) (by omega) (by omega))
    have q1 : (k == 1) = false := ne_beq (by omega)
    have q2 : (k == 2) = false := ne_beq (by omega)
    have q3 : (k == 3) = false := ne_beq (by omega)
    clear hk hk2 hn
    have k0 := keep_1 w (.cells #[.int .i64 k, .int .i64 p, .bool b, .int .i64 n] 28)
    have x0 : (w.alloc (.cells #[.int .i64 k, .int .i64 p, .bool b, .int .i64 n] 28)).cell? ⟨w.heap.size, 0, none⟩ = some (.int .i64 k) := by go_cell
    have x1 : (w.alloc (.cells #[.int .i64 k, .int .i64 p, .bool b, .int .i64 n] 28)).cell? ⟨w.heap.size, 1, none⟩ = some (.int .i64 p) := by go_cell
    have x2 : (w.alloc (.cells #[.int .i64 k, .int .i64 p, .bool b, .int .i64 n] 28)).cell? ⟨w.heap.size, 2, none⟩ = some (.bool b) := by go_cell
    have x3 : (w.alloc (.cells #[.int .i64 k, .int .i64 p, .bool b, .int .i64 n] 28)).cell? ⟨w.heap.size, 3, none⟩ = some (.int .i64 n) := by go_cell
    have X0 := Lib.hid x0
    have X1 := Lib.hid x1
    have X2 := Lib.hid x2
    have X3 := Lib.hid x3
    have hz : w.heap.size < (w.alloc (.cells #[.int .i64 k, .int .i64 p, .bool b, .int .i64 n] 28)).heap.size := by simp
    clear x0 x1 x2 x3
    go_enter Tryd.func21, Tryd.ntmps21
    go_wp2_with fail
    refine (specExitName_any _ _).mono ?_
    rintro e w1 ⟨rfl, k1⟩
    have y0 := (k1.cell0 (p := ⟨w.heap.size, 0, none⟩) (by exact hz)).trans X0.out
    have y1 := (k1.cell0 (p := ⟨w.heap.size, 1, none⟩) (by exact hz)).trans X1.out
    have y2 := (k1.cell0 (p := ⟨w.heap.size, 2, none⟩) (by exact hz)).trans X2.out
    have y3 := (k1.cell0 (p := ⟨w.heap.size, 3, none⟩) (by exact hz)).trans X3.out
    have K1 := k0.tr0 k1
    clear k1 k0 hz
    go_wp2
    go_ret
    exact ⟨by rw [HE.out]; rfl, K1⟩
set_option maxHeartbeats 4000000 in
theorem implExitText_any (k p : Int) (b : Bool) (n : Int) (p0 : -9223372036854775808 ≤ p) (p1 : p ≤ 9223372036854775807) (n0 : -9223372036854775808 ≤ n) (n1 : n ≤ 9223372036854775807) (w : World) (ht : Tab w) :
    Calls Tryd.prog 20 #[.agg #[.int .i64 k, .int .i64 p, .bool b, .int .i64 n]] w fun e w' => e = .returned (.string (exitS k p b n)) ∧ Keep 0 0 w w' := by
  have zp := decS_size p p0 p1
  have zn := decS_size n n0 n1
  have HT := Lib.hid ht
  clear ht
  rcases kindS_cases k with hk | rfl | rfl | rfl | hk | ⟨hk, hn⟩
  · have HE := Lib.hid (exitS_else (k := k) p b n (by omega) (by omega) (by omega))
    have q1 : (k == 1) = false := ne_beq (by omega)
    have q2 : (k == 2) = false := ne_beq (by omega)
    have q3 : (k == 3) = false := ne_beq (by omega)
    clear hk
    have k0 := keep_1 w (.cells #[.int .i64 k, .int .i64 p, .bool b, .int .i64 n] 28)
    have x0 : (w.alloc (.cells #[.int .i64 k, .int .i64 p, .bool b, .int .i64 n] 28)).cell? ⟨w.heap.size, 0, none⟩ = some (.int .i64 k) := by go_cell
    have x1 : (w.alloc (.cells #[.int .i64 k, .int .i64 p, .bool b, .int .i64 n] 28)).cell? ⟨w.heap.size, 1, none⟩ = some (.int .i64 p) := by go_cell
    have x2 : (w.alloc (.cells #[.int .i64 k, .int .i64 p, .bool b, .int .i64 n] 28)).cell? ⟨w.heap.size, 2, none⟩ = some (.bool b) := by go_cell
    have x3 : (w.alloc (.cells #[.int .i64 k, .int .i64 p, .bool b, .int .i64 n] 28)).cell? ⟨w.heap.size, 3, none⟩ = some (.int .i64 n) := by go_cell
    have X0 := Lib.hid x0
    have X1 := Lib.hid x1
    have X2 := Lib.hid x2
    have X3 := Lib.hid x3
    have hz : w.heap.size < (w.alloc (.cells #[.int .i64 k, .int .i64 p, .bool b, .int .i64 n] 28)).heap.size := by simp
    clear x0 x1 x2 x3
    go_enter Tryd.func20, Tryd.ntmps20
    go_wp2_with fail
    refine (implExitName_any _ _).mono ?_
    rintro e w1 ⟨rfl, k1⟩
    have y0 := (k1.cell0 (p := ⟨w.heap.size, 0, none⟩) (by exact hz)).trans X0.out
    have y1 := (k1.cell0 (p := ⟨w.heap.size, 1, none⟩) (by exact hz)).trans X1.out
    have y2 := (k1.cell0 (p := ⟨w.heap.size, 2, none⟩) (by exact hz)).trans X2.out
    have y3 := (k1.cell0 (p := ⟨w.heap.size, 3, none⟩) (by exact hz)).trans X3.out
    have K1 := k0.tr0 k1
    clear k1 k0 hz
    go_wp2
    go_ret
    exact ⟨by rw [HE.out]; rfl, K1⟩
  · have k0 := keep_1 w (.cells #[.int .i64 1, .int .i64 p, .bool b, .int .i64 n] 28)
    have x0 : (w.alloc (.cells #[.int .i64 1, .int .i64 p, .bool b, .int .i64 n] 28)).cell? ⟨w.heap.size, 0, none⟩ = some (.int .i64 1) := by go_cell
    have x1 : (w.alloc (.cells #[.int .i64 1, .int .i64 p, .bool b, .int .i64 n] 28)).cell? ⟨w.heap.size, 1, none⟩ = some (.int .i64 p) := by go_cell
    have x2 : (w.alloc (.cells #[.int .i64 1, .int .i64 p, .bool b, .int .i64 n] 28)).cell? ⟨w.heap.size, 2, none⟩ = some (.bool b) := by go_cell
    have x3 : (w.alloc (.cells #[.int .i64 1, .int .i64 p, .bool b, .int .i64 n] 28)).cell? ⟨w.heap.size, 3, none⟩ = some (.int .i64 n) := by go_cell
    have X0 := Lib.hid x0
    have X1 := Lib.hid x1
    have X2 := Lib.hid x2
    have X3 := Lib.hid x3
    have hz : w.heap.size < (w.alloc (.cells #[.int .i64 1, .int .i64 p, .bool b, .int .i64 n] 28)).heap.size := by simp
    clear x0 x1 x2 x3
    have a1 := add_ok (P := Tryd.prog) ⟨#[102, 97, 117, 108, 116, 32]⟩ (decS p) (by show 6 + _ ≤ _; omega)
    have a2 := add_ok (P := Tryd.prog) (⟨#[102, 97, 117, 108, 116, 32]⟩ ++ decS p) ⟨#[32]⟩ (by rw [size_append]; show 6 + _ + 1 ≤ _; omega)
    have a3 := add_ok (P := Tryd.prog) (⟨#[102, 97, 117, 108, 116, 32]⟩ ++ decS p ++ ⟨#[32]⟩) ⟨#[119]⟩ (by rw [size_append, size_append]; show 6 + _ + 1 + 1 ≤ _; omega)
    have a4 := add_ok (P := Tryd.prog) (⟨#[102, 97, 117, 108, 116, 32]⟩ ++ decS p ++ ⟨#[32]⟩) ⟨#[114]⟩ (by rw [size_append, size_append]; show 6 + _ + 1 + 1 ≤ _; omega)
    rcases b with _ | _
    all_goals
      go_enter Tryd.func20, Tryd.ntmps20
      go_wp2_with fail
      refine (implExitName_any _ _).mono ?_
      rintro e w1 ⟨rfl, k1⟩
      have y0 := (k1.cell0 (p := ⟨w.heap.size, 0, none⟩) (by exact hz)).trans X0.out
      have y1 := (k1.cell0 (p := ⟨w.heap.size, 1, none⟩) (by exact hz)).trans X1.out
      have y2 := (k1.cell0 (p := ⟨w.heap.size, 2, none⟩) (by exact hz)).trans X2.out
      have y3 := (k1.cell0 (p := ⟨w.heap.size, 3, none⟩) (by exact hz)).trans X3.out
      rw [show nameS 1 = ⟨#[102, 97, 117, 108, 116]⟩ from rfl]
      have K1 := k0.tr0 k1
      clear k1 k0 hz
      go_wp2_with fail
      refine (implDecimal_S _ (by assumption) (by assumption) _ (HT.out.keep K1)).mono ?_
      rintro e w2 ⟨rfl, k2⟩
      have z0 := (k2.cell0 (p := ⟨w.heap.size, 0, none⟩) (World.block_lt_of_cell? _ _ y0)).trans y0
      have z1 := (k2.cell0 (p := ⟨w.heap.size, 1, none⟩) (World.block_lt_of_cell? _ _ y1)).trans y1
      have z2 := (k2.cell0 (p := ⟨w.heap.size, 2, none⟩) (World.block_lt_of_cell? _ _ y2)).trans y2
      have z3 := (k2.cell0 (p := ⟨w.heap.size, 3, none⟩) (World.block_lt_of_cell? _ _ y3)).trans y3
      have K2 := K1.tr0 k2
      clear K1 k2 y0 y1 y2 y3
      go_wp2
      go_ret
      exact ⟨by unfold exitS; rw [if_pos rfl]; exact congrArg (fun x => Ending.returned (Value.string x)) (cat_last _ _ _), K2⟩
  · have k0 := keep_1 w (.cells #[.int .i64 2, .int .i64 p, .bool b, .int .i64 n] 28)
    have x0 : (w.alloc (.cells #[.int .i64 2, .int .i64 p, .bool b, .int .i64 n] 28)).cell? ⟨w.heap.size, 0, none⟩ = some (.int .i64 2) := by go_cell
    have x1 : (w.alloc (.cells #[.int .i64 2, .int .i64 p, .bool b, .int .i64 n] 28)).cell? ⟨w.heap.size, 1, none⟩ = some (.int .i64 p) := by go_cell
    have x2 : (w.alloc (.cells #[.int .i64 2, .int .i64 p, .bool b, .int .i64 n] 28)).cell? ⟨w.heap.size, 2, none⟩ = some (.bool b) := by go_cell
    have x3 : (w.alloc (.cells #[.int .i64 2, .int .i64 p, .bool b, .int .i64 n] 28)).cell? ⟨w.heap.size, 3, none⟩ = some (.int .i64 n) := by go_cell
    have X0 := Lib.hid x0
    have X1 := Lib.hid x1
    have X2 := Lib.hid x2
    have X3 := Lib.hid x3
    have hz : w.heap.size < (w.alloc (.cells #[.int .i64 2, .int .i64 p, .bool b, .int .i64 n] 28)).heap.size := by simp
    clear x0 x1 x2 x3
    have a1 := add_ok (P := Tryd.prog) ⟨#[99, 97, 108, 108, 32]⟩ (decS n) (by show 5 + _ ≤ _; omega)
    go_enter Tryd.func20, Tryd.ntmps20
    go_wp2_with fail
    refine (implExitName_any _ _).mono ?_
    rintro e w1 ⟨rfl, k1⟩
    have y0 := (k1.cell0 (p := ⟨w.heap.size, 0, none⟩) (by exact hz)).trans X0.out
    have y1 := (k1.cell0 (p := ⟨w.heap.size, 1, none⟩) (by exact hz)).trans X1.out
    have y2 := (k1.cell0 (p := ⟨w.heap.size, 2, none⟩) (by exact hz)).trans X2.out
    have y3 := (k1.cell0 (p := ⟨w.heap.size, 3, none⟩) (by exact hz)).trans X3.out
    rw [show nameS 2 = ⟨#[99, 97, 108, 108]⟩ from rfl]
    have K1 := k0.tr0 k1
    clear k1 k0 hz
    go_wp2_with fail
    refine (implDecimal_S _ (by assumption) (by assumption) _ (HT.out.keep K1)).mono ?_
    rintro e w2 ⟨rfl, k2⟩
    have z0 := (k2.cell0 (p := ⟨w.heap.size, 0, none⟩) (World.block_lt_of_cell? _ _ y0)).trans y0
    have z1 := (k2.cell0 (p := ⟨w.heap.size, 1, none⟩) (World.block_lt_of_cell? _ _ y1)).trans y1
    have z2 := (k2.cell0 (p := ⟨w.heap.size, 2, none⟩) (World.block_lt_of_cell? _ _ y2)).trans y2
    have z3 := (k2.cell0 (p := ⟨w.heap.size, 3, none⟩) (World.block_lt_of_cell? _ _ y3)).trans y3
    have K2 := K1.tr0 k2
    clear K1 k2 y0 y1 y2 y3
    go_wp2
    go_ret
    exact ⟨rfl, K2⟩
  · have k0 := keep_1 w (.cells #[.int .i64 3, .int .i64 p, .bool b, .int .i64 n] 28)
    have x0 : (w.alloc (.cells #[.int .i64 3, .int .i64 p, .bool b, .int .i64 n] 28)).cell? ⟨w.heap.size, 0, none⟩ = some (.int .i64 3) := by go_cell
    have x1 : (w.alloc (.cells #[.int .i64 3, .int .i64 p, .bool b, .int .i64 n] 28)).cell? ⟨w.heap.size, 1, none⟩ = some (.int .i64 p) := by go_cell
    have x2 : (w.alloc (.cells #[.int .i64 3, .int .i64 p, .bool b, .int .i64 n] 28)).cell? ⟨w.heap.size, 2, none⟩ = some (.bool b) := by go_cell
    have x3 : (w.alloc (.cells #[.int .i64 3, .int .i64 p, .bool b, .int .i64 n] 28)).cell? ⟨w.heap.size, 3, none⟩ = some (.int .i64 n) := by go_cell
    have X0 := Lib.hid x0
    have X1 := Lib.hid x1
    have X2 := Lib.hid x2
    have X3 := Lib.hid x3
    have hz : w.heap.size < (w.alloc (.cells #[.int .i64 3, .int .i64 p, .bool b, .int .i64 n] 28)).heap.size := by simp
    clear x0 x1 x2 x3
    have a1 := add_ok (P := Tryd.prog) ⟨#[111, 117, 116, 32]⟩ (decS n) (by show 4 + _ ≤ _; omega)
    go_enter Tryd.func20, Tryd.ntmps20
    go_wp2_with fail
    refine (implExitName_any _ _).mono ?_
    rintro e w1 ⟨rfl, k1⟩
    have y0 := (k1.cell0 (p := ⟨w.heap.size, 0, none⟩) (by exact hz)).trans X0.out
    have y1 := (k1.cell0 (p := ⟨w.heap.size, 1, none⟩) (by exact hz)).trans X1.out
    have y2 := (k1.cell0 (p := ⟨w.heap.size, 2, none⟩) (by exact hz)).trans X2.out
    have y3 := (k1.cell0 (p := ⟨w.heap.size, 3, none⟩) (by exact hz)).trans X3.out
    rw [show nameS 3 = ⟨#[111, 117, 116]⟩ from rfl]
    have K1 := k0.tr0 k1
    clear k1 k0 hz
    go_wp2_with fail
    refine (implDecimal_S _ (by assumption) (by assumption) _ (HT.out.keep K1)).mono ?_
    rintro e w2 ⟨rfl, k2⟩
    have z0 := (k2.cell0 (p := ⟨w.heap.size, 0, none⟩) (World.block_lt_of_cell? _ _ y0)).trans y0
    have z1 := (k2.cell0 (p := ⟨w.heap.size, 1, none⟩) (World.block_lt_of_cell? _ _ y1)).trans y1
    have z2 := (k2.cell0 (p := ⟨w.heap.size, 2, none⟩) (World.block_lt_of_cell? _ _ y2)).trans y2
    have z3 := (k2.cell0 (p := ⟨w.heap.size, 3, none⟩) (World.block_lt_of_cell? _ _ y3)).trans y3
    have K2 := K1.tr0 k2
    clear K1 k2 y0 y1 y2 y3
    go_wp2
    go_ret
    exact ⟨rfl, K2⟩
  · have HE := Lib.hid (exitS_else (k := k) p b n (by omega) (by omega) (by omega))
    have q1 : (k == 1) = false := ne_beq (by omega)
    have q2 : (k == 2) = false := ne_beq (by omega)
    have q3 : (k == 3) = false := ne_beq (by omega)
    clear hk
    have k0 := keep_1 w (.cells #[.int .i64 k, .int .i64 p, .bool b, .int .i64 n] 28)
    have x0 : (w.alloc (.cells #[.int .i64 k, .int .i64 p, .bool b, .int .i64 n] 28)).cell? ⟨w.heap.size, 0, none⟩ = some (.int .i64 k) := by go_cell
    have x1 : (w.alloc (.cells #[.int .i64 k, .int .i64 p, .bool b, .int .i64 n] 28)).cell? ⟨w.heap.size, 1, none⟩ = some (.int .i64 p) := by go_cell
    have x2 : (w.alloc (.cells #[.int .i64 k, .int .i64 p, .bool b, .int .i64 n] 28)).cell? ⟨w.heap.size, 2, none⟩ = some (.bool b) := by go_cell
    have x3 : (w.alloc (.cells #[.int .i64 k, .int .i64 p, .bool b, .int .i64 n] 28)).cell? ⟨w.heap.size, 3, none⟩ = some (.int .i64 n) := by go_cell
    have X0 := Lib.hid x0
    have X1 := Lib.hid x1
    have X2 := Lib.hid x2
    have X3 := Lib.hid x3
    have hz : w.heap.size < (w.alloc (.cells #[.int .i64 k, .int .i64 p, .bool b, .int .i64 n] 28)).heap.size := by simp
    clear x0 x1 x2 x3
    go_enter Tryd.func20, Tryd.ntmps20
    go_wp2_with fail
    refine (implExitName_any _ _).mono ?_
    rintro e w1 ⟨rfl, k1⟩
    have y0 := (k1.cell0 (p := ⟨w.heap.size, 0, none⟩) (by exact hz)).trans X0.out
    have y1 := (k1.cell0 (p := ⟨w.heap.size, 1, none⟩) (by exact hz)).trans X1.out
    have y2 := (k1.cell0 (p := ⟨w.heap.size, 2, none⟩) (by exact hz)).trans X2.out
    have y3 := (k1.cell0 (p := ⟨w.heap.size, 3, none⟩) (by exact hz)).trans X3.out
    have K1 := k0.tr0 k1
    clear k1 k0 hz
    go_wp2
    go_ret
    exact ⟨by rw [HE.out]; rfl, K1⟩
  · have hk2 : k < 0 ∨ 4 < k := by
      rcases inB_cases k 0 4 with ⟨h, _⟩ | ⟨_, h⟩
      · rw [hk] at h; cases h
      · exact h
    have HE := Lib.hid (exitS_else (k := k) p b n (by omega) (by omega) (by omega))
    have q1 : (k == 1) = false := ne_beq (by omega)
    have q2 : (k == 2) = false := ne_beq (by omega)
    have q3 : (k == 3) = false := ne_beq (by omega)
    clear hk hk2 hn
    have k0 := keep_1 w (.cells #[.int .i64 k, .int .i64 p, .bool b, .int .i64 n] 28)
    have x0 : (w.alloc (.cells #[.int .i64 k, .int .i64 p, .bool b, .int .i64 n] 28)).cell? ⟨w.heap.size, 0, none⟩ = some (.int .i64 k) := by go_cell
    have x1 : (w.alloc (.cells #[.int .i64 k, .int .i64 p, .bool b, .int .i64 n] 28)).cell? ⟨w.heap.size, 1, none⟩ = some (.int .i64 p) := by go_cell
    have x2 : (w.alloc (.cells #[.int .i64 k, .int .i64 p, .bool b, .int .i64 n] 28)).cell? ⟨w.heap.size, 2, none⟩ = some (.bool b) := by go_cell
    have x3 : (w.alloc (.cells #[.int .i64 k, .int .i64 p, .bool b, .int .i64 n] 28)).cell? ⟨w.heap.size, 3, none⟩ = some (.int .i64 n) := by go_cell
    have X0 := Lib.hid x0
    have X1 := Lib.hid x1
    have X2 := Lib.hid x2
    have X3 := Lib.hid x3
    have hz : w.heap.size < (w.alloc (.cells #[.int .i64 k, .int .i64 p, .bool b, .int .i64 n] 28)).heap.size := by simp
    clear x0 x1 x2 x3
    go_enter Tryd.func20, Tryd.ntmps20
    go_wp2_with fail
    refine (implExitName_any _ _).mono ?_
    rintro e w1 ⟨rfl, k1⟩
    have y0 := (k1.cell0 (p := ⟨w.heap.size, 0, none⟩) (by exact hz)).trans X0.out
    have y1 := (k1.cell0 (p := ⟨w.heap.size, 1, none⟩) (by exact hz)).trans X1.out
    have y2 := (k1.cell0 (p := ⟨w.heap.size, 2, none⟩) (by exact hz)).trans X2.out
    have y3 := (k1.cell0 (p := ⟨w.heap.size, 3, none⟩) (by exact hz)).trans X3.out
    have K1 := k0.tr0 k1
    clear k1 k0 hz
    go_wp2
    go_ret
    exact ⟨by rw [HE.out]; rfl, K1⟩
end Go.Proofs.YtdlcchoemladnaaDoor
