/-
  For every draw: two fault exits have one text exactly if they are one exit; a call's and an out's texts differ; all are valid. The card's condition alone: the library's table of powers of ten stands as its text lays it.
-/
import Derived.Test.YtdlcchoemladnaaDoorRows
import Derived.WalkKit
import Derived.ProofKit
import Derived.OpenShut
import Derived.ShutString
import Derived.ChangeOld
import Derived.Below
import Derived.Lib.SmallJoins
import Derived.WalkSpells
import Derived.Test.YtdlcchoemladnaaDoorCards
import Derived.Test.YtdlcchoemladnaaDoorTie
import Derived.Test.YtdlcchoemladnaaDoorExC
import Derived.Test.YtdlcchoemladnaaDoorPlc
import Derived.Test.YtdlcchoemladnaaDoorLoc
import Derived.Test.YtdlcchoemladnaaDoorOpen
import Derived.Test.YtdlcchoemladnaaDoorOne
import Derived.LaidMore
import Derived.Stop.Joined
import Derived.Stop.LaidErr
import Derived.MakeChecks
import Derived.SevenTiedAt
import Derived.Handy
import Derived.Deep.RegionHeld3
import Derived.Deep.QuietTactic
import Derived.BigQuiet
import Derived.Deep.Cut
import Derived.Deep.DeepCutAuto
namespace Go.Proofs.YtdlcchoemladnaaDoor.fnExitWords
open Go.ChangeShapes Go.WideShapes Go.ChangeAt Go.RowKit
set_option linter.unusedVariables false

theorem own : ownKnob Tryd.prog.godebug = none := by kernel_rfl
theorem laidOut : laidOutB Tryd.prog = true := by kernel_rfl

theorem gPowType : (Tryd.prog.globals[0]?).map (·.type) = some 73 := by kernel_rfl
theorem cells20 : Tryd.prog.cellsOf 73 = 20 := by kernel_rfl
theorem cells1 : Tryd.prog.cellsOf 66 = 1 := by kernel_rfl
theorem pow10_data : (Rows.laid_internal_strconv_uint64pow10 : DataW Unit) = Lib.tabData .u64 Lib.pow10Tab := by kernel_rfl
theorem table {W : World} (h : laidMetH Tryd.prog Rows.fnExitWordsRow.laid W) : Tab W := by
  rw [MakeChecks.laidMetH_plain _ _ _ (by kernel_rfl)] at h
  have h2 : laidMet Tryd.prog [("internal/strconv.uint64pow10", (Rows.laid_internal_strconv_uint64pow10 : DataW Unit))] W := h.tail.tail
  rw [pow10_data] at h2
  exact Lib.tabIs_of_head (rest := []) gPow gPowType Tryd.underlying73 Tryd.underlying66 cells1 cells20 h2

set_option maxRecDepth 100000 in
theorem walk_big (w : World) (A : Option Addr) (n c : Nat) (hc9 : n ≤ 9223372036854775807) (hbig : bigT n = true) :
    Calls Tryd.prog 4 #[.slice A n c] w fun e w' => e = .returned (.bool true) ∧ Below w.heap.size w w' := by
  go_enter Tryd.func4, Tryd.ntmps4
  go_wp2_with fail
  refine (big_any A n c hc9 _).mono ?_
  rintro e w' ⟨rfl, rfl⟩
  rw [hbig]
  go_wp2
  go_ret
  exact ⟨rfl, Below.refl _ _⟩
set_option maxRecDepth 100000 in
set_option maxHeartbeats 8000000 in
theorem walk (w : World) (A : Option Addr) (n c : Nat) (xs : List Int) (rb : Rd w w.heap.size 1 (.slice A n c) (byts xs)) (hl : xs.length = n) (ht : Tab w) :
    Calls Tryd.prog 4 #[.slice A n c] w fun e w' => e = .returned (.bool true) ∧ Below w.heap.size w w' := by
  have hc9 : n ≤ 9223372036854775807 := by obtain ⟨_, _, _, e, h1, h2, _⟩ := rb; injection e with _ e2 e3; unfold maxLen at h2; omega
  clear hl
  rcases Bool.eq_false_or_eq_true (bigT n) with hbig | hbig
  · exact walk_big w A n c hc9 hbig
  have HT := Lib.hid ht
  clear ht
  go_enter Tryd.func4, Tryd.ntmps4
  go_wp2_with fail
  refine (big_any A n c hc9 _).mono ?_
  rintro e w' ⟨rfl, rfl⟩
  rw [hbig]
  clear hbig
  go_wp2_with fail
  refine (DrawPlaces_any _ _ xs rb).mono ?_
  rintro e W1 ⟨v, l, rfl, hl, hx, hr, k1⟩
  obtain ⟨g, off, c1, p0, p1, p2, p3, p4, rfl, hg0, hg1, e0, e1, e2, e3, e4, ⟨b00, b01⟩, ⟨b10, b11⟩, ⟨b20, b21⟩, ⟨b30, b31⟩, ⟨b40, b41⟩⟩ := places_open hl hx hr
  clear hl hx hr hg0 hg1
  obtain ⟨x, hx, x0, x1⟩ : ∃ x, p0.tmod 4 = x ∧ 0 ≤ x ∧ x < 4 := ⟨_, rfl, by rw [Int.tmod_eq_emod_of_nonneg b00]; omega, by rw [Int.tmod_eq_emod_of_nonneg b00]; omega⟩
  obtain ⟨y, hy, y0, y1⟩ : ∃ y, p2.tmod 4 = y ∧ 0 ≤ y ∧ y < 4 := ⟨_, rfl, by rw [Int.tmod_eq_emod_of_nonneg b20]; omega, by rw [Int.tmod_eq_emod_of_nonneg b20]; omega⟩
  obtain ⟨b, hb⟩ : ∃ b, (p1.tmod 2 == 0) = b := ⟨_, rfl⟩
  obtain ⟨c, hc⟩ : ∃ c, (p3.tmod 2 == 0) = c := ⟨_, rfl⟩
  obtain ⟨m, hm, hm2, m0, m1⟩ : ∃ m, p4 % 100 = m ∧ p4.tmod 100 = m ∧ 0 ≤ m ∧ m ≤ 99 := ⟨_, rfl, Int.tmod_eq_emod_of_nonneg b40, by omega, by omega⟩
  have t1 : inB m 0 99 = true := inB_t m0 m1
  have HS := Lib.hid (show ∀ w1 w2 : World, (w1.cell? ⟨g, off, none⟩ = some (.int .i64 p0) ∧ w1.cell? ⟨g, off + 1, none⟩ = some (.int .i64 p1) ∧ w1.cell? ⟨g, off + 2, none⟩ = some (.int .i64 p2) ∧ w1.cell? ⟨g, off + 3, none⟩ = some (.int .i64 p3) ∧ w1.cell? ⟨g, off + 4, none⟩ = some (.int .i64 p4) ∧ Keep 0 0 W1 w1) → Keep 0 0 w1 w2 → (w2.cell? ⟨g, off, none⟩ = some (.int .i64 p0) ∧ w2.cell? ⟨g, off + 1, none⟩ = some (.int .i64 p1) ∧ w2.cell? ⟨g, off + 2, none⟩ = some (.int .i64 p2) ∧ w2.cell? ⟨g, off + 3, none⟩ = some (.int .i64 p3) ∧ w2.cell? ⟨g, off + 4, none⟩ = some (.int .i64 p4) ∧ Keep 0 0 W1 w2) from fun w1 w2 ⟨h0, h1, h2, h3, h4, h5⟩ k => ⟨(k.cell0 (p := ⟨g, off, none⟩) (World.block_lt_of_cell? _ _ h0)).trans h0, (k.cell0 (p := ⟨g, off + 1, none⟩) (World.block_lt_of_cell? _ _ h1)).trans h1, (k.cell0 (p := ⟨g, off + 2, none⟩) (World.block_lt_of_cell? _ _ h2)).trans h2, (k.cell0 (p := ⟨g, off + 3, none⟩) (World.block_lt_of_cell? _ _ h3)).trans h3, (k.cell0 (p := ⟨g, off + 4, none⟩) (World.block_lt_of_cell? _ _ h4)).trans h4, h5.tr0 k⟩)
  go_upto_region 4 with (fail)
  go_cut [4] (fun s4 wx => ∃ q : Nat, s4 = .pointer (some ⟨q, 0, none⟩) ∧ Lo wx q 28 #[.int .i64 1, .int .i64 x, .bool b, .int .i64 0] ∧ Keep 0 0 W1 wx)
  case first =>
    go_region_held3 (fun w' => w'.cell? ⟨g, off, none⟩ = some (.int .i64 p0) ∧ w'.cell? ⟨g, off + 1, none⟩ = some (.int .i64 p1) ∧ w'.cell? ⟨g, off + 2, none⟩ = some (.int .i64 p2) ∧ w'.cell? ⟨g, off + 3, none⟩ = some (.int .i64 p3) ∧ w'.cell? ⟨g, off + 4, none⟩ = some (.int .i64 p4) ∧ Keep 0 0 W1 w')
      (first | (refine HS.out ?_ _ ?_ ?_; rotate_right; (with_reducible assumption); (with_reducible assumption)) | (refine HS.out W1 _ ⟨e0, e1, e2, e3, e4, Keep.refl 0 0 W1⟩ ?_; repeat' (first | (with_reducible exact Keep.refl 0 0 _) | (with_reducible exact ((Keep.refl 0 0 W1).drew).tr0 k2) | (with_reducible exact (((Keep.refl 0 0 W1).alloc _).drew).tr0 k2) | (with_reducible refine Keep.alloc ?_ _) | (with_reducible refine Keep.drew ?_) | (with_reducible refine Keep.setCell ?_ (.inr (Nat.le_refl _)) _))) | fail)
      (first
        | (go_at_call 12; refine (implFaultExit_any _ _ _).mono ?_; rintro e w2 ⟨rfl, k2⟩; try (have zz := boxed4 k2; obtain ⟨z0, z1, z2, z3, u0, u1, u2, u3⟩ := Lo.c4 zz))
        | fail)
    all_goals
      go_wp2_with fail
      go_meet
      first
        | exact ⟨_, rfl, Lo.new w2 28 #[.int .i64 1, .int .i64 x, .bool b, .int .i64 0] rfl, ((((Keep.refl 0 0 W1).drew).tr0 k2).alloc _)⟩
        | exact ⟨_, rfl, zz.set4, by repeat' (first | (with_reducible exact Keep.refl 0 0 _) | (with_reducible exact ((Keep.refl 0 0 W1).drew).tr0 k2) | (with_reducible exact (((Keep.refl 0 0 W1).alloc _).drew).tr0 k2) | (with_reducible refine Keep.alloc ?_ _) | (with_reducible refine Keep.drew ?_) | (with_reducible refine Keep.setCell ?_ (.inr (Nat.le_refl _)) _))⟩
  case rest =>
  obtain ⟨qa, rfl, Bqa, jqa⟩ := hcut
  generalize wc = W2 at Bqa jqa ⊢
  clear HS
  replace e0 := jqa.cells (World.block_lt_of_cell? _ _ e0) e0
  replace e1 := jqa.cells (World.block_lt_of_cell? _ _ e1) e1
  replace e2 := jqa.cells (World.block_lt_of_cell? _ _ e2) e2
  replace e3 := jqa.cells (World.block_lt_of_cell? _ _ e3) e3
  replace e4 := jqa.cells (World.block_lt_of_cell? _ _ e4) e4
  have HS := Lib.hid (show ∀ w1 w2 : World, (w1.cell? ⟨g, off, none⟩ = some (.int .i64 p0) ∧ w1.cell? ⟨g, off + 1, none⟩ = some (.int .i64 p1) ∧ w1.cell? ⟨g, off + 2, none⟩ = some (.int .i64 p2) ∧ w1.cell? ⟨g, off + 3, none⟩ = some (.int .i64 p3) ∧ w1.cell? ⟨g, off + 4, none⟩ = some (.int .i64 p4) ∧ Keep 0 0 W2 w1) → Keep 0 0 w1 w2 → (w2.cell? ⟨g, off, none⟩ = some (.int .i64 p0) ∧ w2.cell? ⟨g, off + 1, none⟩ = some (.int .i64 p1) ∧ w2.cell? ⟨g, off + 2, none⟩ = some (.int .i64 p2) ∧ w2.cell? ⟨g, off + 3, none⟩ = some (.int .i64 p3) ∧ w2.cell? ⟨g, off + 4, none⟩ = some (.int .i64 p4) ∧ Keep 0 0 W2 w2) from fun w1 w2 ⟨h0, h1, h2, h3, h4, h5⟩ k => ⟨(k.cell0 (p := ⟨g, off, none⟩) (World.block_lt_of_cell? _ _ h0)).trans h0, (k.cell0 (p := ⟨g, off + 1, none⟩) (World.block_lt_of_cell? _ _ h1)).trans h1, (k.cell0 (p := ⟨g, off + 2, none⟩) (World.block_lt_of_cell? _ _ h2)).trans h2, (k.cell0 (p := ⟨g, off + 3, none⟩) (World.block_lt_of_cell? _ _ h3)).trans h3, (k.cell0 (p := ⟨g, off + 4, none⟩) (World.block_lt_of_cell? _ _ h4)).trans h4, h5.tr0 k⟩)
  go_upto_region 5 with (fail)
  go_cut [5] (fun s4 wx => ∃ q : Nat, s4 = .pointer (some ⟨q, 0, none⟩) ∧ Lo wx q 28 #[.int .i64 1, .int .i64 y, .bool c, .int .i64 0] ∧ Keep 0 0 W2 wx)
  case first =>
    go_region_held3 (fun w' => w'.cell? ⟨g, off, none⟩ = some (.int .i64 p0) ∧ w'.cell? ⟨g, off + 1, none⟩ = some (.int .i64 p1) ∧ w'.cell? ⟨g, off + 2, none⟩ = some (.int .i64 p2) ∧ w'.cell? ⟨g, off + 3, none⟩ = some (.int .i64 p3) ∧ w'.cell? ⟨g, off + 4, none⟩ = some (.int .i64 p4) ∧ Keep 0 0 W2 w')
      (first | (refine HS.out ?_ _ ?_ ?_; rotate_right; (with_reducible assumption); (with_reducible assumption)) | (refine HS.out W2 _ ⟨e0, e1, e2, e3, e4, Keep.refl 0 0 W2⟩ ?_; repeat' (first | (with_reducible exact Keep.refl 0 0 _) | (with_reducible exact ((Keep.refl 0 0 W2).drew).tr0 k2) | (with_reducible exact (((Keep.refl 0 0 W2).alloc _).drew).tr0 k2) | (with_reducible refine Keep.alloc ?_ _) | (with_reducible refine Keep.drew ?_) | (with_reducible refine Keep.setCell ?_ (.inr (Nat.le_refl _)) _))) | fail)
      (first
        | (go_at_call 12; refine (implFaultExit_any _ _ _).mono ?_; rintro e w2 ⟨rfl, k2⟩; try (have zz := boxed4 k2; obtain ⟨z0, z1, z2, z3, u0, u1, u2, u3⟩ := Lo.c4 zz))
        | fail)
    all_goals
      go_wp2_with fail
      go_meet
      first
        | exact ⟨_, rfl, Lo.new w2 28 #[.int .i64 1, .int .i64 y, .bool c, .int .i64 0] rfl, ((((Keep.refl 0 0 W2).drew).tr0 k2).alloc _)⟩
        | exact ⟨_, rfl, zz.set4, by repeat' (first | (with_reducible exact Keep.refl 0 0 _) | (with_reducible exact ((Keep.refl 0 0 W2).drew).tr0 k2) | (with_reducible exact (((Keep.refl 0 0 W2).alloc _).drew).tr0 k2) | (with_reducible refine Keep.alloc ?_ _) | (with_reducible refine Keep.drew ?_) | (with_reducible refine Keep.setCell ?_ (.inr (Nat.le_refl _)) _))⟩
  case rest =>
  obtain ⟨qb, rfl, Bqb, jqb⟩ := hcut
  generalize wc = W3 at Bqb jqb ⊢
  clear HS
  replace e0 := jqb.cells (World.block_lt_of_cell? _ _ e0) e0
  replace e1 := jqb.cells (World.block_lt_of_cell? _ _ e1) e1
  replace e2 := jqb.cells (World.block_lt_of_cell? _ _ e2) e2
  replace e3 := jqb.cells (World.block_lt_of_cell? _ _ e3) e3
  replace e4 := jqb.cells (World.block_lt_of_cell? _ _ e4) e4
  have A1 := Bqa.keep0 jqb
  have HA := Lib.hid A1
  have HB := Lib.hid Bqb
  have K3 := (k1.tr0 jqa).tr0 jqb
  clear A1 Bqa Bqb jqa jqb k1 e0 e1 e2 e3 hx hy hb hc b00 b01 b10 b11 b20 b21 b30 b31
  go_wp2_with fail
  refine (implCallExit_any _ _).mono ?_
  rintro e W4 ⟨rfl, k4⟩
  have k5 := k4.alloc (.cells #[.int .i64 2, .int .i64 0, .bool false, .int .i64 m] 28)
  have HC := Lib.hid (Lo.new W4 28 #[.int .i64 2, .int .i64 0, .bool false, .int .i64 m] rfl)
  replace e4 := k5.cells (World.block_lt_of_cell? _ _ e4) e4
  go_wp2_with fail
  refine (implOutExit_any _ _).mono ?_
  rintro e W5 ⟨rfl, k6⟩
  have k7 := k6.alloc (.cells #[.int .i64 3, .int .i64 0, .bool false, .int .i64 m] 28)
  have HD := Lib.hid (Lo.new W5 28 #[.int .i64 3, .int .i64 0, .bool false, .int .i64 m] rfl)
  replace e4 := k7.cells (World.block_lt_of_cell? _ _ e4) e4
  have H1 := Lib.hid ((HA.out.keep0 k5).keep0 k7)
  have H2 := Lib.hid ((HB.out.keep0 k5).keep0 k7)
  have H3 := Lib.hid (HC.out.keep0 k7)
  have K8 := Lib.hid ((K3.tr0 k5).tr0 k7)
  have E4 := Lib.hid e4
  clear k4 k5 k6 k7 K3 HA HB HC e4
  go_upto_region 8 with (fail)
  generalize W5.alloc (.cells #[.int .i64 3, .int .i64 0, .bool false, .int .i64 m] 28) = V at HD H1 H2 H3 K8 E4 ⊢
  generalize W5.heap.size = qd at HD ⊢
  generalize W4.heap.size = qc at H3 ⊢
  have xs : (x = y ∧ b = c) ∨ (¬ (x = y ∧ b = c)) := Classical.em _
  have TV0 := Lib.hid (HT.out.keep K8.out)
  have hxy : x = y ∨ ¬ x = y := Classical.em _
  have hcs : (y = x ∧ c = b) ∨ ¬ x = y ∨ (y = x ∧ c = !b) := by
    rcases hxy with rfl | h
    · cases b <;> cases c <;> simp
    · exact .inr (.inl h)
  clear xs hxy HT
  rcases hcs with ⟨rfl, rfl⟩ | hne | ⟨rfl, rfl⟩
  · have q1 : exitOkT 1 y c 0 = true := by simp [exitOkT]; exact inB_t y0 (by omega)
    have q2 : exitOkT 2 0 false m = true := by simp [exitOkT]; exact t1
    have q3 : exitOkT 3 0 false m = true := by simp [exitOkT]; exact t1
    have n2 : ((exitS 2 0 false m).toList == (exitS 3 0 false m).toList) = false := str_ne (call_out m)
    obtain ⟨a0, a1, a2, a3, _⟩ := H1.out.c4
    obtain ⟨d0, d1, d2, d3, _⟩ := H2.out.c4
    obtain ⟨f0, f1, f2, f3, _⟩ := H3.out.c4
    obtain ⟨g0, g1, g2, g3, _⟩ := HD.out.c4
    have e4 := E4.out
    have HS := Lib.hid (show ∀ w1 w2 : World, (w1.cell? ⟨qa, 0, none⟩ = some (.int .i64 1) ∧ w1.cell? ⟨qa, 1, none⟩ = some (.int .i64 y) ∧ w1.cell? ⟨qa, 2, none⟩ = some (.bool c) ∧ w1.cell? ⟨qa, 3, none⟩ = some (.int .i64 0) ∧ w1.cell? ⟨qb, 0, none⟩ = some (.int .i64 1) ∧ w1.cell? ⟨qb, 1, none⟩ = some (.int .i64 y) ∧ w1.cell? ⟨qb, 2, none⟩ = some (.bool c) ∧ w1.cell? ⟨qb, 3, none⟩ = some (.int .i64 0) ∧ w1.cell? ⟨qc, 0, none⟩ = some (.int .i64 2) ∧ w1.cell? ⟨qc, 1, none⟩ = some (.int .i64 0) ∧ w1.cell? ⟨qc, 2, none⟩ = some (.bool false) ∧ w1.cell? ⟨qc, 3, none⟩ = some (.int .i64 m) ∧ w1.cell? ⟨qd, 0, none⟩ = some (.int .i64 3) ∧ w1.cell? ⟨qd, 1, none⟩ = some (.int .i64 0) ∧ w1.cell? ⟨qd, 2, none⟩ = some (.bool false) ∧ w1.cell? ⟨qd, 3, none⟩ = some (.int .i64 m) ∧ w1.cell? ⟨g, off + 4, none⟩ = some (.int .i64 p4) ∧ Keep 0 0 V w1) → Keep 0 0 w1 w2 → (w2.cell? ⟨qa, 0, none⟩ = some (.int .i64 1) ∧ w2.cell? ⟨qa, 1, none⟩ = some (.int .i64 y) ∧ w2.cell? ⟨qa, 2, none⟩ = some (.bool c) ∧ w2.cell? ⟨qa, 3, none⟩ = some (.int .i64 0) ∧ w2.cell? ⟨qb, 0, none⟩ = some (.int .i64 1) ∧ w2.cell? ⟨qb, 1, none⟩ = some (.int .i64 y) ∧ w2.cell? ⟨qb, 2, none⟩ = some (.bool c) ∧ w2.cell? ⟨qb, 3, none⟩ = some (.int .i64 0) ∧ w2.cell? ⟨qc, 0, none⟩ = some (.int .i64 2) ∧ w2.cell? ⟨qc, 1, none⟩ = some (.int .i64 0) ∧ w2.cell? ⟨qc, 2, none⟩ = some (.bool false) ∧ w2.cell? ⟨qc, 3, none⟩ = some (.int .i64 m) ∧ w2.cell? ⟨qd, 0, none⟩ = some (.int .i64 3) ∧ w2.cell? ⟨qd, 1, none⟩ = some (.int .i64 0) ∧ w2.cell? ⟨qd, 2, none⟩ = some (.bool false) ∧ w2.cell? ⟨qd, 3, none⟩ = some (.int .i64 m) ∧ w2.cell? ⟨g, off + 4, none⟩ = some (.int .i64 p4) ∧ Keep 0 0 V w2) from fun w1 w2 ⟨h0, h1, h2, h3, h4, h5, h6, h7, h8, h9, h10, h11, h12, h13, h14, h15, h16, h17⟩ k => ⟨(k.cell0 (p := ⟨qa, 0, none⟩) (World.block_lt_of_cell? _ _ h0)).trans h0, (k.cell0 (p := ⟨qa, 1, none⟩) (World.block_lt_of_cell? _ _ h1)).trans h1, (k.cell0 (p := ⟨qa, 2, none⟩) (World.block_lt_of_cell? _ _ h2)).trans h2, (k.cell0 (p := ⟨qa, 3, none⟩) (World.block_lt_of_cell? _ _ h3)).trans h3, (k.cell0 (p := ⟨qb, 0, none⟩) (World.block_lt_of_cell? _ _ h4)).trans h4, (k.cell0 (p := ⟨qb, 1, none⟩) (World.block_lt_of_cell? _ _ h5)).trans h5, (k.cell0 (p := ⟨qb, 2, none⟩) (World.block_lt_of_cell? _ _ h6)).trans h6, (k.cell0 (p := ⟨qb, 3, none⟩) (World.block_lt_of_cell? _ _ h7)).trans h7, (k.cell0 (p := ⟨qc, 0, none⟩) (World.block_lt_of_cell? _ _ h8)).trans h8, (k.cell0 (p := ⟨qc, 1, none⟩) (World.block_lt_of_cell? _ _ h9)).trans h9, (k.cell0 (p := ⟨qc, 2, none⟩) (World.block_lt_of_cell? _ _ h10)).trans h10, (k.cell0 (p := ⟨qc, 3, none⟩) (World.block_lt_of_cell? _ _ h11)).trans h11, (k.cell0 (p := ⟨qd, 0, none⟩) (World.block_lt_of_cell? _ _ h12)).trans h12, (k.cell0 (p := ⟨qd, 1, none⟩) (World.block_lt_of_cell? _ _ h13)).trans h13, (k.cell0 (p := ⟨qd, 2, none⟩) (World.block_lt_of_cell? _ _ h14)).trans h14, (k.cell0 (p := ⟨qd, 3, none⟩) (World.block_lt_of_cell? _ _ h15)).trans h15, (k.cell0 (p := ⟨g, off + 4, none⟩) (World.block_lt_of_cell? _ _ h16)).trans h16, h17.tr0 k⟩)
    have HV := Lib.hid (show ∀ w1 : World, (w1.cell? ⟨qa, 0, none⟩ = some (.int .i64 1) ∧ w1.cell? ⟨qa, 1, none⟩ = some (.int .i64 y) ∧ w1.cell? ⟨qa, 2, none⟩ = some (.bool c) ∧ w1.cell? ⟨qa, 3, none⟩ = some (.int .i64 0) ∧ w1.cell? ⟨qb, 0, none⟩ = some (.int .i64 1) ∧ w1.cell? ⟨qb, 1, none⟩ = some (.int .i64 y) ∧ w1.cell? ⟨qb, 2, none⟩ = some (.bool c) ∧ w1.cell? ⟨qb, 3, none⟩ = some (.int .i64 0) ∧ w1.cell? ⟨qc, 0, none⟩ = some (.int .i64 2) ∧ w1.cell? ⟨qc, 1, none⟩ = some (.int .i64 0) ∧ w1.cell? ⟨qc, 2, none⟩ = some (.bool false) ∧ w1.cell? ⟨qc, 3, none⟩ = some (.int .i64 m) ∧ w1.cell? ⟨qd, 0, none⟩ = some (.int .i64 3) ∧ w1.cell? ⟨qd, 1, none⟩ = some (.int .i64 0) ∧ w1.cell? ⟨qd, 2, none⟩ = some (.bool false) ∧ w1.cell? ⟨qd, 3, none⟩ = some (.int .i64 m) ∧ w1.cell? ⟨g, off + 4, none⟩ = some (.int .i64 p4) ∧ Keep 0 0 V w1) → Tab w1 from fun w1 ⟨_, _, _, _, _, _, _, _, _, _, _, _, _, _, _, _, _, k⟩ => TV0.out.keep k)
    go_region_held3 (fun w' => w'.cell? ⟨qa, 0, none⟩ = some (.int .i64 1) ∧ w'.cell? ⟨qa, 1, none⟩ = some (.int .i64 y) ∧ w'.cell? ⟨qa, 2, none⟩ = some (.bool c) ∧ w'.cell? ⟨qa, 3, none⟩ = some (.int .i64 0) ∧ w'.cell? ⟨qb, 0, none⟩ = some (.int .i64 1) ∧ w'.cell? ⟨qb, 1, none⟩ = some (.int .i64 y) ∧ w'.cell? ⟨qb, 2, none⟩ = some (.bool c) ∧ w'.cell? ⟨qb, 3, none⟩ = some (.int .i64 0) ∧ w'.cell? ⟨qc, 0, none⟩ = some (.int .i64 2) ∧ w'.cell? ⟨qc, 1, none⟩ = some (.int .i64 0) ∧ w'.cell? ⟨qc, 2, none⟩ = some (.bool false) ∧ w'.cell? ⟨qc, 3, none⟩ = some (.int .i64 m) ∧ w'.cell? ⟨qd, 0, none⟩ = some (.int .i64 3) ∧ w'.cell? ⟨qd, 1, none⟩ = some (.int .i64 0) ∧ w'.cell? ⟨qd, 2, none⟩ = some (.bool false) ∧ w'.cell? ⟨qd, 3, none⟩ = some (.int .i64 m) ∧ w'.cell? ⟨g, off + 4, none⟩ = some (.int .i64 p4) ∧ Keep 0 0 V w')
      (first | (refine HS.out ?_ _ ?_ ?_; rotate_right; (with_reducible assumption); (with_reducible assumption)) | (exact HS.out V _ ⟨a0, a1, a2, a3, d0, d1, d2, d3, f0, f1, f2, f3, g0, g1, g2, g3, e4, Keep.refl 0 0 V⟩ (Keep.refl 0 0 V).drew) | fail)
      (first
        | (go_at_call 20; refine (implExitText_any _ _ _ _ (by omega) (by omega) (by omega) (by omega) _ ?_).mono ?_; (refine HV.out _ ?_; with_reducible assumption); (rintro e w2 ⟨rfl, k2⟩))
        | (go_at_call 18; refine (implExitOk_any _ _ _ _ _).mono ?_; rintro e w2 ⟨rfl, k2⟩)
        | fail)
    obtain ⟨_, _, _, _, _, _, _, _, _, _, _, _, _, _, _, _, _, K9⟩ : w2.cell? ⟨qa, 0, none⟩ = some (.int .i64 1) ∧ w2.cell? ⟨qa, 1, none⟩ = some (.int .i64 y) ∧ w2.cell? ⟨qa, 2, none⟩ = some (.bool c) ∧ w2.cell? ⟨qa, 3, none⟩ = some (.int .i64 0) ∧ w2.cell? ⟨qb, 0, none⟩ = some (.int .i64 1) ∧ w2.cell? ⟨qb, 1, none⟩ = some (.int .i64 y) ∧ w2.cell? ⟨qb, 2, none⟩ = some (.bool c) ∧ w2.cell? ⟨qb, 3, none⟩ = some (.int .i64 0) ∧ w2.cell? ⟨qc, 0, none⟩ = some (.int .i64 2) ∧ w2.cell? ⟨qc, 1, none⟩ = some (.int .i64 0) ∧ w2.cell? ⟨qc, 2, none⟩ = some (.bool false) ∧ w2.cell? ⟨qc, 3, none⟩ = some (.int .i64 m) ∧ w2.cell? ⟨qd, 0, none⟩ = some (.int .i64 3) ∧ w2.cell? ⟨qd, 1, none⟩ = some (.int .i64 0) ∧ w2.cell? ⟨qd, 2, none⟩ = some (.bool false) ∧ w2.cell? ⟨qd, 3, none⟩ = some (.int .i64 m) ∧ w2.cell? ⟨g, off + 4, none⟩ = some (.int .i64 p4) ∧ Keep 0 0 V w2 := by with_reducible assumption
    go_wp2
    go_ret
    exact ⟨rfl, (K8.out.tr0 K9).below⟩
  · have q1 : exitOkT 1 x b 0 = true := by simp [exitOkT]; exact inB_t x0 (by omega)
    have q2 : exitOkT 2 0 false m = true := by simp [exitOkT]; exact t1
    have q3 : exitOkT 3 0 false m = true := by simp [exitOkT]; exact t1
    have n2 : ((exitS 2 0 false m).toList == (exitS 3 0 false m).toList) = false := str_ne (call_out m)
    have n5 : ((exitS 1 x b 0).toList == (exitS 1 y c 0).toList) = false := str_ne fun h => hne (fault_inj x y b c x0 x1 y0 y1 h).1
    have n6 : (x == y) = false := by simpa using hne
    obtain ⟨a0, a1, a2, a3, _⟩ := H1.out.c4
    obtain ⟨d0, d1, d2, d3, _⟩ := H2.out.c4
    obtain ⟨f0, f1, f2, f3, _⟩ := H3.out.c4
    obtain ⟨g0, g1, g2, g3, _⟩ := HD.out.c4
    have e4 := E4.out
    have HS := Lib.hid (show ∀ w1 w2 : World, (w1.cell? ⟨qa, 0, none⟩ = some (.int .i64 1) ∧ w1.cell? ⟨qa, 1, none⟩ = some (.int .i64 x) ∧ w1.cell? ⟨qa, 2, none⟩ = some (.bool b) ∧ w1.cell? ⟨qa, 3, none⟩ = some (.int .i64 0) ∧ w1.cell? ⟨qb, 0, none⟩ = some (.int .i64 1) ∧ w1.cell? ⟨qb, 1, none⟩ = some (.int .i64 y) ∧ w1.cell? ⟨qb, 2, none⟩ = some (.bool c) ∧ w1.cell? ⟨qb, 3, none⟩ = some (.int .i64 0) ∧ w1.cell? ⟨qc, 0, none⟩ = some (.int .i64 2) ∧ w1.cell? ⟨qc, 1, none⟩ = some (.int .i64 0) ∧ w1.cell? ⟨qc, 2, none⟩ = some (.bool false) ∧ w1.cell? ⟨qc, 3, none⟩ = some (.int .i64 m) ∧ w1.cell? ⟨qd, 0, none⟩ = some (.int .i64 3) ∧ w1.cell? ⟨qd, 1, none⟩ = some (.int .i64 0) ∧ w1.cell? ⟨qd, 2, none⟩ = some (.bool false) ∧ w1.cell? ⟨qd, 3, none⟩ = some (.int .i64 m) ∧ w1.cell? ⟨g, off + 4, none⟩ = some (.int .i64 p4) ∧ Keep 0 0 V w1) → Keep 0 0 w1 w2 → (w2.cell? ⟨qa, 0, none⟩ = some (.int .i64 1) ∧ w2.cell? ⟨qa, 1, none⟩ = some (.int .i64 x) ∧ w2.cell? ⟨qa, 2, none⟩ = some (.bool b) ∧ w2.cell? ⟨qa, 3, none⟩ = some (.int .i64 0) ∧ w2.cell? ⟨qb, 0, none⟩ = some (.int .i64 1) ∧ w2.cell? ⟨qb, 1, none⟩ = some (.int .i64 y) ∧ w2.cell? ⟨qb, 2, none⟩ = some (.bool c) ∧ w2.cell? ⟨qb, 3, none⟩ = some (.int .i64 0) ∧ w2.cell? ⟨qc, 0, none⟩ = some (.int .i64 2) ∧ w2.cell? ⟨qc, 1, none⟩ = some (.int .i64 0) ∧ w2.cell? ⟨qc, 2, none⟩ = some (.bool false) ∧ w2.cell? ⟨qc, 3, none⟩ = some (.int .i64 m) ∧ w2.cell? ⟨qd, 0, none⟩ = some (.int .i64 3) ∧ w2.cell? ⟨qd, 1, none⟩ = some (.int .i64 0) ∧ w2.cell? ⟨qd, 2, none⟩ = some (.bool false) ∧ w2.cell? ⟨qd, 3, none⟩ = some (.int .i64 m) ∧ w2.cell? ⟨g, off + 4, none⟩ = some (.int .i64 p4) ∧ Keep 0 0 V w2) from fun w1 w2 ⟨h0, h1, h2, h3, h4, h5, h6, h7, h8, h9, h10, h11, h12, h13, h14, h15, h16, h17⟩ k => ⟨(k.cell0 (p := ⟨qa, 0, none⟩) (World.block_lt_of_cell? _ _ h0)).trans h0, (k.cell0 (p := ⟨qa, 1, none⟩) (World.block_lt_of_cell? _ _ h1)).trans h1, (k.cell0 (p := ⟨qa, 2, none⟩) (World.block_lt_of_cell? _ _ h2)).trans h2, (k.cell0 (p := ⟨qa, 3, none⟩) (World.block_lt_of_cell? _ _ h3)).trans h3, (k.cell0 (p := ⟨qb, 0, none⟩) (World.block_lt_of_cell? _ _ h4)).trans h4, (k.cell0 (p := ⟨qb, 1, none⟩) (World.block_lt_of_cell? _ _ h5)).trans h5, (k.cell0 (p := ⟨qb, 2, none⟩) (World.block_lt_of_cell? _ _ h6)).trans h6, (k.cell0 (p := ⟨qb, 3, none⟩) (World.block_lt_of_cell? _ _ h7)).trans h7, (k.cell0 (p := ⟨qc, 0, none⟩) (World.block_lt_of_cell? _ _ h8)).trans h8, (k.cell0 (p := ⟨qc, 1, none⟩) (World.block_lt_of_cell? _ _ h9)).trans h9, (k.cell0 (p := ⟨qc, 2, none⟩) (World.block_lt_of_cell? _ _ h10)).trans h10, (k.cell0 (p := ⟨qc, 3, none⟩) (World.block_lt_of_cell? _ _ h11)).trans h11, (k.cell0 (p := ⟨qd, 0, none⟩) (World.block_lt_of_cell? _ _ h12)).trans h12, (k.cell0 (p := ⟨qd, 1, none⟩) (World.block_lt_of_cell? _ _ h13)).trans h13, (k.cell0 (p := ⟨qd, 2, none⟩) (World.block_lt_of_cell? _ _ h14)).trans h14, (k.cell0 (p := ⟨qd, 3, none⟩) (World.block_lt_of_cell? _ _ h15)).trans h15, (k.cell0 (p := ⟨g, off + 4, none⟩) (World.block_lt_of_cell? _ _ h16)).trans h16, h17.tr0 k⟩)
    have HV := Lib.hid (show ∀ w1 : World, (w1.cell? ⟨qa, 0, none⟩ = some (.int .i64 1) ∧ w1.cell? ⟨qa, 1, none⟩ = some (.int .i64 x) ∧ w1.cell? ⟨qa, 2, none⟩ = some (.bool b) ∧ w1.cell? ⟨qa, 3, none⟩ = some (.int .i64 0) ∧ w1.cell? ⟨qb, 0, none⟩ = some (.int .i64 1) ∧ w1.cell? ⟨qb, 1, none⟩ = some (.int .i64 y) ∧ w1.cell? ⟨qb, 2, none⟩ = some (.bool c) ∧ w1.cell? ⟨qb, 3, none⟩ = some (.int .i64 0) ∧ w1.cell? ⟨qc, 0, none⟩ = some (.int .i64 2) ∧ w1.cell? ⟨qc, 1, none⟩ = some (.int .i64 0) ∧ w1.cell? ⟨qc, 2, none⟩ = some (.bool false) ∧ w1.cell? ⟨qc, 3, none⟩ = some (.int .i64 m) ∧ w1.cell? ⟨qd, 0, none⟩ = some (.int .i64 3) ∧ w1.cell? ⟨qd, 1, none⟩ = some (.int .i64 0) ∧ w1.cell? ⟨qd, 2, none⟩ = some (.bool false) ∧ w1.cell? ⟨qd, 3, none⟩ = some (.int .i64 m) ∧ w1.cell? ⟨g, off + 4, none⟩ = some (.int .i64 p4) ∧ Keep 0 0 V w1) → Tab w1 from fun w1 ⟨_, _, _, _, _, _, _, _, _, _, _, _, _, _, _, _, _, k⟩ => TV0.out.keep k)
    go_region_held3 (fun w' => w'.cell? ⟨qa, 0, none⟩ = some (.int .i64 1) ∧ w'.cell? ⟨qa, 1, none⟩ = some (.int .i64 x) ∧ w'.cell? ⟨qa, 2, none⟩ = some (.bool b) ∧ w'.cell? ⟨qa, 3, none⟩ = some (.int .i64 0) ∧ w'.cell? ⟨qb, 0, none⟩ = some (.int .i64 1) ∧ w'.cell? ⟨qb, 1, none⟩ = some (.int .i64 y) ∧ w'.cell? ⟨qb, 2, none⟩ = some (.bool c) ∧ w'.cell? ⟨qb, 3, none⟩ = some (.int .i64 0) ∧ w'.cell? ⟨qc, 0, none⟩ = some (.int .i64 2) ∧ w'.cell? ⟨qc, 1, none⟩ = some (.int .i64 0) ∧ w'.cell? ⟨qc, 2, none⟩ = some (.bool false) ∧ w'.cell? ⟨qc, 3, none⟩ = some (.int .i64 m) ∧ w'.cell? ⟨qd, 0, none⟩ = some (.int .i64 3) ∧ w'.cell? ⟨qd, 1, none⟩ = some (.int .i64 0) ∧ w'.cell? ⟨qd, 2, none⟩ = some (.bool false) ∧ w'.cell? ⟨qd, 3, none⟩ = some (.int .i64 m) ∧ w'.cell? ⟨g, off + 4, none⟩ = some (.int .i64 p4) ∧ Keep 0 0 V w')
      (first | (refine HS.out ?_ _ ?_ ?_; rotate_right; (with_reducible assumption); (with_reducible assumption)) | (exact HS.out V _ ⟨a0, a1, a2, a3, d0, d1, d2, d3, f0, f1, f2, f3, g0, g1, g2, g3, e4, Keep.refl 0 0 V⟩ (Keep.refl 0 0 V).drew) | fail)
      (first
        | (go_at_call 20; refine (implExitText_any _ _ _ _ (by omega) (by omega) (by omega) (by omega) _ ?_).mono ?_; (refine HV.out _ ?_; with_reducible assumption); (rintro e w2 ⟨rfl, k2⟩))
        | (go_at_call 18; refine (implExitOk_any _ _ _ _ _).mono ?_; rintro e w2 ⟨rfl, k2⟩)
        | fail)
    obtain ⟨_, _, _, _, _, _, _, _, _, _, _, _, _, _, _, _, _, K9⟩ : w2.cell? ⟨qa, 0, none⟩ = some (.int .i64 1) ∧ w2.cell? ⟨qa, 1, none⟩ = some (.int .i64 x) ∧ w2.cell? ⟨qa, 2, none⟩ = some (.bool b) ∧ w2.cell? ⟨qa, 3, none⟩ = some (.int .i64 0) ∧ w2.cell? ⟨qb, 0, none⟩ = some (.int .i64 1) ∧ w2.cell? ⟨qb, 1, none⟩ = some (.int .i64 y) ∧ w2.cell? ⟨qb, 2, none⟩ = some (.bool c) ∧ w2.cell? ⟨qb, 3, none⟩ = some (.int .i64 0) ∧ w2.cell? ⟨qc, 0, none⟩ = some (.int .i64 2) ∧ w2.cell? ⟨qc, 1, none⟩ = some (.int .i64 0) ∧ w2.cell? ⟨qc, 2, none⟩ = some (.bool false) ∧ w2.cell? ⟨qc, 3, none⟩ = some (.int .i64 m) ∧ w2.cell? ⟨qd, 0, none⟩ = some (.int .i64 3) ∧ w2.cell? ⟨qd, 1, none⟩ = some (.int .i64 0) ∧ w2.cell? ⟨qd, 2, none⟩ = some (.bool false) ∧ w2.cell? ⟨qd, 3, none⟩ = some (.int .i64 m) ∧ w2.cell? ⟨g, off + 4, none⟩ = some (.int .i64 p4) ∧ Keep 0 0 V w2 := by with_reducible assumption
    go_wp2
    go_ret
    exact ⟨rfl, (K8.out.tr0 K9).below⟩
  · have q1 : exitOkT 1 y b 0 = true := by simp [exitOkT]; exact inB_t y0 (by omega)
    have q2 : exitOkT 2 0 false m = true := by simp [exitOkT]; exact t1
    have q3 : exitOkT 3 0 false m = true := by simp [exitOkT]; exact t1
    have n2 : ((exitS 2 0 false m).toList == (exitS 3 0 false m).toList) = false := str_ne (call_out m)
    have n5 : ((exitS 1 y b 0).toList == (exitS 1 y (!b) 0).toList) = false := str_ne fun h => by have := (fault_inj y y b (!b) y0 y1 y0 y1 h).2; cases b <;> cases this
    obtain ⟨a0, a1, a2, a3, _⟩ := H1.out.c4
    obtain ⟨d0, d1, d2, d3, _⟩ := H2.out.c4
    obtain ⟨f0, f1, f2, f3, _⟩ := H3.out.c4
    obtain ⟨g0, g1, g2, g3, _⟩ := HD.out.c4
    have e4 := E4.out
    have HS := Lib.hid (show ∀ w1 w2 : World, (w1.cell? ⟨qa, 0, none⟩ = some (.int .i64 1) ∧ w1.cell? ⟨qa, 1, none⟩ = some (.int .i64 y) ∧ w1.cell? ⟨qa, 2, none⟩ = some (.bool b) ∧ w1.cell? ⟨qa, 3, none⟩ = some (.int .i64 0) ∧ w1.cell? ⟨qb, 0, none⟩ = some (.int .i64 1) ∧ w1.cell? ⟨qb, 1, none⟩ = some (.int .i64 y) ∧ w1.cell? ⟨qb, 2, none⟩ = some (.bool (!b)) ∧ w1.cell? ⟨qb, 3, none⟩ = some (.int .i64 0) ∧ w1.cell? ⟨qc, 0, none⟩ = some (.int .i64 2) ∧ w1.cell? ⟨qc, 1, none⟩ = some (.int .i64 0) ∧ w1.cell? ⟨qc, 2, none⟩ = some (.bool false) ∧ w1.cell? ⟨qc, 3, none⟩ = some (.int .i64 m) ∧ w1.cell? ⟨qd, 0, none⟩ = some (.int .i64 3) ∧ w1.cell? ⟨qd, 1, none⟩ = some (.int .i64 0) ∧ w1.cell? ⟨qd, 2, none⟩ = some (.bool false) ∧ w1.cell? ⟨qd, 3, none⟩ = some (.int .i64 m) ∧ w1.cell? ⟨g, off + 4, none⟩ = some (.int .i64 p4) ∧ Keep 0 0 V w1) → Keep 0 0 w1 w2 → (w2.cell? ⟨qa, 0, none⟩ = some (.int .i64 1) ∧ w2.cell? ⟨qa, 1, none⟩ = some (.int .i64 y) ∧ w2.cell? ⟨qa, 2, none⟩ = some (.bool b) ∧ w2.cell? ⟨qa, 3, none⟩ = some (.int .i64 0) ∧ w2.cell? ⟨qb, 0, none⟩ = some (.int .i64 1) ∧ w2.cell? ⟨qb, 1, none⟩ = some (.int .i64 y) ∧ w2.cell? ⟨qb, 2, none⟩ = some (.bool (!b)) ∧ w2.cell? ⟨qb, 3, none⟩ = some (.int .i64 0) ∧ w2.cell? ⟨qc, 0, none⟩ = some (.int .i64 2) ∧ w2.cell? ⟨qc, 1, none⟩ = some (.int .i64 0) ∧ w2.cell? ⟨qc, 2, none⟩ = some (.bool false) ∧ w2.cell? ⟨qc, 3, none⟩ = some (.int .i64 m) ∧ w2.cell? ⟨qd, 0, none⟩ = some (.int .i64 3) ∧ w2.cell? ⟨qd, 1, none⟩ = some (.int .i64 0) ∧ w2.cell? ⟨qd, 2, none⟩ = some (.bool false) ∧ w2.cell? ⟨qd, 3, none⟩ = some (.int .i64 m) ∧ w2.cell? ⟨g, off + 4, none⟩ = some (.int .i64 p4) ∧ Keep 0 0 V w2) from fun w1 w2 ⟨h0, h1, h2, h3, h4, h5, h6, h7, h8, h9, h10, h11, h12, h13, h14, h15, h16, h17⟩ k => ⟨(k.cell0 (p := ⟨qa, 0, none⟩) (World.block_lt_of_cell? _ _ h0)).trans h0, (k.cell0 (p := ⟨qa, 1, none⟩) (World.block_lt_of_cell? _ _ h1)).trans h1, (k.cell0 (p := ⟨qa, 2, none⟩) (World.block_lt_of_cell? _ _ h2)).trans h2, (k.cell0 (p := ⟨qa, 3, none⟩) (World.block_lt_of_cell? _ _ h3)).trans h3, (k.cell0 (p := ⟨qb, 0, none⟩) (World.block_lt_of_cell? _ _ h4)).trans h4, (k.cell0 (p := ⟨qb, 1, none⟩) (World.block_lt_of_cell? _ _ h5)).trans h5, (k.cell0 (p := ⟨qb, 2, none⟩) (World.block_lt_of_cell? _ _ h6)).trans h6, (k.cell0 (p := ⟨qb, 3, none⟩) (World.block_lt_of_cell? _ _ h7)).trans h7, (k.cell0 (p := ⟨qc, 0, none⟩) (World.block_lt_of_cell? _ _ h8)).trans h8, (k.cell0 (p := ⟨qc, 1, none⟩) (World.block_lt_of_cell? _ _ h9)).trans h9, (k.cell0 (p := ⟨qc, 2, none⟩) (World.block_lt_of_cell? _ _ h10)).trans h10, (k.cell0 (p := ⟨qc, 3, none⟩) (World.block_lt_of_cell? _ _ h11)).trans h11, (k.cell0 (p := ⟨qd, 0, none⟩) (World.block_lt_of_cell? _ _ h12)).trans h12, (k.cell0 (p := ⟨qd, 1, none⟩) (World.block_lt_of_cell? _ _ h13)).trans h13, (k.cell0 (p := ⟨qd, 2, none⟩) (World.block_lt_of_cell? _ _ h14)).trans h14, (k.cell0 (p := ⟨qd, 3, none⟩) (World.block_lt_of_cell? _ _ h15)).trans h15, (k.cell0 (p := ⟨g, off + 4, none⟩) (World.block_lt_of_cell? _ _ h16)).trans h16, h17.tr0 k⟩)
    have HV := Lib.hid (show ∀ w1 : World, (w1.cell? ⟨qa, 0, none⟩ = some (.int .i64 1) ∧ w1.cell? ⟨qa, 1, none⟩ = some (.int .i64 y) ∧ w1.cell? ⟨qa, 2, none⟩ = some (.bool b) ∧ w1.cell? ⟨qa, 3, none⟩ = some (.int .i64 0) ∧ w1.cell? ⟨qb, 0, none⟩ = some (.int .i64 1) ∧ w1.cell? ⟨qb, 1, none⟩ = some (.int .i64 y) ∧ w1.cell? ⟨qb, 2, none⟩ = some (.bool (!b)) ∧ w1.cell? ⟨qb, 3, none⟩ = some (.int .i64 0) ∧ w1.cell? ⟨qc, 0, none⟩ = some (.int .i64 2) ∧ w1.cell? ⟨qc, 1, none⟩ = some (.int .i64 0) ∧ w1.cell? ⟨qc, 2, none⟩ = some (.bool false) ∧ w1.cell? ⟨qc, 3, none⟩ = some (.int .i64 m) ∧ w1.cell? ⟨qd, 0, none⟩ = some (.int .i64 3) ∧ w1.cell? ⟨qd, 1, none⟩ = some (.int .i64 0) ∧ w1.cell? ⟨qd, 2, none⟩ = some (.bool false) ∧ w1.cell? ⟨qd, 3, none⟩ = some (.int .i64 m) ∧ w1.cell? ⟨g, off + 4, none⟩ = some (.int .i64 p4) ∧ Keep 0 0 V w1) → Tab w1 from fun w1 ⟨_, _, _, _, _, _, _, _, _, _, _, _, _, _, _, _, _, k⟩ => TV0.out.keep k)
    go_region_held3 (fun w' => w'.cell? ⟨qa, 0, none⟩ = some (.int .i64 1) ∧ w'.cell? ⟨qa, 1, none⟩ = some (.int .i64 y) ∧ w'.cell? ⟨qa, 2, none⟩ = some (.bool b) ∧ w'.cell? ⟨qa, 3, none⟩ = some (.int .i64 0) ∧ w'.cell? ⟨qb, 0, none⟩ = some (.int .i64 1) ∧ w'.cell? ⟨qb, 1, none⟩ = some (.int .i64 y) ∧ w'.cell? ⟨qb, 2, none⟩ = some (.bool (!b)) ∧ w'.cell? ⟨qb, 3, none⟩ = some (.int .i64 0) ∧ w'.cell? ⟨qc, 0, none⟩ = some (.int .i64 2) ∧ w'.cell? ⟨qc, 1, none⟩ = some (.int .i64 0) ∧ w'.cell? ⟨qc, 2, none⟩ = some (.bool false) ∧ w'.cell? ⟨qc, 3, none⟩ = some (.int .i64 m) ∧ w'.cell? ⟨qd, 0, none⟩ = some (.int .i64 3) ∧ w'.cell? ⟨qd, 1, none⟩ = some (.int .i64 0) ∧ w'.cell? ⟨qd, 2, none⟩ = some (.bool false) ∧ w'.cell? ⟨qd, 3, none⟩ = some (.int .i64 m) ∧ w'.cell? ⟨g, off + 4, none⟩ = some (.int .i64 p4) ∧ Keep 0 0 V w')
      (first | (refine HS.out ?_ _ ?_ ?_; rotate_right; (with_reducible assumption); (with_reducible assumption)) | (exact HS.out V _ ⟨a0, a1, a2, a3, d0, d1, d2, d3, f0, f1, f2, f3, g0, g1, g2, g3, e4, Keep.refl 0 0 V⟩ (Keep.refl 0 0 V).drew) | fail)
      (first
        | (go_at_call 20; refine (implExitText_any _ _ _ _ (by omega) (by omega) (by omega) (by omega) _ ?_).mono ?_; (refine HV.out _ ?_; with_reducible assumption); (rintro e w2 ⟨rfl, k2⟩))
        | (go_at_call 18; refine (implExitOk_any _ _ _ _ _).mono ?_; rintro e w2 ⟨rfl, k2⟩)
        | fail)
    obtain ⟨_, _, _, _, _, _, _, _, _, _, _, _, _, _, _, _, _, K9⟩ : w2.cell? ⟨qa, 0, none⟩ = some (.int .i64 1) ∧ w2.cell? ⟨qa, 1, none⟩ = some (.int .i64 y) ∧ w2.cell? ⟨qa, 2, none⟩ = some (.bool b) ∧ w2.cell? ⟨qa, 3, none⟩ = some (.int .i64 0) ∧ w2.cell? ⟨qb, 0, none⟩ = some (.int .i64 1) ∧ w2.cell? ⟨qb, 1, none⟩ = some (.int .i64 y) ∧ w2.cell? ⟨qb, 2, none⟩ = some (.bool (!b)) ∧ w2.cell? ⟨qb, 3, none⟩ = some (.int .i64 0) ∧ w2.cell? ⟨qc, 0, none⟩ = some (.int .i64 2) ∧ w2.cell? ⟨qc, 1, none⟩ = some (.int .i64 0) ∧ w2.cell? ⟨qc, 2, none⟩ = some (.bool false) ∧ w2.cell? ⟨qc, 3, none⟩ = some (.int .i64 m) ∧ w2.cell? ⟨qd, 0, none⟩ = some (.int .i64 3) ∧ w2.cell? ⟨qd, 1, none⟩ = some (.int .i64 0) ∧ w2.cell? ⟨qd, 2, none⟩ = some (.bool false) ∧ w2.cell? ⟨qd, 3, none⟩ = some (.int .i64 m) ∧ w2.cell? ⟨g, off + 4, none⟩ = some (.int .i64 p4) ∧ Keep 0 0 V w2 := by with_reducible assumption
    go_wp2
    go_ret
    exact ⟨rfl, (K8.out.tr0 K9).below⟩

theorem door_met (os : Os) (args : Array Value) : laidMetH Tryd.prog Rows.fnExitWordsRow.laid ((World.doorLaid Tryd.prog 400 os).forCall (fun _ _ => 0) ⟨#[], args, []⟩).memory :=
  laidMetH_of_parts3 (fuel := 8) (laidMet_of_run' 8 (by kernel_rfl) (by kernel_rfl)) (by kernel_rfl) (by kernel_rfl)
set_option maxRecDepth 100000 in
theorem lifted (os : Os) (started : os.Started) (H : Type) (enc : TypeId × Value → H) :
    ReturnsInHanded {} Tryd.checked os 4 .any (fun w args => (Rows.fnExitWordsSpec.pre enc Tryd.prog Tryd.f4 Rows.fnExitWordsRow.domain false w args ∧ laidMetH Tryd.prog Rows.fnExitWordsRow.laid w) ∧ sizedMet enc Tryd.prog Tryd.f4 (OpenSpec.ofChange Rows.fnExitWordsSpec) false w args)
      (Rows.fnExitWordsSpec.post enc Tryd.prog Tryd.f4 false true false false) := by
  refine returnsInHanded_of_change_and (C := Tryd.checked) (X := fun w _ => laidMetH Tryd.prog Rows.fnExitWordsRow.laid w) (fun _ _ _ hh h => h.of_heap hh) own started (by kernel_rfl) Tryd.func4
    (ChangeSpec.witness_shaped (enc := enc) (C := Tryd.checked) (os := os) (X := fun w _ => laidMetH Tryd.prog Rows.fnExitWordsRow.laid w) false (World.doorLaid Tryd.prog 400 os) #[.slice none 0 0] 8 rfl (World.shaped_of_RefB (by kernel_rfl) (by kernel_rfl)) (by kernel_rfl) (by kernel_rfl) (by kernel_rfl) (door_met os _)) ?_
  intro W base args ds gs before hval0 hW _ _ hL _
  have ht := table hL
  have hval : ∀ (j : Nat) t v, Tryd.f4.params[j]? = some t → args[j]? = some v → Value.okWide Tryd.prog W .any base t v := hval0
  have hW' := hW
  obtain ⟨p, q, hA0, hV, rfl, hfz, hnd⟩ := hW
  have hA : DataW.TrodAll enc Tryd.prog W 0 (fun _ => true) true Tryd.f4.params.toList args.toList ds p := hA0
  rw [Tryd.params4] at hA hval
  obtain ⟨v0, vs0, d0, ds0, p0, q0, hargs, rfl, rfl, h0, r0⟩ := trodAll_cons hA
  obtain ⟨rfl, rfl, rfl⟩ := trodAll_nil r0
  obtain rfl : args = #[v0] := by cases args; simp_all
  obtain ⟨rfl, rfl⟩ := trodVars_none hV
  have k0 := h0
  have lt0 : ∀ x ∈ p0, x.block < W.heap.size := by obtain ⟨m, hm⟩ := k0; exact DataW.trod_lt m _ _ _ hm
  obtain ⟨A0, n0, cap0, rfl⟩ := okWide_slice Tryd.underlying22 (hval 0 22 v0 rfl rfl)
  obtain ⟨xs0, rb0, hl0⟩ := open_byts Tryd.underlying22 Tryd.underlying5 (by kernel_rfl) h0
  clear hA0 hval0
  refine (walk W A0 n0 cap0 xs0 rb0 hl0 ht).mono fun e W' ⟨he, bel⟩ => ?_
  subst he
  exact ⟨_, rfl, _, _, _, [], _, [], hW', trodAll_mk1 (shut_bool Tryd.underlying4 _), (trodAll_cons_mk (Below.trod laidOut (by kernel_rfl) (of_decide_eq_true (by kernel_rfl)) k0 bel lt0) trodAll_mk0), rfl, bel.frame _, fun h => by cases h⟩

theorem over : Rows.fnExitWordsRow.holds Tryd.pinned (OpenSpec.ofChange Rows.fnExitWordsSpec) :=
  OpenClaim.holds_of_wide 4 Tryd.f4 rfl rfl rfl rfl rfl rfl rfl ⟨rfl, rfl, rfl, rfl, rfl⟩ rfl rfl rfl rfl rfl (by kernel_rfl) Tryd.func4 (by kernel_rfl)
    (of_decide_eq_true (by kernel_rfl)) (by unfold Func.isWrapper; first | (rw [if_pos (by decide +kernel)]; kernel_rfl) | (rw [if_neg (by decide +kernel)]; exact ⟨rfl, rfl⟩))
    (fun os started H enc _ => lifted os started H enc)

theorem plain (f : FuncId) (fn : Func) (hf : Tryd.pinned.checked.prog.funcNamed "loop.example/g00975/laws.FnExitWords" = some f) (hfn : Tryd.pinned.checked.prog.funcs[f]? = some fn) :
    false = Tryd.pinned.checked.prog.looks [] ∧ ∀ (j : Nat) t, fn.params[j]? = some t → Tryd.pinned.checked.prog.wantsStandIn t = false := by
  obtain rfl : f = 4 := Option.some.inj ((show Tryd.prog.funcNamed "loop.example/g00975/laws.FnExitWords" = some 4 by kernel_rfl).symm.trans hf) |>.symm
  obtain rfl : fn = Tryd.f4 := (Option.some.inj (Tryd.func4.symm.trans hfn)).symm
  refine ⟨by kernel_rfl, fun j t ht => ?_⟩
  rw [Tryd.params4] at ht
  have hall : ([22].all fun u => !Tryd.prog.wantsStandIn u) = true := by kernel_rfl
  have hm : t ∈ [22] := by simpa using Array.mem_of_getElem? ht
  exact (show Tryd.prog.wantsStandIn t = false by simpa using List.all_eq_true.1 hall t hm)
/-- The given statement: the card. -/
theorem proved : Rows.FnExitWordsCardSaid :=
  Claim7.holds_tied_plain_at .later [] _ _ _ _ over (fun _ h => by cases h) (by kernel_rfl) (fun _ h => by cases h) fnExitWords_row_tie rfl ⟨rfl, rfl⟩ (by kernel_rfl) rfl plain (by kernel_rfl)

end Go.Proofs.YtdlcchoemladnaaDoor.fnExitWords
