/-
  For every draw: the program's flushes are the reference's; an entry that was flushed is not found, every other is. No condition.
-/
import Derived.Test.YtcoipfnphmealaaRows
import Derived.WalkKit
import Derived.ProofKit
import Derived.OpenShut
import Derived.ShutString
import Derived.ChangeOld
import Derived.Below
import Derived.Lib.SmallJoins
import Derived.WalkSpells
import Derived.Test.YtcoipfnphmealaaPlc
import Derived.Test.YtcoipfnphmealaaOpen
import Derived.Test.YtcoipfnphmealaaOne
import Derived.Test.YtcoipfnphmealaaSix
import Derived.Test.YtcoipfnphmealaaTgm
import Derived.Test.YtcoipfnphmealaaBuE
import Derived.Test.YtcoipfnphmealaaSamE
import Derived.Handy
import Derived.Deep.QuietTactic
import Derived.BigQuiet
import Derived.Deep.RegionHeld3
import Derived.Deep.Cut
namespace Go.Proofs.Ytcoipfnphmealaa.fnFlushed
open Go.ChangeShapes Go.WideShapes Go.ChangeAt Go.RowKit
set_option linter.unusedVariables false

theorem own : ownKnob Try.prog.godebug = none := by kernel_rfl
theorem laidOut : laidOutB Try.prog = true := by kernel_rfl

set_option maxRecDepth 100000 in
set_option maxHeartbeats 16000000 in
theorem walk (w : World) (A : Option Addr) (n c : Nat) (xs : List Int) (rb : Rd w w.heap.size 1 (.slice A n c) (byts xs)) (hl : xs.length = n) :
    Calls Try.prog 5 #[.slice A n c] w fun e w' => e = .returned (.bool true) ∧ Below w.heap.size w w' := by
  have hc9 : n ≤ 9223372036854775807 := by obtain ⟨_, _, _, e, h1, h2, _⟩ := rb; injection e with _ e2 e3; unfold maxLen at h2; omega
  clear hl
  rcases Bool.eq_false_or_eq_true (bigT n) with hbig | hbig
  · go_enter Try.func5, Try.ntmps5
    go_wp2_with fail
    refine (big_any A n c hc9 _).mono ?_
    rintro e w' ⟨rfl, rfl⟩
    rw [hbig]
    go_wp2
    go_ret
    exact ⟨rfl, Below.refl _ _⟩
  go_enter Try.func5, Try.ntmps5
  go_wp2_with fail
  refine (big_any A n c hc9 _).mono ?_
  rintro e w' ⟨rfl, rfl⟩
  rw [hbig]
  clear hbig
  go_wp2_with fail
  refine (DrawFlushPage_any _ _ xs rb).mono ?_
  rintro e W1 ⟨v, l, t, p, rfl, hl8, hr, k1⟩
  obtain ⟨B, cb, rfl, hcb, hcb9⟩ := len_of_rowE hr
  have RB1 := (rb.keep k1 (Nat.le_refl _) (.inr (Nat.le_refl 0))).mono k1.size
  have hl9 : l.length ≤ 9223372036854775807 := by omega
  go_wp2_with fail
  refine (implFlushPage_any W1 _ _ l t p hr.rd (Nat.le_refl _) (by omega)).mono ?_
  rintro e W2 ⟨vx, rfl, rx, k2⟩
  have hr2 := ((hr.keep k2 (.inr (.inr (Nat.le_refl 0)))).mono (Nat.le_refl _) k2.size)
  go_wp2_with fail
  refine (implFlushTag_any W2 _ _ l t hr2.rd (Nat.le_refl _) (by omega)).mono ?_
  rintro e W3 ⟨vy, rfl, ry, k3⟩
  have hr3 := ((hr2.keep k3 (.inr (.inr (Nat.le_refl 0)))).mono (Nat.le_refl _) k3.size)
  have rx3 := ((rx.keep k3 (.inr (.inr (Nat.le_refl 0)))).mono (Nat.le_refl _) k3.size)
  have K3 := (k1.tr0 k2).tr0 k3
  have RB3 := (rb.keep K3 (Nat.le_refl _) (.inr (Nat.le_refl 0))).mono K3.size
  clear RB1 k1 k2 k3 hr hr2 rx
  go_wp2_with fail
  refine (DrawFlushHost_any _ _ xs RB3).mono ?_
  rintro e W4 ⟨vc, lc, ho, rfl, hc8, hrc, k4⟩
  have hr4 := ((hr3.keep k4 (.inr (.inr (Nat.le_refl 0)))).mono (Nat.le_refl _) k4.size)
  have rx4 := ((rx3.keep k4 (.inr (.inr (Nat.le_refl 0)))).mono (Nat.le_refl _) k4.size)
  have ry4 := ((ry.keep k4 (.inr (.inr (Nat.le_refl 0)))).mono (Nat.le_refl _) k4.size)
  clear hr3 rx3 ry RB3
  go_wp2_with fail
  refine (implFlushHost_any W4 _ _ lc ho hrc.rd (Nat.le_refl _) (by omega)).mono ?_
  rintro e W5 ⟨vz, rfl, rz, k5⟩
  have hr5 := ((hr4.keep k5 (.inr (.inr (Nat.le_refl 0)))).mono (Nat.le_refl _) k5.size)
  have rx5 := ((rx4.keep k5 (.inr (.inr (Nat.le_refl 0)))).mono (Nat.le_refl _) k5.size)
  have ry5 := ((ry4.keep k5 (.inr (.inr (Nat.le_refl 0)))).mono (Nat.le_refl _) k5.size)
  have rc5 := ((hrc.keep k5 (.inr (.inr (Nat.le_refl 0)))).mono (Nat.le_refl _) k5.size)
  have K5 := (K3.tr0 k4).tr0 k5
  clear hr4 rx4 ry4 hrc k4 k5 K3
  go_wp2_with fail
  refine (specFlushPage_any W5 _ _ l t p hr5.rd (by omega)).mono ?_
  rintro e V1 ⟨u1, rfl, s1, j1⟩
  go_wp2_with fail
  refine (sameEntrys_eq V1 _ _ _ _ _ (rx5.rd.keep j1 (Nat.le_refl _) (.inr (Nat.le_refl 0))) s1.rd).mono ?_
  rintro e V2 ⟨rfl, d2⟩
  have J2 := j1.tr0 (d2.keep 0 0)
  have hr6 := ((hr5.keep J2 (.inr (.inr (Nat.le_refl 0)))).mono (Nat.le_refl _) J2.size)
  have rx6 := ((rx5.keep J2 (.inr (.inr (Nat.le_refl 0)))).mono (Nat.le_refl _) J2.size)
  have ry6 := ((ry5.keep J2 (.inr (.inr (Nat.le_refl 0)))).mono (Nat.le_refl _) J2.size)
  have rc6 := ((rc5.keep J2 (.inr (.inr (Nat.le_refl 0)))).mono (Nat.le_refl _) J2.size)
  have rz6 := ((rz.keep J2 (.inr (.inr (Nat.le_refl 0)))).mono (Nat.le_refl _) J2.size)
  have K6 := K5.tr0 J2
  clear hr5 rx5 ry5 rc5 rz j1 d2 J2 s1 K5
  go_wp2_with fail
  refine (specFlushTag_any V2 _ _ l t hr6.rd (by omega)).mono ?_
  rintro e V3 ⟨u2, rfl, s2, j3⟩
  go_wp2_with fail
  refine (sameEntrys_eq V3 _ _ _ _ _ (ry6.rd.keep j3 (Nat.le_refl _) (.inr (Nat.le_refl 0))) s2.rd).mono ?_
  rintro e V4 ⟨rfl, d4⟩
  have J4 := j3.tr0 (d4.keep 0 0)
  have hr7 := ((hr6.keep J4 (.inr (.inr (Nat.le_refl 0)))).mono (Nat.le_refl _) J4.size)
  have rx7 := ((rx6.keep J4 (.inr (.inr (Nat.le_refl 0)))).mono (Nat.le_refl _) J4.size)
  have rc7 := ((rc6.keep J4 (.inr (.inr (Nat.le_refl 0)))).mono (Nat.le_refl _) J4.size)
  have rz7 := ((rz6.keep J4 (.inr (.inr (Nat.le_refl 0)))).mono (Nat.le_refl _) J4.size)
  have K7 := K6.tr0 J4
  clear hr6 rx6 ry6 rc6 rz6 j3 d4 J4 s2 K6
  go_wp2_with fail
  refine (specFlushHost_any V4 _ _ lc ho rc7.rd (by omega)).mono ?_
  rintro e V5 ⟨u3, rfl, s3, j5⟩
  go_wp2_with fail
  refine (sameEntrys_eq V5 _ _ _ _ _ (rz7.rd.keep j5 (Nat.le_refl _) (.inr (Nat.le_refl 0))) s3.rd).mono ?_
  rintro e V6 ⟨rfl, d6⟩
  have J6 := j5.tr0 (d6.keep 0 0)
  have hr8 := ((hr7.keep J6 (.inr (.inr (Nat.le_refl 0)))).mono (Nat.le_refl _) J6.size)
  have rx8 := ((rx7.keep J6 (.inr (.inr (Nat.le_refl 0)))).mono (Nat.le_refl _) J6.size)
  have K8 := K7.tr0 J6
  clear hr7 rx7 rc7 rz7 j5 d6 J6 s3 K7
  have hfl : (l.filter fun e => !(flPage t p e)).length ≤ 8 := Nat.le_trans (List.length_filter_le _ _) hl8
  obtain ⟨f0, f1, f2, f3, hf⟩ : ∃ f0 f1 f2 f3, findT (l.filter fun e => !(flPage t p e)) t p = (f0, f1, f2, f3) := ⟨_, _, _, _, rfl⟩
  have HF := Lib.hid hf
  clear hf
  go_wp2_with fail
  refine (implFindEntry_to V6 _ _ _ t p rx8.rd (by omega) _ _ _ _ _ HF.out (flush_has l t p)).mono ?_
  rintro e V7 ⟨rfl, j7⟩
  have j8 := j7.alloc (.cells #[.int .i64 f0, .int .i64 f1, .int .i64 f2, .int .i64 f3] 26)
  have HR := Lib.hid ((hr8.keep j8 (.inr (.inr (Nat.le_refl 0)))).mono (Nat.le_refl _) j8.size)
  have RX := Lib.hid ((rx8.keep j8 (.inr (.inr (Nat.le_refl 0)))).mono (Nat.le_refl _) j8.size)
  have KV := Lib.hid (K8.tr0 j8)
  have HL9 := Lib.hid (Nat.le_trans hfl (by omega : 8 ≤ 1048577))
  clear hr8 rx8 j7 j8 K8 HF
  go_upto_region 11 with (fail)
  generalize V7.alloc (.cells #[.int .i64 f0, .int .i64 f1, .int .i64 f2, .int .i64 f3] 26) = V at HR RX KV ⊢
  go_wp2
  go_loopw [13] (fun i wr => ∃ k : Nat, k ≤ l.length ∧ i = .int .i64 k ∧ Keep 0 0 V wr) (fun i _ => 9 - (intOf i).toNat)
  case atStart => exact ⟨0, Nat.zero_le _, rfl, Keep.refl _ _ _⟩
  case round =>
    obtain ⟨k, hk, rfl, hK⟩ := hrel
    by_cases hlt : k < l.length
    · obtain ⟨g, off, x0, x1, x2, x3, rfl, hx, c0, c1, _, _⟩ := HR.out.ent hlt
      have d0 := hK.cells (World.block_lt_of_cell? _ _ c0) c0
      have d1 := hK.cells (World.block_lt_of_cell? _ _ c1) c1
      have hst := Lib.hid (flush_still l t p (x0, x1, x2, x3) (List.mem_of_mem_take (i := k + 1) (by rw [hx]; simp)))
      obtain ⟨g0, g1, g2, g3, hg⟩ : ∃ g0 g1 g2 g3, findT (l.filter fun e => !(flPage t p e)) x0 x1 = (g0, g1, g2, g3) := ⟨_, _, _, _, rfl⟩
      have HG := Lib.hid hg
      clear hg hx c0 c1
      have HS := Lib.hid (show ∀ w1 w2 : World, (w1.cell? ⟨g, off + k * 4, none⟩ = some (.int .i64 x0) ∧ w1.cell? ⟨g, off + k * 4 + 1, none⟩ = some (.int .i64 x1) ∧ Keep 0 0 V w1) → Keep 0 0 w1 w2 → (w2.cell? ⟨g, off + k * 4, none⟩ = some (.int .i64 x0) ∧ w2.cell? ⟨g, off + k * 4 + 1, none⟩ = some (.int .i64 x1) ∧ Keep 0 0 V w2) from fun w1 w2 ⟨h0, h1, h2⟩ q => ⟨q.cells (World.block_lt_of_cell? _ _ h0) h0, q.cells (World.block_lt_of_cell? _ _ h1) h1, h2.tr0 q⟩)
      have HV := Lib.hid (show ∀ w1 : World, (w1.cell? ⟨g, off + k * 4, none⟩ = some (.int .i64 x0) ∧ w1.cell? ⟨g, off + k * 4 + 1, none⟩ = some (.int .i64 x1) ∧ Keep 0 0 V w1) → Rd w1 V.heap.size 4 vx (ints (entsI (l.filter fun e => !(flPage t p e)))) from fun w1 ⟨_, _, q⟩ => RX.out.rd.keep q (Nat.le_refl _) (.inr (Nat.le_refl 0)))
      have hdk : decide ((k : Int) < l.length) = true := by simpa using hlt
      have hcase : (x0 == t) = false ∨ ((x0 == t) = true ∧ (x1 == p) = false) ∨ ((x0 == t) = true ∧ (x1 == p) = true) := by cases (x0 == t) <;> cases (x1 == p) <;> simp
      rcases hcase with q0 | ⟨q0, q1⟩ | ⟨q0, q1⟩
      · have q2 : hasE (l.filter fun e => !(flPage t p e)) x0 x1 = true := by have := hst.out; rw [this]; simp [bne, q0]
        have HH := Lib.hid q2
        clear q2
        have q3 : (x0 != t) = true := by simp [bne, q0]
        go_wp2
        go_region_held3 (fun w' => w'.cell? ⟨g, off + k * 4, none⟩ = some (.int .i64 x0) ∧ w'.cell? ⟨g, off + k * 4 + 1, none⟩ = some (.int .i64 x1) ∧ Keep 0 0 V w')
          (first | (refine HS.out ?_ _ ?_ ?_; rotate_right; (with_reducible assumption); (with_reducible assumption)) | (refine HS.out wr _ ⟨d0, d1, hK⟩ ?_; repeat' (first | (with_reducible exact Keep.refl 0 0 _) | (with_reducible exact ((Keep.refl 0 0 wr).drew).tr0 k2) | (with_reducible exact (((Keep.refl 0 0 wr).alloc _).drew).tr0 k2) | (with_reducible refine Keep.alloc ?_ _) | (with_reducible refine Keep.drew ?_) | (with_reducible refine Keep.setCell ?_ (.inr (Nat.le_refl _)) _))) | fail)
          (first
            | (go_at_call 18; refine (implFindEntry_to _ V.heap.size vx (l.filter fun e => !(flPage t p e)) x0 x1 ?_ HL9.out g0 g1 g2 g3 true HG.out HH.out).mono ?_; (refine HV.out _ ?_; with_reducible assumption); (rintro e w2 ⟨rfl, k2⟩); try (have zz := boxed4 k2; obtain ⟨z0, z1, z2, z3, u0, u1, u2, u3⟩ := Lo.c4 zz))
            | fail)
        all_goals
          go_wp2
          go_roundw
          case rel => exact ⟨k + 1, by omega, by go_num, hK.tr0 (by repeat' (first | (with_reducible exact Keep.refl 0 0 _) | (with_reducible exact ((Keep.refl 0 0 wr).drew).tr0 k2) | (with_reducible exact (((Keep.refl 0 0 wr).alloc _).drew).tr0 k2) | (with_reducible refine Keep.alloc ?_ _) | (with_reducible refine Keep.drew ?_) | (with_reducible refine Keep.setCell ?_ (.inr (Nat.le_refl _)) _)))⟩
          case measure => simp [intOf]; omega
      · have q2 : hasE (l.filter fun e => !(flPage t p e)) x0 x1 = true := by have := hst.out; rw [this]; simp [bne, q0, q1]
        have HH := Lib.hid q2
        clear q2
        have q3 : (x0 != t) = false := by simp [bne, q0]
        have q4 : (x1 != p) = true := by simp [bne, q1]
        go_wp2
        go_region_held3 (fun w' => w'.cell? ⟨g, off + k * 4, none⟩ = some (.int .i64 x0) ∧ w'.cell? ⟨g, off + k * 4 + 1, none⟩ = some (.int .i64 x1) ∧ Keep 0 0 V w')
          (first | (refine HS.out ?_ _ ?_ ?_; rotate_right; (with_reducible assumption); (with_reducible assumption)) | (refine HS.out wr _ ⟨d0, d1, hK⟩ ?_; repeat' (first | (with_reducible exact Keep.refl 0 0 _) | (with_reducible exact ((Keep.refl 0 0 wr).drew).tr0 k2) | (with_reducible exact (((Keep.refl 0 0 wr).alloc _).drew).tr0 k2) | (with_reducible refine Keep.alloc ?_ _) | (with_reducible refine Keep.drew ?_) | (with_reducible refine Keep.setCell ?_ (.inr (Nat.le_refl _)) _))) | fail)
          (first
            | (go_at_call 18; refine (implFindEntry_to _ V.heap.size vx (l.filter fun e => !(flPage t p e)) x0 x1 ?_ HL9.out g0 g1 g2 g3 true HG.out HH.out).mono ?_; (refine HV.out _ ?_; with_reducible assumption); (rintro e w2 ⟨rfl, k2⟩); try (have zz := boxed4 k2; obtain ⟨z0, z1, z2, z3, u0, u1, u2, u3⟩ := Lo.c4 zz))
            | fail)
        all_goals
          go_wp2
          go_roundw
          case rel => exact ⟨k + 1, by omega, by go_num, hK.tr0 (by repeat' (first | (with_reducible exact Keep.refl 0 0 _) | (with_reducible exact ((Keep.refl 0 0 wr).drew).tr0 k2) | (with_reducible exact (((Keep.refl 0 0 wr).alloc _).drew).tr0 k2) | (with_reducible refine Keep.alloc ?_ _) | (with_reducible refine Keep.drew ?_) | (with_reducible refine Keep.setCell ?_ (.inr (Nat.le_refl _)) _)))⟩
          case measure => simp [intOf]; omega
      · have q2 : hasE (l.filter fun e => !(flPage t p e)) x0 x1 = false := by have := hst.out; rw [this]; simp [bne, q0, q1]
        have HH := Lib.hid q2
        clear q2
        have q3 : (x0 != t) = false := by simp [bne, q0]
        have q4 : (x1 != p) = false := by simp [bne, q1]
        go_wp2
        go_region_held3 (fun w' => w'.cell? ⟨g, off + k * 4, none⟩ = some (.int .i64 x0) ∧ w'.cell? ⟨g, off + k * 4 + 1, none⟩ = some (.int .i64 x1) ∧ Keep 0 0 V w')
          (first | (refine HS.out ?_ _ ?_ ?_; rotate_right; (with_reducible assumption); (with_reducible assumption)) | (refine HS.out wr _ ⟨d0, d1, hK⟩ ?_; repeat' (first | (with_reducible exact Keep.refl 0 0 _) | (with_reducible exact ((Keep.refl 0 0 wr).drew).tr0 k2) | (with_reducible exact (((Keep.refl 0 0 wr).alloc _).drew).tr0 k2) | (with_reducible refine Keep.alloc ?_ _) | (with_reducible refine Keep.drew ?_) | (with_reducible refine Keep.setCell ?_ (.inr (Nat.le_refl _)) _))) | fail)
          (first
            | (go_at_call 18; refine (implFindEntry_to _ V.heap.size vx (l.filter fun e => !(flPage t p e)) x0 x1 ?_ HL9.out g0 g1 g2 g3 false HG.out HH.out).mono ?_; (refine HV.out _ ?_; with_reducible assumption); (rintro e w2 ⟨rfl, k2⟩); try (have zz := boxed4 k2; obtain ⟨z0, z1, z2, z3, u0, u1, u2, u3⟩ := Lo.c4 zz))
            | fail)
        all_goals
          go_wp2
          go_roundw
          case rel => exact ⟨k + 1, by omega, by go_num, hK.tr0 (by repeat' (first | (with_reducible exact Keep.refl 0 0 _) | (with_reducible exact ((Keep.refl 0 0 wr).drew).tr0 k2) | (with_reducible exact (((Keep.refl 0 0 wr).alloc _).drew).tr0 k2) | (with_reducible refine Keep.alloc ?_ _) | (with_reducible refine Keep.drew ?_) | (with_reducible refine Keep.setCell ?_ (.inr (Nat.le_refl _)) _)))⟩
          case measure => simp [intOf]; omega
    · obtain rfl : k = l.length := by omega
      have hr1 := Lib.hid (Row.lit wr 26 (sz := 4) (cs := ints (entsI [(1, 2, 3, 0), (2, 2, 4, 0)])) 2 rfl (by unfold maxLen; omega))
      have K1 := Lib.hid ((KV.out.tr0 hK).alloc (.cells #[.int .i64 1, .int .i64 2, .int .i64 3, .int .i64 0, .int .i64 2, .int .i64 2, .int .i64 4, .int .i64 0] 26))
      clear hK
      go_wp2_with fail
      refine (implFlushTag_any _ _ _ [(1, 2, 3, 0), (2, 2, 4, 0)] 1 hr1.out.rd (Nat.le_refl _) (by simp)).mono ?_
      rintro e Z1 ⟨v1, rfl, r1, i1⟩
      rw [show (([(1, 2, 3, 0), (2, 2, 4, 0)] : List Ent).filter fun e => !(flTag 1 e)) = [(2, 2, 4, 0)] from rfl] at r1
      obtain ⟨b1, a1, rfl, _⟩ := len_of_rowE r1
      have hr2 := Lib.hid (((hr1.out.keep i1 (.inr (.inr (Nat.le_refl 0)))).mono (Nat.le_refl _) i1.size))
      have K2 := Lib.hid (K1.out.tr0 i1)
      clear r1 i1 hr1 K1
      go_wp2_with fail
      refine (implFlushHost_any _ _ _ [(1, 2, 3, 0), (2, 2, 4, 0)] 4 hr2.out.rd (Nat.le_refl _) (by simp)).mono ?_
      rintro e Z2 ⟨v2, rfl, r2, i2⟩
      rw [show (([(1, 2, 3, 0), (2, 2, 4, 0)] : List Ent).filter fun e => !(flHost 4 e)) = [(1, 2, 3, 0)] from rfl] at r2
      obtain ⟨b2, a2, rfl, _⟩ := len_of_rowE r2
      have hr3 := Lib.hid (((hr2.out.keep i2 (.inr (.inr (Nat.le_refl 0)))).mono (Nat.le_refl _) i2.size))
      have K3 := Lib.hid (K2.out.tr0 i2)
      clear r2 i2 hr2 K2
      go_wp2_with fail
      refine (implFlushPage_any _ _ _ [(1, 2, 3, 0), (2, 2, 4, 0)] 2 2 hr3.out.rd (Nat.le_refl _) (by simp)).mono ?_
      rintro e Z3 ⟨v3, rfl, r3, i3⟩
      rw [show (([(1, 2, 3, 0), (2, 2, 4, 0)] : List Ent).filter fun e => !(flPage 2 2 e)) = [(1, 2, 3, 0)] from rfl] at r3
      obtain ⟨b3, a3, rfl, _⟩ := len_of_rowE r3
      have K4 := K3.out.tr0 i3
      clear r3 i3 hr3 K3
      go_wp2
      go_ret
      exact ⟨rfl, K4.below⟩

set_option maxRecDepth 100000 in
theorem lifted (os : Os) (started : os.Started) (H : Type) (enc : TypeId × Value → H) :
    ReturnsInHanded {} Try.checked os 5 .any (Rows.fnFlushedSpec.pre6 enc Try.prog Try.f5 Rows.fnFlushedRow.domain false) (Rows.fnFlushedSpec.post enc Try.prog Try.f5 false true false false) := by
  refine returnsInHanded_of_change (C := Try.checked) own started (by kernel_rfl) Try.func5
    (ChangeSpec.witness6 (enc := enc) (C := Try.checked) false ⟨#[], #[.slice none 0 0], []⟩ 8 (by kernel_rfl) (by kernel_rfl) (by kernel_rfl) (by kernel_rfl)) ?_
  intro W base args ds gs before hval0 hW hcnd _
  have hval : ∀ (j : Nat) t v, Try.f5.params[j]? = some t → args[j]? = some v → Value.okWide Try.prog W .any base t v := hval0
  have hW' := hW
  obtain ⟨p, q, hA0, hV, rfl, hfz, hnd⟩ := hW
  have hA : DataW.TrodAll enc Try.prog W 0 (fun _ => true) true Try.f5.params.toList args.toList ds p := hA0
  rw [Try.params5] at hA hval
  obtain ⟨v0, vs0, d0, ds0, p0, q0, hargs, rfl, rfl, h0, r0⟩ := trodAll_cons hA
  obtain ⟨rfl, rfl, rfl⟩ := trodAll_nil r0
  obtain rfl : args = #[v0] := by cases args; simp_all
  obtain ⟨rfl, rfl⟩ := trodVars_none hV
  have k0 := h0
  have lt0 : ∀ x ∈ p0, x.block < W.heap.size := by obtain ⟨m, hm⟩ := k0; exact DataW.trod_lt m _ _ _ hm
  obtain ⟨A0, n0, cap0, rfl⟩ := okWide_slice Try.underlying22 (hval 0 22 v0 rfl rfl)
  obtain ⟨xs0, rb0, hl0⟩ := open_byts Try.underlying22 Try.underlying5 (by kernel_rfl) h0
  clear hA0 hval0
  refine (walk W A0 n0 cap0 xs0 rb0 hl0).mono fun e W' ⟨he, bel⟩ => ?_
  subst he
  exact ⟨_, rfl, _, _, _, [], _, [], hW', trodAll_mk1 (shut_bool Try.underlying4 _), (trodAll_cons_mk (Below.trod laidOut (by kernel_rfl) (of_decide_eq_true (by kernel_rfl)) k0 bel lt0) trodAll_mk0), rfl, bel.frame _, fun h => by cases h⟩

theorem over : Rows.fnFlushedRow.holds Try.pinned (OpenSpec.ofChange Rows.fnFlushedSpec) :=
  OpenClaim.holds_of_wide 5 Try.f5 rfl rfl rfl rfl rfl rfl rfl ⟨rfl, rfl, rfl, rfl, rfl⟩ rfl rfl rfl rfl rfl (by kernel_rfl) Try.func5 (by kernel_rfl)
    (of_decide_eq_true (by kernel_rfl)) (by unfold Func.isWrapper; first | (rw [if_pos (by decide +kernel)]; kernel_rfl) | (rw [if_neg (by decide +kernel)]; exact ⟨rfl, rfl⟩))
    (fun os started H enc _ => lifted os started H enc)

/-- The given statement. -/
theorem proved : Rows.FnFlushedSaid := over
end Go.Proofs.Ytcoipfnphmealaa.fnFlushed
