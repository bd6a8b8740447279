/-
  For every draw: a control block is valid exactly if it has no fault; faults come in a fixed order without duplicates; what may be posted is posted to an open one. The card's condition alone: the library's table of powers of ten stands as its text lays it.
-/
import Derived.Test.YtdlcchoemladnaaDoorRows
import Derived.WalkKit
import Derived.ProofKit
import Derived.OpenShut
import Derived.ShutString
import Derived.ChangeOld
import Derived.Below
import Derived.Lib.SmallJoins
import Derived.WalkSpells
import Derived.Test.YtdlcchoemladnaaDoorCards
import Derived.Test.YtdlcchoemladnaaDoorTie
import Derived.Test.YtdlcchoemladnaaDoorDrC
import Derived.Test.YtdlcchoemladnaaDoorPlc
import Derived.Test.YtdlcchoemladnaaDoorLoc
import Derived.Test.YtdlcchoemladnaaDoorOpen
import Derived.Test.YtdlcchoemladnaaDoorOne
import Derived.Test.YtdlcchoemladnaaDoorSamE
import Derived.LaidMore
import Derived.Stop.Joined
import Derived.Stop.LaidErr
import Derived.MakeChecks
import Derived.SevenTiedAt
import Derived.Handy
import Derived.Deep.RegionHeld3
import Derived.Deep.QuietTactic
import Derived.BigQuiet
import Derived.Deep.Cut
import Derived.Deep.DeepCutAuto
import Derived.Deep.RegionHeld
import Derived.Deep.DrawnRows
namespace Go.Proofs.YtdlcchoemladnaaDoor.fnControl
open Go.ChangeShapes Go.WideShapes Go.ChangeAt Go.RowKit
set_option linter.unusedVariables false

theorem own : ownKnob Tryd.prog.godebug = none := by kernel_rfl
theorem laidOut : laidOutB Tryd.prog = true := by kernel_rfl

theorem gPowType : (Tryd.prog.globals[0]?).map (·.type) = some 73 := by kernel_rfl
theorem cells20 : Tryd.prog.cellsOf 73 = 20 := by kernel_rfl
theorem cells1 : Tryd.prog.cellsOf 66 = 1 := by kernel_rfl
theorem pow10_data : (Rows.laid_internal_strconv_uint64pow10 : DataW Unit) = Lib.tabData .u64 Lib.pow10Tab := by kernel_rfl
theorem table {W : World} (h : laidMetH Tryd.prog Rows.fnControlRow.laid W) : Tab W := by
  rw [MakeChecks.laidMetH_plain _ _ _ (by kernel_rfl)] at h
  have h2 : laidMet Tryd.prog [("internal/strconv.uint64pow10", (Rows.laid_internal_strconv_uint64pow10 : DataW Unit))] W := h.tail.tail
  rw [pow10_data] at h2
  exact Lib.tabIs_of_head (rest := []) gPow gPowType Tryd.underlying73 Tryd.underlying66 cells1 cells20 h2

attribute [local go_sem ↓] Go.wp_at_zero Go.wp_at_succ
theorem lapp_cons {α : Type} (a : α) (l k : List α) : List.append (a :: l) k = a :: List.append l k := rfl
theorem lapp_nil {α : Type} (k : List α) : List.append [] k = k := rfl
set_option maxRecDepth 100000 in
theorem walk_big (w : World) (A : Option Addr) (n c : Nat) (hc9 : n ≤ 9223372036854775807) (hbig : bigT n = true) :
    Calls Tryd.prog 5 #[.slice A n c] w fun e w' => e = .returned (.bool true) ∧ Below w.heap.size w w' := by
  go_enter Tryd.func5, Tryd.ntmps5
  go_wp2_with fail
  refine (big_any A n c hc9 _).mono ?_
  rintro e w' ⟨rfl, rfl⟩
  rw [hbig]
  go_wp2
  go_ret
  exact ⟨rfl, Below.refl _ _⟩
set_option maxRecDepth 100000 in
set_option maxHeartbeats 8000000 in
theorem walk (w : World) (A : Option Addr) (n c : Nat) (xs : List Int) (rb : Rd w w.heap.size 1 (.slice A n c) (byts xs)) (hl : xs.length = n) (ht : Tab w) :
    Calls Tryd.prog 5 #[.slice A n c] w fun e w' => e = .returned (.bool true) ∧ Below w.heap.size w w' := by
  have hc9 : n ≤ 9223372036854775807 := by obtain ⟨_, _, _, e, h1, h2, _⟩ := rb; injection e with _ e2 e3; unfold maxLen at h2; omega
  clear hl
  rcases Bool.eq_false_or_eq_true (bigT n) with hbig | hbig
  · exact walk_big w A n c hc9 hbig
  have HT := Lib.hid ht
  clear ht
  go_enter Tryd.func5, Tryd.ntmps5
  go_wp2_with fail
  refine (big_any A n c hc9 _).mono ?_
  rintro e w' ⟨rfl, rfl⟩
  rw [hbig]
  clear hbig
  go_wp2_with fail
  have K0 := Keep.refl 0 0 w
  have RB0 := rb
  refine (DrawCtlFaults_any _ _ xs RB0).mono ?_
  rintro e W1 ⟨t, p, o, rfl, ⟨lt0, lt1⟩, ⟨lp0, lp1⟩, k1⟩
  have K1 := K0.tr0 k1
  have RB1 := (RB0.keep k1 (Nat.le_refl _) (.inr (Nat.le_refl 0))).mono k1.size
  clear K0 k1 RB0
  obtain ⟨W2, hW2⟩ : ∃ W2, W2 = W1.alloc (.cells #[.int .i64 t, .int .i64 p, .bool o] 38) := ⟨_, rfl⟩
  have k2 : Keep 0 0 W1 W2 := by rw [hW2]; exact keep_1 W1 _
  have K2 := K1.tr0 k2
  have RB2 := (RB1.keep k2 (Nat.le_refl _) (.inr (Nat.le_refl 0))).mono k2.size
  clear K1 k2 RB1
  have BC := Lib.hid (show Lo W2 W1.heap.size 38 #[.int .i64 t, .int .i64 p, .bool o] by rw [hW2]; exact Lo.new W1 38 #[.int .i64 t, .int .i64 p, .bool o] rfl)
  go_wp2_with fail
  rw [← hW2]
  clear hW2
  generalize W1.heap.size = qC at BC ⊢
  refine (implCtlFaults_any t p o W2).mono ?_
  rintro e W3 ⟨vl, rfl, r3, k3⟩
  have K3 := K2.tr0 k3
  have RB3 := (RB2.keep k3 (Nat.le_refl _) (.inr (Nat.le_refl 0))).mono k3.size
  replace BC := Lib.hid (BC.out.keep0 k3)
  clear K2 k3 RB2
  have RL := Lib.hid r3
  clear r3
  obtain ⟨xC0, xC1, xC2, _⟩ := BC.out.c3
  go_wp2_with fail
  clear xC0 xC1 xC2
  refine (DrawHasTrap_any _ _ xs RB3).mono ?_
  rintro e W4 ⟨a, b, rfl, k4⟩
  have K4 := K3.tr0 k4
  have RB4 := (RB3.keep k4 (Nat.le_refl _) (.inr (Nat.le_refl 0))).mono k4.size
  replace BC := Lib.hid (BC.out.keep0 k4)
  replace RL := Lib.hid ((RL.out.keep k4 (.inr (.inr (Nat.le_refl 0)))).mono (Nat.le_refl _) k4.size)
  clear K3 k4 RB3
  obtain ⟨xC0, xC1, xC2, _⟩ := BC.out.c3
  go_wp2_with fail
  clear xC0 xC1 xC2
  refine (DrawPosts_any _ _ xs RB4).mono ?_
  rintro e W5 ⟨t2, p2, o2, n2, rfl, k5⟩
  have K5 := K4.tr0 k5
  have RB5 := (RB4.keep k5 (Nat.le_refl _) (.inr (Nat.le_refl 0))).mono k5.size
  replace BC := Lib.hid (BC.out.keep0 k5)
  replace RL := Lib.hid ((RL.out.keep k5 (.inr (.inr (Nat.le_refl 0)))).mono (Nat.le_refl _) k5.size)
  clear K4 k5 RB4
  clear RB5
  obtain ⟨W6, hW6⟩ : ∃ W6, W6 = W5.alloc (.cells #[.int .i64 t2, .int .i64 p2, .bool o2] 38) := ⟨_, rfl⟩
  have k6 : Keep 0 0 W5 W6 := by rw [hW6]; exact keep_1 W5 _
  have K6 := K5.tr0 k6
  replace BC := Lib.hid (BC.out.keep0 k6)
  replace RL := Lib.hid ((RL.out.keep k6 (.inr (.inr (Nat.le_refl 0)))).mono (Nat.le_refl _) k6.size)
  clear K5 k6
  have BX := Lib.hid (show Lo W6 W5.heap.size 38 #[.int .i64 t2, .int .i64 p2, .bool o2] by rw [hW6]; exact Lo.new W5 38 #[.int .i64 t2, .int .i64 p2, .bool o2] rfl)
  obtain ⟨xC0, xC1, xC2, _⟩ := BC.out.c3
  rw [hW6] at xC0 xC1 xC2
  go_wp2_with fail
  clear xC0 xC1 xC2
  rw [← hW6]
  clear hW6
  generalize W5.heap.size = qX at BX ⊢
  have TV0 := Lib.hid (HT.out.keep K6)
  generalize W6 = V at TV0 K6 BC BX RL ⊢
  have KV := Lib.hid K6
  have HT0 := HT
  clear K6 HT
  obtain ⟨nl, hnl⟩ : ∃ nl, (faultsT t p o).length = nl := ⟨_, rfl⟩
  have h4 : nl ≤ 4 := by rw [← hnl]; exact (faults_up t p o).2
  obtain ⟨BL, cl, rfl, hcl, hcl9⟩ : ∃ BL cl, vl = .slice BL nl cl ∧ nl ≤ cl ∧ cl ≤ 9223372036854775807 := by
    obtain ⟨B0, n0, c0, rfl⟩ := RL.out.slice
    obtain ⟨h1, h2, h3⟩ := RL.out.len
    rw [ints_length, Nat.mul_one] at h1
    unfold maxLen at h3
    obtain rfl : n0 = nl := by omega
    exact ⟨_, _, rfl, h2, by omega⟩
  have hck := ctlOk_len hnl
  have HN := Lib.hid hnl
  clear hnl
  obtain ⟨xC0, xC1, xC2, _⟩ := BC.out.c3
  obtain ⟨xX0, xX1, xX2, _⟩ := BX.out.c3
  have HS := Lib.hid (show ∀ w1 w2 : World, (w1.cell? ⟨qC, 0, none⟩ = some (.int .i64 t) ∧ w1.cell? ⟨qC, 1, none⟩ = some (.int .i64 p) ∧ w1.cell? ⟨qC, 2, none⟩ = some (.bool o) ∧ w1.cell? ⟨qX, 0, none⟩ = some (.int .i64 t2) ∧ w1.cell? ⟨qX, 1, none⟩ = some (.int .i64 p2) ∧ w1.cell? ⟨qX, 2, none⟩ = some (.bool o2) ∧ Keep 0 0 V w1) → Keep 0 0 w1 w2 → (w2.cell? ⟨qC, 0, none⟩ = some (.int .i64 t) ∧ w2.cell? ⟨qC, 1, none⟩ = some (.int .i64 p) ∧ w2.cell? ⟨qC, 2, none⟩ = some (.bool o) ∧ w2.cell? ⟨qX, 0, none⟩ = some (.int .i64 t2) ∧ w2.cell? ⟨qX, 1, none⟩ = some (.int .i64 p2) ∧ w2.cell? ⟨qX, 2, none⟩ = some (.bool o2) ∧ Keep 0 0 V w2) from fun w1 w2 ⟨h0, h1, h2, h3, h4, h5, h6⟩ k => ⟨(k.cell0 (p := ⟨qC, 0, none⟩) (World.block_lt_of_cell? _ _ h0)).trans h0, (k.cell0 (p := ⟨qC, 1, none⟩) (World.block_lt_of_cell? _ _ h1)).trans h1, (k.cell0 (p := ⟨qC, 2, none⟩) (World.block_lt_of_cell? _ _ h2)).trans h2, (k.cell0 (p := ⟨qX, 0, none⟩) (World.block_lt_of_cell? _ _ h3)).trans h3, (k.cell0 (p := ⟨qX, 1, none⟩) (World.block_lt_of_cell? _ _ h4)).trans h4, (k.cell0 (p := ⟨qX, 2, none⟩) (World.block_lt_of_cell? _ _ h5)).trans h5, h6.tr0 k⟩)
  have HV := Lib.hid (show ∀ w1 : World, (w1.cell? ⟨qC, 0, none⟩ = some (.int .i64 t) ∧ w1.cell? ⟨qC, 1, none⟩ = some (.int .i64 p) ∧ w1.cell? ⟨qC, 2, none⟩ = some (.bool o) ∧ w1.cell? ⟨qX, 0, none⟩ = some (.int .i64 t2) ∧ w1.cell? ⟨qX, 1, none⟩ = some (.int .i64 p2) ∧ w1.cell? ⟨qX, 2, none⟩ = some (.bool o2) ∧ Keep 0 0 V w1) → Tab w1 from fun w1 ⟨_, _, _, _, _, _, k⟩ => TV0.out.keep k)
  have HR := Lib.hid (show ∀ w1 : World, (w1.cell? ⟨qC, 0, none⟩ = some (.int .i64 t) ∧ w1.cell? ⟨qC, 1, none⟩ = some (.int .i64 p) ∧ w1.cell? ⟨qC, 2, none⟩ = some (.bool o) ∧ w1.cell? ⟨qX, 0, none⟩ = some (.int .i64 t2) ∧ w1.cell? ⟨qX, 1, none⟩ = some (.int .i64 p2) ∧ w1.cell? ⟨qX, 2, none⟩ = some (.bool o2) ∧ Keep 0 0 V w1) → Rd w1 V.heap.size 1 (.slice BL nl cl) (ints (faultsT t p o)) from fun w1 ⟨_, _, _, _, _, _, k⟩ => RL.out.rd.keep k (Nat.le_refl _) (.inr (Nat.le_refl 0)))
  first | (go_region_held3 (fun w' => w'.cell? ⟨qC, 0, none⟩ = some (.int .i64 t) ∧ w'.cell? ⟨qC, 1, none⟩ = some (.int .i64 p) ∧ w'.cell? ⟨qC, 2, none⟩ = some (.bool o) ∧ w'.cell? ⟨qX, 0, none⟩ = some (.int .i64 t2) ∧ w'.cell? ⟨qX, 1, none⟩ = some (.int .i64 p2) ∧ w'.cell? ⟨qX, 2, none⟩ = some (.bool o2) ∧ Keep 0 0 V w')
    (first | (with_reducible assumption) | (refine HS.out ?_ _ ?_ ?_; rotate_right; (with_reducible assumption); (with_reducible assumption)) | (exact HS.out V _ ⟨xC0, xC1, xC2, xX0, xX1, xX2, Keep.refl 0 0 V⟩ (Keep.refl 0 0 V).drew) | fail)
    (first
      | (go_at_call 30; refine (specCtlFaults_any _ _ _ _).mono ?_; rintro e w2 ⟨vs, rfl, rs, k2⟩)
      | (go_at_call 29; refine (sameInts_eq _ V.heap.size _ (.slice BL nl cl) vs (faultsT t p o) ?_ rs.rd).mono ?_; (refine HR.out _ ?_; with_reducible assumption); (rintro e w3 ⟨rfl, d3⟩); (have k3 := d3.keep 0 0))
      | (go_at_call 31; refine (implCtlOk_any _ _ _ _).mono ?_; rintro e w2 ⟨rfl, k2⟩)
      | (go_at_call 32; refine (implHasTrap_any _ _ _).mono ?_; rintro e w2 ⟨rfl, rfl⟩)
      | (go_at_call 33; refine (specHasTrap_any _ _ _).mono ?_; rintro e w2 ⟨rfl, rfl⟩)
      | (go_at_call 34; refine (implPosts_any _ _ _ _ _).mono ?_; rintro e w2 ⟨rfl, k2⟩)
      | (go_at_call 35; refine (specPosts_any _ _ _ _ _).mono ?_; rintro e w2 ⟨rfl, k2⟩)
      | (go_at_call 36; refine (implCtlText_any _ _ _ lt0 lt1 lp0 lp1 _ ?_).mono ?_; (refine HV.out _ ?_; with_reducible assumption); (rintro e w2 ⟨rfl, k2⟩))
      | (go_at_call 37; refine (specCtlText_any _ _ _ lt0 lt1 lp0 lp1 _).mono ?_; (rintro e w2 ⟨rfl, k2⟩))
      | fail)) | fail
  obtain ⟨_, _, _, _, _, _, K9⟩ : w2.cell? ⟨qC, 0, none⟩ = some (.int .i64 t) ∧ w2.cell? ⟨qC, 1, none⟩ = some (.int .i64 p) ∧ w2.cell? ⟨qC, 2, none⟩ = some (.bool o) ∧ w2.cell? ⟨qX, 0, none⟩ = some (.int .i64 t2) ∧ w2.cell? ⟨qX, 1, none⟩ = some (.int .i64 p2) ∧ w2.cell? ⟨qX, 2, none⟩ = some (.bool o2) ∧ Keep 0 0 V w2 := by with_reducible assumption
  have KW := Lib.hid (KV.out.tr0 K9)
  have BW := Lib.hid (BX.out.keep0 K9)
  have RW := Lib.hid (RL.out.rd.keep K9 (Nat.le_refl _) (.inr (Nat.le_refl 0)))
  clear K9 KV BX BC RL HR HS xC0 xC1 xC2 xX0 xX1 xX2 hck
  go_wp2
  go_loopw [9] (fun i wr => ∃ j q : Nat, j ≤ 4 ∧ i = .int .i64 ((j : Int) + 1) ∧ wr = w2.drewN q) (fun i _ => 6 - (intOf i).toNat)
  case atStart => exact ⟨0, 0, by omega, by simp, rfl⟩
  case round =>
    obtain ⟨j, q, hj, rfl, rfl⟩ := hrel
    by_cases hlt : j + 1 < nl
    · obtain ⟨g, off, x, y, rfl, hx, hy, c0, c1⟩ := RW.out.two_at HN.out hlt
      have hxy := faults_lt hx hy
      have hd : decide (y ≤ x) = false := by simp; omega
      clear hx hy
      go_wp2
      all_goals try (go_quiet (fail); go_wp2)
      go_roundw
      case rel => exact ⟨j + 1, _, by omega, by go_num, rfl⟩
      case measure => simp [intOf]; omega
    · have KD := Lib.hid (KW.out.drewN q)
      have TVD := Lib.hid (TV0.out)
      have BD := Lib.hid (BW.out.keep0 ((Keep.refl 0 0 w2).drewN q))
      obtain ⟨ps, hps⟩ : ∃ ps, postsT t2 p2 o2 n2 = ps := ⟨_, rfl⟩
      have ho := posts_cases hps
      have HP := Lib.hid hps
      clear hps
      rcases ho with rfl | ⟨rfl, rfl⟩
      all_goals
        obtain ⟨y0, y1, y2, _⟩ := BD.out.c3
        go_wp2_with fail
        refine (implPosts_any _ _ _ _ _).mono ?_
        rintro e Z1 ⟨rfl, i1⟩
        rw [HP.out]
        have B1 := BD.out.keep0 i1
        obtain ⟨z0, z1, z2, _⟩ := B1.c3
        have K1 := Lib.hid (KD.out.tr0 i1)
        clear i1 B1 y0 y1 y2
        go_wp2_with fail
        clear z0 z1 z2
        refine (implCtlFaults_any _ _ _ _).mono ?_
        rintro e Z2 ⟨v2, rfl, r2, i2⟩
        rw [show faultsT 4 300 false = [1, 2, 3] from rfl] at r2
        have r3 := r2.rd.keep (keep_1 Z2 (.cells #[.int .i64 1, .int .i64 2, .int .i64 3] 3)) (Nat.le_refl _) (.inr (Nat.le_refl 0))
        have r4 := (Row.lit Z2 3 (sz := 1) (cs := ints [1, 2, 3]) 3 rfl (by unfold maxLen; omega)).rd
        have K2 := (K1.out.tr0 i2).alloc (.cells #[.int .i64 1, .int .i64 2, .int .i64 3] 3)
        clear i2 r2 K1
        go_wp2_with fail
        refine (sameInts_eq _ _ _ _ _ [1, 2, 3] r3 r4).mono ?_
        rintro e Z3 ⟨rfl, d3⟩
        have K3 := K2.tr0 (d3.keep 0 0)
        clear r3 r4 d3 K2
        go_wp2_with fail
        refine (implCtlText_any 1 2 true (by omega) (by omega) (by omega) (by omega) _ (HT0.out.keep K3)).mono ?_
        rintro e Z4 ⟨rfl, i4⟩
        rw [ctl_text]
        have K4 := K3.tr0 i4
        clear K3 i4
        go_wp2
        go_ret
        exact ⟨rfl, K4.below⟩

theorem door_met (os : Os) (args : Array Value) : laidMetH Tryd.prog Rows.fnControlRow.laid ((World.doorLaid Tryd.prog 400 os).forCall (fun _ _ => 0) ⟨#[], args, []⟩).memory :=
  laidMetH_of_parts3 (fuel := 8) (laidMet_of_run' 8 (by kernel_rfl) (by kernel_rfl)) (by kernel_rfl) (by kernel_rfl)
set_option maxRecDepth 100000 in
theorem lifted (os : Os) (started : os.Started) (H : Type) (enc : TypeId × Value → H) :
    ReturnsInHanded {} Tryd.checked os 5 .any (fun w args => (Rows.fnControlSpec.pre enc Tryd.prog Tryd.f5 Rows.fnControlRow.domain false w args ∧ laidMetH Tryd.prog Rows.fnControlRow.laid w) ∧ sizedMet enc Tryd.prog Tryd.f5 (OpenSpec.ofChange Rows.fnControlSpec) false w args)
      (Rows.fnControlSpec.post enc Tryd.prog Tryd.f5 false true false false) := by
  refine returnsInHanded_of_change_and (C := Tryd.checked) (X := fun w _ => laidMetH Tryd.prog Rows.fnControlRow.laid w) (fun _ _ _ hh h => h.of_heap hh) own started (by kernel_rfl) Tryd.func5
    (ChangeSpec.witness_shaped (enc := enc) (C := Tryd.checked) (os := os) (X := fun w _ => laidMetH Tryd.prog Rows.fnControlRow.laid w) false (World.doorLaid Tryd.prog 400 os) #[.slice none 0 0] 8 rfl (World.shaped_of_RefB (by kernel_rfl) (by kernel_rfl)) (by kernel_rfl) (by kernel_rfl) (by kernel_rfl) (door_met os _)) ?_
  intro W base args ds gs before hval0 hW _ _ hL _
  have ht := table hL
  have hval : ∀ (j : Nat) t v, Tryd.f5.params[j]? = some t → args[j]? = some v → Value.okWide Tryd.prog W .any base t v := hval0
  have hW' := hW
  obtain ⟨p, q, hA0, hV, rfl, hfz, hnd⟩ := hW
  have hA : DataW.TrodAll enc Tryd.prog W 0 (fun _ => true) true Tryd.f5.params.toList args.toList ds p := hA0
  rw [Tryd.params5] at hA hval
  obtain ⟨v0, vs0, d0, ds0, p0, q0, hargs, rfl, rfl, h0, r0⟩ := trodAll_cons hA
  obtain ⟨rfl, rfl, rfl⟩ := trodAll_nil r0
  obtain rfl : args = #[v0] := by cases args; simp_all
  obtain ⟨rfl, rfl⟩ := trodVars_none hV
  have k0 := h0
  have lt0 : ∀ x ∈ p0, x.block < W.heap.size := by obtain ⟨m, hm⟩ := k0; exact DataW.trod_lt m _ _ _ hm
  obtain ⟨A0, n0, cap0, rfl⟩ := okWide_slice Tryd.underlying22 (hval 0 22 v0 rfl rfl)
  obtain ⟨xs0, rb0, hl0⟩ := open_byts Tryd.underlying22 Tryd.underlying5 (by kernel_rfl) h0
  clear hA0 hval0
  refine (walk W A0 n0 cap0 xs0 rb0 hl0 ht).mono fun e W' ⟨he, bel⟩ => ?_
  subst he
  exact ⟨_, rfl, _, _, _, [], _, [], hW', trodAll_mk1 (shut_bool Tryd.underlying4 _), (trodAll_cons_mk (Below.trod laidOut (by kernel_rfl) (of_decide_eq_true (by kernel_rfl)) k0 bel lt0) trodAll_mk0), rfl, bel.frame _, fun h => by cases h⟩

theorem over : Rows.fnControlRow.holds Tryd.pinned (OpenSpec.ofChange Rows.fnControlSpec) :=
  OpenClaim.holds_of_wide 5 Tryd.f5 rfl rfl rfl rfl rfl rfl rfl ⟨rfl, rfl, rfl, rfl, rfl⟩ rfl rfl rfl rfl rfl (by kernel_rfl) Tryd.func5 (by kernel_rfl)
    (of_decide_eq_true (by kernel_rfl)) (by unfold Func.isWrapper; first | (rw [if_pos (by decide +kernel)]; kernel_rfl) | (rw [if_neg (by decide +kernel)]; exact ⟨rfl, rfl⟩))
    (fun os started H enc _ => lifted os started H enc)

theorem plain (f : FuncId) (fn : Func) (hf : Tryd.pinned.checked.prog.funcNamed "loop.example/g00975/laws.FnControl" = some f) (hfn : Tryd.pinned.checked.prog.funcs[f]? = some fn) :
    false = Tryd.pinned.checked.prog.looks [] ∧ ∀ (j : Nat) t, fn.params[j]? = some t → Tryd.pinned.checked.prog.wantsStandIn t = false := by
  obtain rfl : f = 5 := Option.some.inj ((show Tryd.prog.funcNamed "loop.example/g00975/laws.FnControl" = some 5 by kernel_rfl).symm.trans hf) |>.symm
  obtain rfl : fn = Tryd.f5 := (Option.some.inj (Tryd.func5.symm.trans hfn)).symm
  refine ⟨by kernel_rfl, fun j t ht => ?_⟩
  rw [Tryd.params5] at ht
  have hall : ([22].all fun u => !Tryd.prog.wantsStandIn u) = true := by kernel_rfl
  have hm : t ∈ [22] := by simpa using Array.mem_of_getElem? ht
  exact (show Tryd.prog.wantsStandIn t = false by simpa using List.all_eq_true.1 hall t hm)
/-- The given statement: the card. -/
theorem proved : Rows.FnControlCardSaid :=
  Claim7.holds_tied_plain_at .later [] _ _ _ _ over (fun _ h => by cases h) (by kernel_rfl) (fun _ h => by cases h) fnControl_row_tie rfl ⟨rfl, rfl⟩ (by kernel_rfl) rfl plain (by kernel_rfl)

end Go.Proofs.YtdlcchoemladnaaDoor.fnControl
