/-
  For every draw: an instruction that is right touches a page of its guest, or none; behind the last one a program halts; the program's instructions, programs and names are the reference's. No condition.
-/
import Derived.Test.YtdlcchoemladnaaRows
import Derived.WalkKit
import Derived.ProofKit
import Derived.OpenShut
import Derived.ShutString
import Derived.ChangeOld
import Derived.Below
import Derived.Lib.SmallJoins
import Derived.WalkSpells
import Derived.Test.YtdlcchoemladnaaDrJ
import Derived.Test.YtdlcchoemladnaaCode
import Derived.Test.YtdlcchoemladnaaSamS
import Derived.Test.YtdlcchoemladnaaPlc
import Derived.Test.YtdlcchoemladnaaOpen
import Derived.Test.YtdlcchoemladnaaOne
import Derived.Handy
import Derived.Deep.QuietTactic
import Derived.BigQuiet
import Derived.Deep.RegionHeld3
import Derived.Deep.RegionHeld
import Derived.Deep.DrawnRows
import Derived.Deep.Cut
import Derived.Deep.DeepCutAuto
namespace Go.Proofs.Ytdlcchoemladnaa.fnCode
open Go.ChangeShapes Go.WideShapes Go.ChangeAt Go.RowKit
set_option linter.unusedVariables false

theorem own : ownKnob Try.prog.godebug = none := by kernel_rfl
theorem laidOut : laidOutB Try.prog = true := by kernel_rfl

attribute [local go_sem ↓] Go.wp_at_zero Go.wp_at_succ
theorem lapp_cons {α : Type} (a : α) (l k : List α) : List.append (a :: l) k = a :: List.append l k := rfl
theorem lapp_nil {α : Type} (k : List α) : List.append [] k = k := rfl
set_option maxRecDepth 100000 in
theorem walk_big (w : World) (A : Option Addr) (n c : Nat) (hc9 : n ≤ 9223372036854775807) (hbig : bigT n = true) :
    Calls Try.prog 4 #[.slice A n c] w fun e w' => e = .returned (.bool true) ∧ Below w.heap.size w w' := by
  go_enter Try.func4, Try.ntmps4
  go_wp2_with fail
  refine (big_any A n c hc9 _).mono ?_
  rintro e w' ⟨rfl, rfl⟩
  rw [hbig]
  go_wp2
  go_ret
  exact ⟨rfl, Below.refl _ _⟩
set_option maxRecDepth 100000 in
set_option maxHeartbeats 16000000 in
theorem walk (w : World) (A : Option Addr) (n c : Nat) (xs : List Int) (rb : Rd w w.heap.size 1 (.slice A n c) (byts xs)) (hl : xs.length = n) :
    Calls Try.prog 4 #[.slice A n c] w fun e w' => e = .returned (.bool true) ∧ Below w.heap.size w w' := by
  have hc9 : n ≤ 9223372036854775807 := by obtain ⟨_, _, _, e, h1, h2, _⟩ := rb; injection e with _ e2 e3; unfold maxLen at h2; omega
  clear hl
  rcases Bool.eq_false_or_eq_true (bigT n) with hbig | hbig
  · exact walk_big w A n c hc9 hbig
  go_enter Try.func4, Try.ntmps4
  go_wp2_with fail
  refine (big_any A n c hc9 _).mono ?_
  rintro e w' ⟨rfl, rfl⟩
  rw [hbig]
  clear hbig
  go_wp2_with fail
  have K0 := Keep.refl 0 0 w
  have RB0 := rb
  refine (DrawTouches_any _ _ xs RB0).mono ?_
  rintro e W1 ⟨op, ar, rfl, k1⟩
  have K1 := K0.tr0 k1
  have RB1 := (RB0.keep k1 (Nat.le_refl _) (.inr (Nat.le_refl 0))).mono k1.size
  clear K0 k1 RB0
  obtain ⟨W2, hW2⟩ : ∃ W2, W2 = W1.alloc (.cells #[.int .i64 op, .int .i64 ar] 44) := ⟨_, rfl⟩
  have k2 : Keep 0 0 W1 W2 := by rw [hW2]; exact keep_1 W1 _
  have K2 := K1.tr0 k2
  have RB2 := (RB1.keep k2 (Nat.le_refl _) (.inr (Nat.le_refl 0))).mono k2.size
  clear K1 k2 RB1
  have BI := Lib.hid (show Lo W2 W1.heap.size 44 #[.int .i64 op, .int .i64 ar] by rw [hW2]; exact Lo.new W1 44 #[.int .i64 op, .int .i64 ar] rfl)
  go_wp2_with fail
  rw [← hW2]
  clear hW2
  generalize W1.heap.size = qI at BI ⊢
  refine (implTouches_any _ _ _).mono ?_
  rintro e W3 ⟨rfl, k3⟩
  have K3 := K2.tr0 k3
  have RB3 := (RB2.keep k3 (Nat.le_refl _) (.inr (Nat.le_refl 0))).mono k3.size
  replace BI := Lib.hid (BI.out.keep0 k3)
  clear K2 k3 RB2
  obtain ⟨xI0, xI1, _⟩ := BI.out.c2
  go_wp2_with fail
  clear xI0 xI1
  refine (specTouches_any _ _ _).mono ?_
  rintro e W4 ⟨rfl, k4⟩
  have K4 := K3.tr0 k4
  have RB4 := (RB3.keep k4 (Nat.le_refl _) (.inr (Nat.le_refl 0))).mono k4.size
  replace BI := Lib.hid (BI.out.keep0 k4)
  clear K3 k4 RB3
  obtain ⟨xI0, xI1, _⟩ := BI.out.c2
  go_wp2_with fail
  clear xI0 xI1
  refine (DrawProgOk_any _ _ xs RB4).mono ?_
  rintro e W5 ⟨pv, pl, rfl, hpl, r5, k5⟩
  have K5 := K4.tr0 k5
  have RB5 := (RB4.keep k5 (Nat.le_refl _) (.inr (Nat.le_refl 0))).mono k5.size
  replace BI := Lib.hid (BI.out.keep0 k5)
  clear K4 k5 RB4
  have HP := Lib.hid r5
  clear r5
  obtain ⟨xI0, xI1, _⟩ := BI.out.c2
  go_wp2_with fail
  clear xI0 xI1
  refine (DrawInsAt_any _ _ xs RB5).mono ?_
  rintro e W6 ⟨qv, ql, pc, rfl, hql, r6, k6⟩
  have K6 := K5.tr0 k6
  have RB6 := (RB5.keep k6 (Nat.le_refl _) (.inr (Nat.le_refl 0))).mono k6.size
  replace BI := Lib.hid (BI.out.keep0 k6)
  replace HP := Lib.hid ((HP.out.keep k6 (.inr (.inr (Nat.le_refl 0)))).mono (Nat.le_refl _) k6.size)
  clear K5 k6 RB5
  have HQ := Lib.hid r6
  clear r6
  obtain ⟨xI0, xI1, _⟩ := BI.out.c2
  go_wp2_with fail
  clear xI0 xI1
  refine (DrawOpName_any _ _ xs RB6).mono ?_
  rintro e W7 ⟨nm, rfl, k7⟩
  have K7 := K6.tr0 k7
  have RB7 := (RB6.keep k7 (Nat.le_refl _) (.inr (Nat.le_refl 0))).mono k7.size
  replace BI := Lib.hid (BI.out.keep0 k7)
  replace HP := Lib.hid ((HP.out.keep k7 (.inr (.inr (Nat.le_refl 0)))).mono (Nat.le_refl _) k7.size)
  replace HQ := Lib.hid ((HQ.out.keep k7 (.inr (.inr (Nat.le_refl 0)))).mono (Nat.le_refl _) k7.size)
  clear K6 k7 RB6
  obtain ⟨xI0, xI1, _⟩ := BI.out.c2
  go_wp2_with fail
  clear xI0 xI1
  refine (DrawSameProg_any _ _ xs RB7).mono ?_
  rintro e W8 ⟨xv, yv, lx, ly, rfl, r8, s8, k8⟩
  have K8 := K7.tr0 k8
  have RB8 := (RB7.keep k8 (Nat.le_refl _) (.inr (Nat.le_refl 0))).mono k8.size
  replace BI := Lib.hid (BI.out.keep0 k8)
  replace HP := Lib.hid ((HP.out.keep k8 (.inr (.inr (Nat.le_refl 0)))).mono (Nat.le_refl _) k8.size)
  replace HQ := Lib.hid ((HQ.out.keep k8 (.inr (.inr (Nat.le_refl 0)))).mono (Nat.le_refl _) k8.size)
  clear K7 k8 RB7
  have HX := Lib.hid r8
  clear r8
  have HY := Lib.hid s8
  clear s8
  clear RB8
  obtain ⟨xI0, xI1, _⟩ := BI.out.c2
  obtain ⟨⟨e0, e1⟩, hE⟩ : ∃ e, insAtT ql pc = e := ⟨_, rfl⟩
  have HE := Lib.hid hE
  clear hE
  obtain ⟨tp, htp⟩ : ∃ z, touchP op ar = z := ⟨_, rfl⟩
  obtain ⟨tn, htn⟩ : ∃ z, touchN op = z := ⟨_, rfl⟩
  rw [htp, htn]
  have HT := Lib.hid htp
  clear htp htn
  go_upto_region 10 with (fail)
  clear xI0 xI1
  generalize W8 = V at K8 BI HP HQ HX HY ⊢
  have KV := Lib.hid K8
  clear K8
  obtain ⟨xI0, xI1, _⟩ := BI.out.c2
  have HS := Lib.hid (show ∀ w1 w2 : World, (w1.cell? ⟨qI, 0, none⟩ = some (.int .i64 op) ∧ w1.cell? ⟨qI, 1, none⟩ = some (.int .i64 ar) ∧ Keep 0 0 V w1) → Keep 0 0 w1 w2 → (w2.cell? ⟨qI, 0, none⟩ = some (.int .i64 op) ∧ w2.cell? ⟨qI, 1, none⟩ = some (.int .i64 ar) ∧ Keep 0 0 V w2) from fun w1 w2 ⟨h0, h1, h2⟩ k => ⟨(k.cell0 (p := ⟨qI, 0, none⟩) (World.block_lt_of_cell? _ _ h0)).trans h0, (k.cell0 (p := ⟨qI, 1, none⟩) (World.block_lt_of_cell? _ _ h1)).trans h1, h2.tr0 k⟩)
  have RP := Lib.hid (show ∀ w1 : World, (w1.cell? ⟨qI, 0, none⟩ = some (.int .i64 op) ∧ w1.cell? ⟨qI, 1, none⟩ = some (.int .i64 ar) ∧ Keep 0 0 V w1) → Rd w1 V.heap.size 2 pv (ints (twosI pl)) from fun w1 ⟨_, _, k⟩ => HP.out.rd.keep k (Nat.le_refl _) (.inr (Nat.le_refl 0)))
  have RQ := Lib.hid (show ∀ w1 : World, (w1.cell? ⟨qI, 0, none⟩ = some (.int .i64 op) ∧ w1.cell? ⟨qI, 1, none⟩ = some (.int .i64 ar) ∧ Keep 0 0 V w1) → Rd w1 V.heap.size 2 qv (ints (twosI ql)) from fun w1 ⟨_, _, k⟩ => HQ.out.rd.keep k (Nat.le_refl _) (.inr (Nat.le_refl 0)))
  have RX := Lib.hid (show ∀ w1 : World, (w1.cell? ⟨qI, 0, none⟩ = some (.int .i64 op) ∧ w1.cell? ⟨qI, 1, none⟩ = some (.int .i64 ar) ∧ Keep 0 0 V w1) → Rd w1 V.heap.size 2 xv (ints (twosI lx)) from fun w1 ⟨_, _, k⟩ => HX.out.rd.keep k (Nat.le_refl _) (.inr (Nat.le_refl 0)))
  have RY := Lib.hid (show ∀ w1 : World, (w1.cell? ⟨qI, 0, none⟩ = some (.int .i64 op) ∧ w1.cell? ⟨qI, 1, none⟩ = some (.int .i64 ar) ∧ Keep 0 0 V w1) → Rd w1 V.heap.size 2 yv (ints (twosI ly)) from fun w1 ⟨_, _, k⟩ => HY.out.rd.keep k (Nat.le_refl _) (.inr (Nat.le_refl 0)))
  first | (go_region_held3 (fun w' => w'.cell? ⟨qI, 0, none⟩ = some (.int .i64 op) ∧ w'.cell? ⟨qI, 1, none⟩ = some (.int .i64 ar) ∧ Keep 0 0 V w')
    (first | (with_reducible assumption) | (refine HS.out ?_ _ ?_ ?_; rotate_right; (with_reducible assumption); (with_reducible assumption)) | (exact HS.out V _ ⟨xI0, xI1, Keep.refl 0 0 V⟩ (Keep.refl 0 0 V).drew) | fail)
    (first
      | (go_at_call 34; refine (implInsOk_any _ _ _).mono ?_; rintro e w2 ⟨rfl, k2⟩)
      | (go_at_call 36; refine (implProgOk_any _ V.heap.size pv pl ?_ (by omega)).mono ?_; (refine RP.out _ ?_; with_reducible assumption); (rintro e w2 ⟨rfl, k2⟩))
      | (go_at_call 38; refine (implInsAt_any _ V.heap.size qv ql pc ?_ (by omega) e0 e1 HE.out).mono ?_; (refine RQ.out _ ?_; with_reducible assumption); (rintro e w2 ⟨rfl, k2⟩))
      | (go_at_call 40; refine (implOpName_any _ _).mono ?_; rintro e w2 ⟨rfl, k2⟩)
      | (go_at_call 35; refine (specInsOk_any _ _ _).mono ?_; rintro e w2 ⟨rfl, k2⟩)
      | (go_at_call 37; refine (specProgOk_any _ V.heap.size pv pl ?_ (by omega)).mono ?_; (refine RP.out _ ?_; with_reducible assumption); (rintro e w2 ⟨rfl, k2⟩))
      | (go_at_call 39; refine (specInsAt_any _ V.heap.size qv ql pc ?_ (by omega) e0 e1 HE.out).mono ?_; (refine RQ.out _ ?_; with_reducible assumption); (rintro e w2 ⟨rfl, k2⟩))
      | (go_at_call 41; refine (specOpName_any _ _).mono ?_; rintro e w2 ⟨rfl, k2⟩)
      | (go_at_call 42; refine (implSameProg_any _ V.heap.size V.heap.size xv yv (twosI lx) (twosI ly) ?_ ?_).mono ?_; (refine RX.out _ ?_; with_reducible assumption); (refine RY.out _ ?_; with_reducible assumption); (rintro e w2 ⟨rfl, d2⟩; have k2 := d2.keep 0 0))
      | (go_at_call 43; refine (sameInss_any _ V.heap.size V.heap.size xv yv (twosI lx) (twosI ly) ?_ ?_).mono ?_; (refine RX.out _ ?_; with_reducible assumption); (refine RY.out _ ?_; with_reducible assumption); (rintro e w2 ⟨rfl, d2⟩; have k2 := d2.keep 0 0))
      | fail)) | fail
  rename_i hH
  obtain ⟨x0, x1, K9⟩ := hH
  have KW := Lib.hid (KV.out.tr0 K9)
  clear K9 KV BI HP HQ HX HY RP RQ RX RY HS HE xI0 xI1
  obtain ⟨ok, hok⟩ : ∃ ok, insT op ar = ok := ⟨_, rfl⟩
  rcases ok with _ | _
  · skip
    have HOK := Lib.hid hok
    clear hok
    go_wp2_with (go_at_call 35; refine (specInsOk_any _ _ _).mono ?_; rintro e X1 ⟨rfl, i1⟩; rw [HOK.out])
    go_at_call 38
    refine (at_nil _).mono ?_
    rintro e X2 ⟨rfl, i2⟩
    go_wp2_with (go_at_call 40; refine (name_8 _).mono ?_; rintro e X3 ⟨rfl, i3⟩)
    go_at_call 38
    refine (at_lit _ _ rfl).mono ?_
    rintro e X4 ⟨rfl, i4⟩
    have hfd : ∀ w : World, (Instr.field 44 (.agg #[.int .i64 1, .int .i64 5]) 1).run Try.prog w = .ok (.int .i64 5) w := fun _ => by kernel_rfl
    go_wp2_with fail
    go_ret
    exact ⟨rfl, ((((KW.out.tr0 i1).tr0 i2).tr0 i3).tr0 i4).below⟩
  · skip
    have hb := touch_in hok
    rw [HT.out] at hb
    have d1 : decide (-1 ≤ tp) = true := by simpa using hb.1
    have d2 : decide (tp ≤ 3) = true := by simpa using hb.2
    have HOK := Lib.hid hok
    clear hok hb
    go_wp2_with (go_at_call 35; refine (specInsOk_any _ _ _).mono ?_; rintro e X1 ⟨rfl, i1⟩; rw [HOK.out])
    go_at_call 38
    refine (at_nil _).mono ?_
    rintro e X2 ⟨rfl, i2⟩
    go_wp2_with (go_at_call 40; refine (name_8 _).mono ?_; rintro e X3 ⟨rfl, i3⟩)
    go_at_call 38
    refine (at_lit _ _ rfl).mono ?_
    rintro e X4 ⟨rfl, i4⟩
    have hfd : ∀ w : World, (Instr.field 44 (.agg #[.int .i64 1, .int .i64 5]) 1).run Try.prog w = .ok (.int .i64 5) w := fun _ => by kernel_rfl
    go_wp2_with fail
    go_ret
    exact ⟨rfl, ((((KW.out.tr0 i1).tr0 i2).tr0 i3).tr0 i4).below⟩

set_option maxRecDepth 100000 in
theorem lifted (os : Os) (started : os.Started) (H : Type) (enc : TypeId × Value → H) :
    ReturnsInHanded {} Try.checked os 4 .any (Rows.fnCodeSpec.pre6 enc Try.prog Try.f4 Rows.fnCodeRow.domain false) (Rows.fnCodeSpec.post enc Try.prog Try.f4 false true false false) := by
  refine returnsInHanded_of_change (C := Try.checked) own started (by kernel_rfl) Try.func4
    (ChangeSpec.witness6 (enc := enc) (C := Try.checked) false ⟨#[], #[.slice none 0 0], []⟩ 8 (by kernel_rfl) (by kernel_rfl) (by kernel_rfl) (by kernel_rfl)) ?_
  intro W base args ds gs before hval0 hW hcnd _
  have hval : ∀ (j : Nat) t v, Try.f4.params[j]? = some t → args[j]? = some v → Value.okWide Try.prog W .any base t v := hval0
  have hW' := hW
  obtain ⟨p, q, hA0, hV, rfl, hfz, hnd⟩ := hW
  have hA : DataW.TrodAll enc Try.prog W 0 (fun _ => true) true Try.f4.params.toList args.toList ds p := hA0
  rw [Try.params4] at hA hval
  obtain ⟨v0, vs0, d0, ds0, p0, q0, hargs, rfl, rfl, h0, r0⟩ := trodAll_cons hA
  obtain ⟨rfl, rfl, rfl⟩ := trodAll_nil r0
  obtain rfl : args = #[v0] := by cases args; simp_all
  obtain ⟨rfl, rfl⟩ := trodVars_none hV
  have k0 := h0
  have lt0 : ∀ x ∈ p0, x.block < W.heap.size := by obtain ⟨m, hm⟩ := k0; exact DataW.trod_lt m _ _ _ hm
  obtain ⟨A0, n0, cap0, rfl⟩ := okWide_slice Try.underlying22 (hval 0 22 v0 rfl rfl)
  obtain ⟨xs0, rb0, hl0⟩ := open_byts Try.underlying22 Try.underlying5 (by kernel_rfl) h0
  clear hA0 hval0
  refine (walk W A0 n0 cap0 xs0 rb0 hl0).mono fun e W' ⟨he, bel⟩ => ?_
  subst he
  exact ⟨_, rfl, _, _, _, [], _, [], hW', trodAll_mk1 (shut_bool Try.underlying4 _), (trodAll_cons_mk (Below.trod laidOut (by kernel_rfl) (of_decide_eq_true (by kernel_rfl)) k0 bel lt0) trodAll_mk0), rfl, bel.frame _, fun h => by cases h⟩

theorem over : Rows.fnCodeRow.holds Try.pinned (OpenSpec.ofChange Rows.fnCodeSpec) :=
  OpenClaim.holds_of_wide 4 Try.f4 rfl rfl rfl rfl rfl rfl rfl ⟨rfl, rfl, rfl, rfl, rfl⟩ rfl rfl rfl rfl rfl (by kernel_rfl) Try.func4 (by kernel_rfl)
    (of_decide_eq_true (by kernel_rfl)) (by unfold Func.isWrapper; first | (rw [if_pos (by decide +kernel)]; kernel_rfl) | (rw [if_neg (by decide +kernel)]; exact ⟨rfl, rfl⟩))
    (fun os started H enc _ => lifted os started H enc)

/-- The given statement. -/
theorem proved : Rows.FnCodeSaid := over
end Go.Proofs.Ytdlcchoemladnaa.fnCode
