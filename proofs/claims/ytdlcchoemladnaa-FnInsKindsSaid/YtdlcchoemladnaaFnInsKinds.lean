/-
  For every draw: an instruction of each kind is valid in that kind's own range and nowhere beside it; loads and stores alone touch a page; a store alone needs to write. No condition.
-/
import Derived.Test.YtdlcchoemladnaaRows
import Derived.WalkKit
import Derived.ProofKit
import Derived.OpenShut
import Derived.ShutString
import Derived.ChangeOld
import Derived.Below
import Derived.Lib.SmallJoins
import Derived.WalkSpells
import Derived.Test.YtdlcchoemladnaaPlc
import Derived.Test.YtdlcchoemladnaaOpen
import Derived.Test.YtdlcchoemladnaaOne
import Derived.Test.YtdlcchoemladnaaKinds
import Derived.Handy
import Derived.Deep.QuietTactic
import Derived.BigQuiet
import Derived.Deep.RegionHeld3
namespace Go.Proofs.Ytdlcchoemladnaa.fnInsKinds
open Go.ChangeShapes Go.WideShapes Go.ChangeAt Go.RowKit
set_option linter.unusedVariables false

theorem own : ownKnob Try.prog.godebug = none := by kernel_rfl
theorem laidOut : laidOutB Try.prog = true := by kernel_rfl

set_option maxRecDepth 100000 in
set_option maxHeartbeats 8000000 in
theorem walk (w : World) (A : Option Addr) (n c : Nat) (xs : List Int) (rb : Rd w w.heap.size 1 (.slice A n c) (byts xs)) (hl : xs.length = n) :
    Calls Try.prog 5 #[.slice A n c] w fun e w' => e = .returned (.bool true) ∧ Below w.heap.size w w' := by
  have hc9 : n ≤ 9223372036854775807 := by obtain ⟨_, _, _, e, h1, h2, _⟩ := rb; injection e with _ e2 e3; unfold maxLen at h2; omega
  clear hl
  rcases Bool.eq_false_or_eq_true (bigT n) with hbig | hbig
  · go_enter Try.func5, Try.ntmps5
    go_wp2_with fail
    refine (big_any A n c hc9 _).mono ?_
    rintro e w' ⟨rfl, rfl⟩
    rw [hbig]
    go_wp2
    go_ret
    exact ⟨rfl, Below.refl _ _⟩
  go_enter Try.func5, Try.ntmps5
  go_wp2_with fail
  refine (big_any A n c hc9 _).mono ?_
  rintro e w' ⟨rfl, rfl⟩
  rw [hbig]
  clear hbig
  go_wp2_with fail
  refine (DrawPlaces_any _ _ xs rb).mono ?_
  rintro e V1 ⟨v, l, rfl, hl, hx, hr, k1⟩
  obtain ⟨g, off, c1, p0, p1, p2, p3, p4, rfl, hg0, hg1, e0, e1, e2, e3, e4, ⟨b00, b01⟩, ⟨b10, b11⟩, ⟨b20, b21⟩, ⟨b30, b31⟩, ⟨b40, b41⟩⟩ := places_open hl hx hr
  clear e2 e3 e4 b20 b21 b30 b31 b40 b41 hl hx hr hg0 hg1
  have hop := eight (p0 % 8) (by omega) (by omega)
  have d1 : ∀ X, (V1.alloc X).cell? ⟨g, off + 1, none⟩ = some (.int .i64 p1) := fun X => (World.cell?_alloc_lt V1 X ⟨g, off + 1, none⟩ (World.block_lt_of_cell? V1 _ e1)).trans e1
  clear e1
  rcases hop with ho | ho | ho | ho | ho | ho | ho | ho
  · have t1 : insT 1 (p1 % 100) = true := inB_t (by omega) (by omega)
    have t2 : insT 1 99 = true := rfl
    have t3 : insT 1 100 = false := rfl
    have t4 : insT 1 (-1) = false := rfl
    have t5 : touchP 1 (p1 % 100) = -1 := rfl
    have t6 : touchN 1 = 0 := rfl
    go_wp2_with fail
    refine (implTouches_any _ _ _).mono ?_
    rintro e W1 ⟨rfl, j1⟩
    have s1 := j1.size
    have K1 := (k1.alloc _).tr0 j1
    clear j1 d1
    go_wp2_with fail
    refine (implInsOk_any _ _ _).mono ?_
    rintro e W2 ⟨rfl, k2⟩
    have s2 := k2.size
    have K2 := K1.tr0 k2
    clear K1 k2
    go_wp2_with fail
    refine (implInsOk_any _ _ _).mono ?_
    rintro e W3 ⟨rfl, k3⟩
    have s3 := k3.size
    have K3 := K2.tr0 k3
    clear K2 k3
    go_wp2_with fail
    refine (implInsOk_any _ _ _).mono ?_
    rintro e W4 ⟨rfl, k4⟩
    have s4 := k4.size
    have K4 := K3.tr0 k4
    clear K3 k4
    go_wp2_with fail
    refine (implInsOk_any _ _ _).mono ?_
    rintro e W5 ⟨rfl, k5⟩
    have s5 := k5.size
    have K5 := K4.tr0 k5
    clear K4 k5
    go_wp2
    go_ret
    exact ⟨rfl, K5.below⟩
  · have t1 : insT 2 (p1 % 100) = true := inB_t (by omega) (by omega)
    have t2 : insT 2 99 = true := rfl
    have t3 : insT 2 100 = false := rfl
    have t4 : insT 2 (-1) = false := rfl
    have t5 : touchP 2 (p1 % 100) = -1 := rfl
    have t6 : touchN 2 = 0 := rfl
    go_wp2_with fail
    refine (implTouches_any _ _ _).mono ?_
    rintro e W1 ⟨rfl, j1⟩
    have s1 := j1.size
    have K1 := (k1.alloc _).tr0 j1
    clear j1 d1
    go_wp2_with fail
    refine (implInsOk_any _ _ _).mono ?_
    rintro e W2 ⟨rfl, k2⟩
    have s2 := k2.size
    have K2 := K1.tr0 k2
    clear K1 k2
    go_wp2_with fail
    refine (implInsOk_any _ _ _).mono ?_
    rintro e W3 ⟨rfl, k3⟩
    have s3 := k3.size
    have K3 := K2.tr0 k3
    clear K2 k3
    go_wp2_with fail
    refine (implInsOk_any _ _ _).mono ?_
    rintro e W4 ⟨rfl, k4⟩
    have s4 := k4.size
    have K4 := K3.tr0 k4
    clear K3 k4
    go_wp2_with fail
    refine (implInsOk_any _ _ _).mono ?_
    rintro e W5 ⟨rfl, k5⟩
    have s5 := k5.size
    have K5 := K4.tr0 k5
    clear K4 k5
    go_wp2
    go_ret
    exact ⟨rfl, K5.below⟩
  · have t1 : insT 3 (p1 % 16) = true := inB_t (by omega) (by omega)
    have t2 : insT 3 15 = true := rfl
    have t3 : insT 3 16 = false := rfl
    have t4 : insT 3 (-1) = false := rfl
    have t5 : 0 ≤ touchP 3 (p1 % 16) := page_low _ (by omega)
    have t6 : touchN 3 = 1 := rfl
    go_wp2_with fail
    refine (implTouches_any _ _ _).mono ?_
    rintro e W1 ⟨rfl, j1⟩
    have s1 := j1.size
    have K1 := (k1.alloc _).tr0 j1
    clear j1 d1
    go_wp2_with fail
    refine (implInsOk_any _ _ _).mono ?_
    rintro e W2 ⟨rfl, k2⟩
    have s2 := k2.size
    have K2 := K1.tr0 k2
    clear K1 k2
    go_wp2_with fail
    refine (implInsOk_any _ _ _).mono ?_
    rintro e W3 ⟨rfl, k3⟩
    have s3 := k3.size
    have K3 := K2.tr0 k3
    clear K2 k3
    go_wp2_with fail
    refine (implInsOk_any _ _ _).mono ?_
    rintro e W4 ⟨rfl, k4⟩
    have s4 := k4.size
    have K4 := K3.tr0 k4
    clear K3 k4
    go_wp2_with fail
    refine (implInsOk_any _ _ _).mono ?_
    rintro e W5 ⟨rfl, k5⟩
    have s5 := k5.size
    have K5 := K4.tr0 k5
    clear K4 k5
    go_wp2
    go_ret
    exact ⟨rfl, K5.below⟩
  · have t1 : insT 4 (p1 % 16) = true := inB_t (by omega) (by omega)
    have t2 : insT 4 15 = true := rfl
    have t3 : insT 4 16 = false := rfl
    have t4 : insT 4 (-1) = false := rfl
    have t5 : 0 ≤ touchP 4 (p1 % 16) := page_low _ (by omega)
    have t6 : touchN 4 = 2 := rfl
    go_wp2_with fail
    refine (implTouches_any _ _ _).mono ?_
    rintro e W1 ⟨rfl, j1⟩
    have s1 := j1.size
    have K1 := (k1.alloc _).tr0 j1
    clear j1 d1
    go_wp2_with fail
    refine (implInsOk_any _ _ _).mono ?_
    rintro e W2 ⟨rfl, k2⟩
    have s2 := k2.size
    have K2 := K1.tr0 k2
    clear K1 k2
    go_wp2_with fail
    refine (implInsOk_any _ _ _).mono ?_
    rintro e W3 ⟨rfl, k3⟩
    have s3 := k3.size
    have K3 := K2.tr0 k3
    clear K2 k3
    go_wp2_with fail
    refine (implInsOk_any _ _ _).mono ?_
    rintro e W4 ⟨rfl, k4⟩
    have s4 := k4.size
    have K4 := K3.tr0 k4
    clear K3 k4
    go_wp2_with fail
    refine (implInsOk_any _ _ _).mono ?_
    rintro e W5 ⟨rfl, k5⟩
    have s5 := k5.size
    have K5 := K4.tr0 k5
    clear K4 k5
    go_wp2
    go_ret
    exact ⟨rfl, K5.below⟩
  · have t1 : insT 5 (p1 % 100) = true := inB_t (by omega) (by omega)
    have t2 : insT 5 99 = true := rfl
    have t3 : insT 5 100 = false := rfl
    have t4 : insT 5 (-1) = false := rfl
    have t5 : touchP 5 (p1 % 100) = -1 := rfl
    have t6 : touchN 5 = 0 := rfl
    go_wp2_with fail
    refine (implTouches_any _ _ _).mono ?_
    rintro e W1 ⟨rfl, j1⟩
    have s1 := j1.size
    have K1 := (k1.alloc _).tr0 j1
    clear j1 d1
    go_wp2_with fail
    refine (implInsOk_any _ _ _).mono ?_
    rintro e W2 ⟨rfl, k2⟩
    have s2 := k2.size
    have K2 := K1.tr0 k2
    clear K1 k2
    go_wp2_with fail
    refine (implInsOk_any _ _ _).mono ?_
    rintro e W3 ⟨rfl, k3⟩
    have s3 := k3.size
    have K3 := K2.tr0 k3
    clear K2 k3
    go_wp2_with fail
    refine (implInsOk_any _ _ _).mono ?_
    rintro e W4 ⟨rfl, k4⟩
    have s4 := k4.size
    have K4 := K3.tr0 k4
    clear K3 k4
    go_wp2_with fail
    refine (implInsOk_any _ _ _).mono ?_
    rintro e W5 ⟨rfl, k5⟩
    have s5 := k5.size
    have K5 := K4.tr0 k5
    clear K4 k5
    go_wp2
    go_ret
    exact ⟨rfl, K5.below⟩
  · have t1 : insT 6 (p1 % 100) = true := inB_t (by omega) (by omega)
    have t2 : insT 6 99 = true := rfl
    have t3 : insT 6 100 = false := rfl
    have t4 : insT 6 (-1) = false := rfl
    have t5 : touchP 6 (p1 % 100) = -1 := rfl
    have t6 : touchN 6 = 0 := rfl
    go_wp2_with fail
    refine (implTouches_any _ _ _).mono ?_
    rintro e W1 ⟨rfl, j1⟩
    have s1 := j1.size
    have K1 := (k1.alloc _).tr0 j1
    clear j1 d1
    go_wp2_with fail
    refine (implInsOk_any _ _ _).mono ?_
    rintro e W2 ⟨rfl, k2⟩
    have s2 := k2.size
    have K2 := K1.tr0 k2
    clear K1 k2
    go_wp2_with fail
    refine (implInsOk_any _ _ _).mono ?_
    rintro e W3 ⟨rfl, k3⟩
    have s3 := k3.size
    have K3 := K2.tr0 k3
    clear K2 k3
    go_wp2_with fail
    refine (implInsOk_any _ _ _).mono ?_
    rintro e W4 ⟨rfl, k4⟩
    have s4 := k4.size
    have K4 := K3.tr0 k4
    clear K3 k4
    go_wp2_with fail
    refine (implInsOk_any _ _ _).mono ?_
    rintro e W5 ⟨rfl, k5⟩
    have s5 := k5.size
    have K5 := K4.tr0 k5
    clear K4 k5
    go_wp2
    go_ret
    exact ⟨rfl, K5.below⟩
  · have t1 : insT 7 (0) = true := rfl
    have t2 : insT 7 0 = true := rfl
    have t3 : insT 7 1 = false := rfl
    have t4 : insT 7 (-1) = false := rfl
    have t5 : touchP 7 (0) = -1 := rfl
    have t6 : touchN 7 = 0 := rfl
    go_wp2_with fail
    refine (implTouches_any _ _ _).mono ?_
    rintro e W1 ⟨rfl, j1⟩
    have s1 := j1.size
    have K1 := (k1.alloc _).tr0 j1
    clear j1 d1
    go_wp2_with fail
    refine (implInsOk_any _ _ _).mono ?_
    rintro e W2 ⟨rfl, k2⟩
    have s2 := k2.size
    have K2 := K1.tr0 k2
    clear K1 k2
    go_wp2_with fail
    refine (implInsOk_any _ _ _).mono ?_
    rintro e W3 ⟨rfl, k3⟩
    have s3 := k3.size
    have K3 := K2.tr0 k3
    clear K2 k3
    go_wp2_with fail
    refine (implInsOk_any _ _ _).mono ?_
    rintro e W4 ⟨rfl, k4⟩
    have s4 := k4.size
    have K4 := K3.tr0 k4
    clear K3 k4
    go_wp2_with fail
    refine (implInsOk_any _ _ _).mono ?_
    rintro e W5 ⟨rfl, k5⟩
    have s5 := k5.size
    have K5 := K4.tr0 k5
    clear K4 k5
    go_wp2
    go_ret
    exact ⟨rfl, K5.below⟩
  · have t1 : insT 8 (p1 % 12) = true := inB_t (by omega) (by omega)
    have t2 : insT 8 11 = true := rfl
    have t3 : insT 8 12 = false := rfl
    have t4 : insT 8 (-1) = false := rfl
    have t5 : touchP 8 (p1 % 12) = -1 := rfl
    have t6 : touchN 8 = 0 := rfl
    go_wp2_with fail
    refine (implTouches_any _ _ _).mono ?_
    rintro e W1 ⟨rfl, j1⟩
    have s1 := j1.size
    have K1 := (k1.alloc _).tr0 j1
    clear j1 d1
    go_wp2_with fail
    refine (implInsOk_any _ _ _).mono ?_
    rintro e W2 ⟨rfl, k2⟩
    have s2 := k2.size
    have K2 := K1.tr0 k2
    clear K1 k2
    go_wp2_with fail
    refine (implInsOk_any _ _ _).mono ?_
    rintro e W3 ⟨rfl, k3⟩
    have s3 := k3.size
    have K3 := K2.tr0 k3
    clear K2 k3
    go_wp2_with fail
    refine (implInsOk_any _ _ _).mono ?_
    rintro e W4 ⟨rfl, k4⟩
    have s4 := k4.size
    have K4 := K3.tr0 k4
    clear K3 k4
    go_wp2_with fail
    refine (implInsOk_any _ _ _).mono ?_
    rintro e W5 ⟨rfl, k5⟩
    have s5 := k5.size
    have K5 := K4.tr0 k5
    clear K4 k5
    go_wp2
    go_ret
    exact ⟨rfl, K5.below⟩

set_option maxRecDepth 100000 in
theorem lifted (os : Os) (started : os.Started) (H : Type) (enc : TypeId × Value → H) :
    ReturnsInHanded {} Try.checked os 5 .any (Rows.fnInsKindsSpec.pre6 enc Try.prog Try.f5 Rows.fnInsKindsRow.domain false) (Rows.fnInsKindsSpec.post enc Try.prog Try.f5 false true false false) := by
  refine returnsInHanded_of_change (C := Try.checked) own started (by kernel_rfl) Try.func5
    (ChangeSpec.witness6 (enc := enc) (C := Try.checked) false ⟨#[], #[.slice none 0 0], []⟩ 8 (by kernel_rfl) (by kernel_rfl) (by kernel_rfl) (by kernel_rfl)) ?_
  intro W base args ds gs before hval0 hW hcnd _
  have hval : ∀ (j : Nat) t v, Try.f5.params[j]? = some t → args[j]? = some v → Value.okWide Try.prog W .any base t v := hval0
  have hW' := hW
  obtain ⟨p, q, hA0, hV, rfl, hfz, hnd⟩ := hW
  have hA : DataW.TrodAll enc Try.prog W 0 (fun _ => true) true Try.f5.params.toList args.toList ds p := hA0
  rw [Try.params5] at hA hval
  obtain ⟨v0, vs0, d0, ds0, p0, q0, hargs, rfl, rfl, h0, r0⟩ := trodAll_cons hA
  obtain ⟨rfl, rfl, rfl⟩ := trodAll_nil r0
  obtain rfl : args = #[v0] := by cases args; simp_all
  obtain ⟨rfl, rfl⟩ := trodVars_none hV
  have k0 := h0
  have lt0 : ∀ x ∈ p0, x.block < W.heap.size := by obtain ⟨m, hm⟩ := k0; exact DataW.trod_lt m _ _ _ hm
  obtain ⟨A0, n0, cap0, rfl⟩ := okWide_slice Try.underlying22 (hval 0 22 v0 rfl rfl)
  obtain ⟨xs0, rb0, hl0⟩ := open_byts Try.underlying22 Try.underlying5 (by kernel_rfl) h0
  clear hA0 hval0
  refine (walk W A0 n0 cap0 xs0 rb0 hl0).mono fun e W' ⟨he, bel⟩ => ?_
  subst he
  exact ⟨_, rfl, _, _, _, [], _, [], hW', trodAll_mk1 (shut_bool Try.underlying4 _), (trodAll_cons_mk (Below.trod laidOut (by kernel_rfl) (of_decide_eq_true (by kernel_rfl)) k0 bel lt0) trodAll_mk0), rfl, bel.frame _, fun h => by cases h⟩

theorem over : Rows.fnInsKindsRow.holds Try.pinned (OpenSpec.ofChange Rows.fnInsKindsSpec) :=
  OpenClaim.holds_of_wide 5 Try.f5 rfl rfl rfl rfl rfl rfl rfl ⟨rfl, rfl, rfl, rfl, rfl⟩ rfl rfl rfl rfl rfl (by kernel_rfl) Try.func5 (by kernel_rfl)
    (of_decide_eq_true (by kernel_rfl)) (by unfold Func.isWrapper; first | (rw [if_pos (by decide +kernel)]; kernel_rfl) | (rw [if_neg (by decide +kernel)]; exact ⟨rfl, rfl⟩))
    (fun os started H enc _ => lifted os started H enc)

/-- The given statement. -/
theorem proved : Rows.FnInsKindsSaid := over
end Go.Proofs.Ytdlcchoemladnaa.fnInsKinds
