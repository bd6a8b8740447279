/-
  For every two control blocks the program's GrantsMore returns what the reference's returns, in memory of its own. No condition.
-/
import Derived.Test.YtifjnehfjcdojaaRows
import Derived.WalkKit
import Derived.ProofKit
import Derived.OpenShut
import Derived.ShutString
import Derived.ChangeOld
import Derived.Below
import Derived.Lib.SmallJoins
import Derived.WalkSpells
import Derived.Test.YtifjnehfjcdojaaCtl
import Derived.Test.YtifjnehfjcdojaaConv
import Derived.Handy
import Derived.Deep.RegionHeld3
namespace Go.Proofs.Ytifjnehfjcdojaa.fnExactGrantsMore
open Go.ChangeShapes Go.WideShapes Go.ChangeAt Go.RowKit
set_option linter.unusedVariables false

theorem own : ownKnob Try.prog.godebug = none := by kernel_rfl
theorem laidOut : laidOutB Try.prog = true := by kernel_rfl

set_option maxHeartbeats 4000000 in
theorem walk (a : Int) (wa : (Lit.int .i64 a).wf = true) (b : Int) (wb : (Lit.int .i64 b).wf = true) (o : Bool) (c : Int) (wc : (Lit.int .i64 c).wf = true) (d : Int) (wd : (Lit.int .i64 d).wf = true) (q : Bool) (w : World) :
    Calls Try.prog 5 #[.agg #[.int .i64 a, .int .i64 b, .bool o], .agg #[.int .i64 c, .int .i64 d, .bool q]] w fun e w' => e = .returned (.bool true) ∧ Below w.heap.size w w' := by
  clear wa wb wc wd
  have HS := Lib.hid (show ∀ w' : World, Keep 0 0 ((w.alloc (.cells #[.int .i64 a, .int .i64 b, .bool o] 30)).alloc (.cells #[.int .i64 c, .int .i64 d, .bool q] 30)) w' → w'.cell? ⟨w.heap.size, 0, none⟩ = some (.int .i64 a) ∧ w'.cell? ⟨w.heap.size, 1, none⟩ = some (.int .i64 b) ∧ w'.cell? ⟨w.heap.size, 2, none⟩ = some (.bool o) ∧ w'.cell? ⟨w.heap.size + 1, 0, none⟩ = some (.int .i64 c) ∧ w'.cell? ⟨w.heap.size + 1, 1, none⟩ = some (.int .i64 d) ∧ w'.cell? ⟨w.heap.size + 1, 2, none⟩ = some (.bool q) ∧ Keep 0 0 ((w.alloc (.cells #[.int .i64 a, .int .i64 b, .bool o] 30)).alloc (.cells #[.int .i64 c, .int .i64 d, .bool q] 30)) w' from fun w' h => ⟨(h.cell0 (p := ⟨w.heap.size, 0, none⟩) (by first | (simp; done) | (simp; omega))).trans (by go_cell), (h.cell0 (p := ⟨w.heap.size, 1, none⟩) (by first | (simp; done) | (simp; omega))).trans (by go_cell), (h.cell0 (p := ⟨w.heap.size, 2, none⟩) (by first | (simp; done) | (simp; omega))).trans (by go_cell), (h.cell0 (p := ⟨w.heap.size + 1, 0, none⟩) (by first | (simp; done) | (simp; omega))).trans (by go_cell), (h.cell0 (p := ⟨w.heap.size + 1, 1, none⟩) (by first | (simp; done) | (simp; omega))).trans (by go_cell), (h.cell0 (p := ⟨w.heap.size + 1, 2, none⟩) (by first | (simp; done) | (simp; omega))).trans (by go_cell), h⟩)
  have HS2 := Lib.hid (show ∀ w1 w2 : World, (w1.cell? ⟨w.heap.size, 0, none⟩ = some (.int .i64 a) ∧ w1.cell? ⟨w.heap.size, 1, none⟩ = some (.int .i64 b) ∧ w1.cell? ⟨w.heap.size, 2, none⟩ = some (.bool o) ∧ w1.cell? ⟨w.heap.size + 1, 0, none⟩ = some (.int .i64 c) ∧ w1.cell? ⟨w.heap.size + 1, 1, none⟩ = some (.int .i64 d) ∧ w1.cell? ⟨w.heap.size + 1, 2, none⟩ = some (.bool q) ∧ Keep 0 0 ((w.alloc (.cells #[.int .i64 a, .int .i64 b, .bool o] 30)).alloc (.cells #[.int .i64 c, .int .i64 d, .bool q] 30)) w1) → Keep 0 0 w1 w2 → w2.cell? ⟨w.heap.size, 0, none⟩ = some (.int .i64 a) ∧ w2.cell? ⟨w.heap.size, 1, none⟩ = some (.int .i64 b) ∧ w2.cell? ⟨w.heap.size, 2, none⟩ = some (.bool o) ∧ w2.cell? ⟨w.heap.size + 1, 0, none⟩ = some (.int .i64 c) ∧ w2.cell? ⟨w.heap.size + 1, 1, none⟩ = some (.int .i64 d) ∧ w2.cell? ⟨w.heap.size + 1, 2, none⟩ = some (.bool q) ∧ Keep 0 0 ((w.alloc (.cells #[.int .i64 a, .int .i64 b, .bool o] 30)).alloc (.cells #[.int .i64 c, .int .i64 d, .bool q] 30)) w2 from fun w1 w2 h k => HS.out _ (h.2.2.2.2.2.2.tr0 k))
  have K0 := Keep.refl 0 0 ((w.alloc (.cells #[.int .i64 a, .int .i64 b, .bool o] 30)).alloc (.cells #[.int .i64 c, .int .i64 d, .bool q] 30))
  go_enter Try.func5, Try.ntmps5
  go_wp2
  go_region_held3 (fun w' => w'.cell? ⟨w.heap.size, 0, none⟩ = some (.int .i64 a) ∧ w'.cell? ⟨w.heap.size, 1, none⟩ = some (.int .i64 b) ∧ w'.cell? ⟨w.heap.size, 2, none⟩ = some (.bool o) ∧ w'.cell? ⟨w.heap.size + 1, 0, none⟩ = some (.int .i64 c) ∧ w'.cell? ⟨w.heap.size + 1, 1, none⟩ = some (.int .i64 d) ∧ w'.cell? ⟨w.heap.size + 1, 2, none⟩ = some (.bool q) ∧ Keep 0 0 ((w.alloc (.cells #[.int .i64 a, .int .i64 b, .bool o] 30)).alloc (.cells #[.int .i64 c, .int .i64 d, .bool q] 30)) w')
    (first | (refine HS2.out ?_ _ ?_ ?_; rotate_right; (with_reducible assumption); (with_reducible assumption)) | (with_reducible exact HS.out _ K0.drew) | (with_reducible exact HS.out _ K0) | ((with_reducible refine HS.out _ (Keep.tr0 K0.drew ?_)); (with_reducible assumption)))
    (first
      | (go_at_call 21; refine (toCtl_any _ _ _ _).mono ?_; rintro e w1 ⟨rfl, k1⟩)
      | (go_at_call 20; refine (specGrantsMore_any _ _ _ _ _ _ _).mono ?_; rintro e w2 ⟨rfl, k2⟩)
      | (go_at_call 22; refine (implGrantsMore_any _ _ _ _ _ _ _).mono ?_; rintro e w2 ⟨rfl, k2⟩))
  obtain ⟨e0, e1, e2, e3, e4, e5, L⟩ : w2.cell? ⟨w.heap.size, 0, none⟩ = some (.int .i64 a) ∧ w2.cell? ⟨w.heap.size, 1, none⟩ = some (.int .i64 b) ∧ w2.cell? ⟨w.heap.size, 2, none⟩ = some (.bool o) ∧ w2.cell? ⟨w.heap.size + 1, 0, none⟩ = some (.int .i64 c) ∧ w2.cell? ⟨w.heap.size + 1, 1, none⟩ = some (.int .i64 d) ∧ w2.cell? ⟨w.heap.size + 1, 2, none⟩ = some (.bool q) ∧ Keep 0 0 ((w.alloc (.cells #[.int .i64 a, .int .i64 b, .bool o] 30)).alloc (.cells #[.int .i64 c, .int .i64 d, .bool q] 30)) w2 := by with_reducible assumption
  clear k1 k2 K0
  go_wp2
  go_region_held3 (fun w' => w'.cell? ⟨w.heap.size, 0, none⟩ = some (.int .i64 a) ∧ w'.cell? ⟨w.heap.size, 1, none⟩ = some (.int .i64 b) ∧ w'.cell? ⟨w.heap.size, 2, none⟩ = some (.bool o) ∧ w'.cell? ⟨w.heap.size + 1, 0, none⟩ = some (.int .i64 c) ∧ w'.cell? ⟨w.heap.size + 1, 1, none⟩ = some (.int .i64 d) ∧ w'.cell? ⟨w.heap.size + 1, 2, none⟩ = some (.bool q) ∧ Keep 0 0 ((w.alloc (.cells #[.int .i64 a, .int .i64 b, .bool o] 30)).alloc (.cells #[.int .i64 c, .int .i64 d, .bool q] 30)) w')
    (first | (refine HS2.out ?_ _ ?_ ?_; rotate_right; (with_reducible assumption); (with_reducible assumption)) | (with_reducible exact HS.out _ L.drew) | (with_reducible exact HS.out _ L) | ((with_reducible refine HS.out _ (Keep.tr0 L.drew ?_)); (with_reducible assumption)))
    (first
      | (go_at_call 21; refine (toCtl_any _ _ _ _).mono ?_; rintro e w1 ⟨rfl, k1⟩)
      | (go_at_call 20; refine (specGrantsMore_any _ _ _ _ _ _ _).mono ?_; rintro e w2 ⟨rfl, k2⟩)
      | (go_at_call 22; refine (implGrantsMore_any _ _ _ _ _ _ _).mono ?_; rintro e w2 ⟨rfl, k2⟩))
  obtain ⟨_, _, _, _, _, _, M⟩ : w2.cell? ⟨w.heap.size, 0, none⟩ = some (.int .i64 a) ∧ w2.cell? ⟨w.heap.size, 1, none⟩ = some (.int .i64 b) ∧ w2.cell? ⟨w.heap.size, 2, none⟩ = some (.bool o) ∧ w2.cell? ⟨w.heap.size + 1, 0, none⟩ = some (.int .i64 c) ∧ w2.cell? ⟨w.heap.size + 1, 1, none⟩ = some (.int .i64 d) ∧ w2.cell? ⟨w.heap.size + 1, 2, none⟩ = some (.bool q) ∧ Keep 0 0 ((w.alloc (.cells #[.int .i64 a, .int .i64 b, .bool o] 30)).alloc (.cells #[.int .i64 c, .int .i64 d, .bool q] 30)) w2 := by with_reducible assumption
  go_wp2
  go_ret
  exact ⟨rfl, ((((Keep.refl 0 0 w).alloc _).alloc _).tr0 M).below⟩

set_option maxRecDepth 100000 in
theorem lifted (os : Os) (started : os.Started) (H : Type) (enc : TypeId × Value → H) :
    ReturnsInHanded {} Try.checked os 5 .any (Rows.fnExactGrantsMoreSpec.pre6 enc Try.prog Try.f5 Rows.fnExactGrantsMoreRow.domain false) (Rows.fnExactGrantsMoreSpec.post enc Try.prog Try.f5 false true false false) := by
  refine returnsInHanded_of_change (C := Try.checked) own started (by kernel_rfl) Try.func5
    (ChangeSpec.witness6 (enc := enc) (C := Try.checked) false ⟨#[], #[.agg #[.int .i64 0, .int .i64 0, .bool false], .agg #[.int .i64 0, .int .i64 0, .bool false]], []⟩ 8 (by kernel_rfl) (by kernel_rfl) (by kernel_rfl) (by kernel_rfl)) ?_
  intro W base args ds gs before hval0 hW hcnd _
  have hval : ∀ (j : Nat) t v, Try.f5.params[j]? = some t → args[j]? = some v → Value.okWide Try.prog W .any base t v := hval0
  have hW' := hW
  obtain ⟨p, q, hA0, hV, rfl, hfz, hnd⟩ := hW
  have hA : DataW.TrodAll enc Try.prog W 0 (fun _ => true) true Try.f5.params.toList args.toList ds p := hA0
  rw [Try.params5] at hA hval
  obtain ⟨v0, vs0, d0, ds0, p0, q0, hargs, rfl, rfl, h0, r0⟩ := trodAll_cons hA
  obtain ⟨v1, vs1, d1, ds1, p1, q1, rfl, rfl, rfl, h1, r1⟩ := trodAll_cons r0
  obtain ⟨rfl, rfl, rfl⟩ := trodAll_nil r1
  obtain rfl : args = #[v0, v1] := by cases args; simp_all
  obtain ⟨rfl, rfl⟩ := trodVars_none hV
  have k0 := h0
  have lt0 : ∀ x ∈ p0, x.block < W.heap.size := by obtain ⟨m, hm⟩ := k0; exact DataW.trod_lt m _ _ _ hm
  obtain ⟨c00, c01, c02, y00, y01, y02, m0, rfl, _, _, g00, g01, g02⟩ := Go.Joins.open_agg3 Try.underlying30 (by kernel_rfl) (show Try.prog.cellsOf 30 = 3 by kernel_rfl) (hval 0 30 v0 rfl rfl) h0
  obtain ⟨a00, e00, _, w00⟩ := DataW.trod_int Try.underlying3 g00
  simp at e00; subst e00
  obtain ⟨a01, e01, _, w01⟩ := DataW.trod_int Try.underlying3 g01
  simp at e01; subst e01
  obtain ⟨a02, e02, _⟩ := DataW.trod_bool Try.underlying4 g02
  simp at e02; subst e02
  have k1 := h1
  have lt1 : ∀ x ∈ p1, x.block < W.heap.size := by obtain ⟨m, hm⟩ := k1; exact DataW.trod_lt m _ _ _ hm
  obtain ⟨c10, c11, c12, y10, y11, y12, m1, rfl, _, _, g10, g11, g12⟩ := Go.Joins.open_agg3 Try.underlying30 (by kernel_rfl) (show Try.prog.cellsOf 30 = 3 by kernel_rfl) (hval 1 30 v1 rfl rfl) h1
  obtain ⟨a10, e10, _, w10⟩ := DataW.trod_int Try.underlying3 g10
  simp at e10; subst e10
  obtain ⟨a11, e11, _, w11⟩ := DataW.trod_int Try.underlying3 g11
  simp at e11; subst e11
  obtain ⟨a12, e12, _⟩ := DataW.trod_bool Try.underlying4 g12
  simp at e12; subst e12
  clear hA0 hval0
  refine (walk a00 w00 a01 w01 a02 a10 w10 a11 w11 a12 W).mono fun e W' ⟨he, bel⟩ => ?_
  subst he
  exact ⟨_, rfl, _, _, _, [], _, [], hW', trodAll_mk1 (shut_bool Try.underlying4 _), (trodAll_cons_mk (Below.trod laidOut (by kernel_rfl) (of_decide_eq_true (by kernel_rfl)) k0 bel lt0) (trodAll_cons_mk (Below.trod laidOut (by kernel_rfl) (of_decide_eq_true (by kernel_rfl)) k1 bel lt1) trodAll_mk0)), rfl, bel.frame _, fun h => by cases h⟩

theorem over : Rows.fnExactGrantsMoreRow.holds Try.pinned (OpenSpec.ofChange Rows.fnExactGrantsMoreSpec) :=
  OpenClaim.holds_of_wide 5 Try.f5 rfl rfl rfl rfl rfl rfl rfl ⟨rfl, rfl, rfl, rfl, rfl⟩ rfl rfl rfl rfl rfl (by kernel_rfl) Try.func5 (by kernel_rfl)
    (of_decide_eq_true (by kernel_rfl)) (by unfold Func.isWrapper; first | (rw [if_pos (by decide +kernel)]; kernel_rfl) | (rw [if_neg (by decide +kernel)]; exact ⟨rfl, rfl⟩))
    (fun os started H enc _ => lifted os started H enc)

/-- The given statement. -/
theorem proved : Rows.FnExactGrantsMoreSaid := over
end Go.Proofs.Ytifjnehfjcdojaa.fnExactGrantsMore
