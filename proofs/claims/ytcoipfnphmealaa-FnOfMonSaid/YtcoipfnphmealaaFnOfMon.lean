/-
  For every draw: flushing a hypervisor leaves just the entries of other tags; a tag gives its hypervisor and guest back. No condition.
-/
import Derived.Test.YtcoipfnphmealaaRows
import Derived.WalkKit
import Derived.ProofKit
import Derived.OpenShut
import Derived.ShutString
import Derived.ChangeOld
import Derived.Below
import Derived.Lib.SmallJoins
import Derived.WalkSpells
import Derived.Test.YtcoipfnphmealaaPlc
import Derived.Test.YtcoipfnphmealaaOpen
import Derived.Test.YtcoipfnphmealaaOne
import Derived.Test.YtcoipfnphmealaaSix
import Derived.Test.YtcoipfnphmealaaTgm
import Derived.Test.YtcoipfnphmealaaBuE
import Derived.Handy
import Derived.Deep.QuietTactic
import Derived.BigQuiet
import Derived.Deep.RegionHeld3
import Derived.Deep.Cut
namespace Go.Proofs.Ytcoipfnphmealaa.fnOfMon
open Go.ChangeShapes Go.WideShapes Go.ChangeAt Go.RowKit
set_option linter.unusedVariables false

theorem own : ownKnob Try.prog.godebug = none := by kernel_rfl
theorem laidOut : laidOutB Try.prog = true := by kernel_rfl

set_option maxRecDepth 100000 in
set_option maxHeartbeats 8000000 in
theorem walk (w : World) (A : Option Addr) (n c : Nat) (xs : List Int) (rb : Rd w w.heap.size 1 (.slice A n c) (byts xs)) (hl : xs.length = n) :
    Calls Try.prog 6 #[.slice A n c] w fun e w' => e = .returned (.bool true) ∧ Below w.heap.size w w' := by
  have hc9 : n ≤ 9223372036854775807 := by obtain ⟨_, _, _, e, h1, h2, _⟩ := rb; injection e with _ e2 e3; unfold maxLen at h2; omega
  clear hl
  rcases Bool.eq_false_or_eq_true (bigT n) with hbig | hbig
  · go_enter Try.func6, Try.ntmps6
    go_wp2_with fail
    refine (big_any A n c hc9 _).mono ?_
    rintro e w' ⟨rfl, rfl⟩
    rw [hbig]
    go_wp2
    go_ret
    exact ⟨rfl, Below.refl _ _⟩
  go_enter Try.func6, Try.ntmps6
  go_wp2_with fail
  refine (big_any A n c hc9 _).mono ?_
  rintro e w' ⟨rfl, rfl⟩
  rw [hbig]
  clear hbig
  go_wp2_with fail
  refine (DrawFlushMon_any _ _ xs rb).mono ?_
  rintro e W1 ⟨v, l, m, rfl, hl8, hr, k1⟩
  obtain ⟨B, cb, rfl, hcb, hcb9⟩ := len_of_rowE hr
  go_wp2_with fail
  refine (implFlushMon_any W1 _ _ l m hr.rd (Nat.le_refl _) (by omega)).mono ?_
  rintro e W2 ⟨v2, rfl, r2, k2⟩
  obtain ⟨B2, c2, rfl, _⟩ := len_of_rowE r2
  have HR := Lib.hid ((hr.keep k2 (.inr (.inr (Nat.le_refl 0)))).mono (Nat.le_refl _) k2.size)
  have K2 := Lib.hid (k1.tr0 k2)
  have hl9 : l.length ≤ 9223372036854775807 := by omega
  clear hr r2 k1 k2
  go_wp2
  go_loop [6, 7] (fun cnt i => ∃ k : Nat, k ≤ l.length ∧ i = .int .i64 k ∧ cnt = .int .i64 (((l.take k).filter fun e => !(flMon m e)).length : Nat)) (fun _ i => 9 - (intOf i).toNat)
  case atStart => exact ⟨0, Nat.zero_le _, rfl, rfl⟩
  case round =>
    obtain ⟨k, hk, rfl, rfl⟩ := hrel
    have hle : ((l.take k).filter fun e => !(flMon m e)).length ≤ 8 := Nat.le_trans (List.length_filter_le _ _) (by rw [List.length_take]; omega)
    by_cases hlt : k < l.length
    · obtain ⟨g, off, x0, x1, x2, x3, rfl, hx, c0, _, _, _⟩ := HR.out.ent hlt
      have hF := flMon_iff m (x0, x1, x2, x3)
      have HX := Lib.hid hx
      clear hx
      obtain ⟨z, hz⟩ : ∃ z, tagMonT x0 = z := ⟨_, rfl⟩
      rw [show (x0, x1, x2, x3).1 = x0 from rfl, hz] at hF
      have hd : decide ((k : Int) < l.length) = true := by simpa using hlt
      rcases Bool.eq_false_or_eq_true (z == m) with hq | hq
      · have hq2 : (z != m) = false := by simp [bne, hq]
        rcases Bool.eq_false_or_eq_true (decide (m < 0)) with hm | hm
        · have HG := Lib.hid (filter_step l (fun e => !(flMon m e)) k _ HX.out (by rw [hF, hm]; simp))
          clear hF
          go_wp2_with (go_at_call 34; refine (specTagMon_any _ _).mono ?_; rintro e w' ⟨rfl, rfl⟩)
          go_round
          case rel => exact ⟨k + 1, by omega, by go_num, by rw [HG.out, List.length_append]; go_num⟩
          case measure => simp [intOf]; omega
        · have HG := Lib.hid (filter_skip l (fun e => !(flMon m e)) k _ HX.out (by rw [hF, hq2, hm]; rfl))
          clear hF
          go_wp2_with (go_at_call 34; refine (specTagMon_any _ _).mono ?_; rintro e w' ⟨rfl, rfl⟩)
          go_round
          case rel => exact ⟨k + 1, by omega, by go_num, by rw [HG.out]⟩
          case measure => simp [intOf]; omega
      · have hq2 : (z != m) = true := by simp [bne, hq]
        have HG := Lib.hid (filter_step l (fun e => !(flMon m e)) k _ HX.out (by rw [hF, hq2]; rfl))
        clear hF
        go_wp2_with (go_at_call 34; refine (specTagMon_any _ _).mono ?_; rintro e w' ⟨rfl, rfl⟩)
        go_round
        case rel => exact ⟨k + 1, by omega, by go_num, by rw [HG.out, List.length_append]; go_num⟩
        case measure => simp [intOf]; omega
    · obtain rfl : k = l.length := by omega
      rw [List.take_length]
      clear hle hlt
      go_wp2
      go_loop [8] (fun i => ∃ i0 : Nat, i0 ≤ 3 ∧ i = .int .i64 i0) (fun i => 4 - (intOf i).toNat)
      case atStart => exact ⟨0, by omega, rfl⟩
      case round =>
        obtain ⟨i0, hi0, rfl⟩ := hrel
        by_cases hi : i0 < 3
        · go_wp2
          go_loop [9] (fun j => ∃ j0 : Nat, j0 ≤ 2 ∧ j = .int .i64 j0) (fun j => 3 - (intOf j).toNat)
          case atStart => exact ⟨0, by omega, rfl⟩
          case round =>
            obtain ⟨j0, hj0, rfl⟩ := hrel
            by_cases hj : j0 < 2
            · obtain ⟨t1, t2⟩ := tag_rt i0 j0 hi hj
              go_wp2_with (first
                | (go_at_call 36; refine (implTagOf_any _ _ _).mono ?_; rintro e w' ⟨rfl, rfl⟩)
                | (go_at_call 35; refine (implTagMon_any _ _).mono ?_; rintro e w' ⟨rfl, rfl⟩)
                | (go_at_call 37; refine (implTagGuest_any _ _).mono ?_; rintro e w' ⟨rfl, rfl⟩))
              go_round
              case rel => exact ⟨j0 + 1, by omega, by go_num⟩
              case measure => simp [intOf]; omega
            · go_wp2
              go_round
              case rel => exact ⟨i0 + 1, by omega, by go_num⟩
              case measure => simp [intOf]; omega
        · go_wp2_with fail
          refine (implTagsOf_any _ _).mono ?_
          rintro e W3 ⟨vt, rfl, rt, k3⟩
          rw [show tagsT 1 = [3, 4] from rfl] at rt
          obtain ⟨BT, ct, rfl, _⟩ := len_of_rowI rt
          have K3 := K2.out.tr0 k3
          clear rt k3
          go_wp2
          go_ret
          exact ⟨rfl, K3.below⟩

set_option maxRecDepth 100000 in
theorem lifted (os : Os) (started : os.Started) (H : Type) (enc : TypeId × Value → H) :
    ReturnsInHanded {} Try.checked os 6 .any (Rows.fnOfMonSpec.pre6 enc Try.prog Try.f6 Rows.fnOfMonRow.domain false) (Rows.fnOfMonSpec.post enc Try.prog Try.f6 false true false false) := by
  refine returnsInHanded_of_change (C := Try.checked) own started (by kernel_rfl) Try.func6
    (ChangeSpec.witness6 (enc := enc) (C := Try.checked) false ⟨#[], #[.slice none 0 0], []⟩ 8 (by kernel_rfl) (by kernel_rfl) (by kernel_rfl) (by kernel_rfl)) ?_
  intro W base args ds gs before hval0 hW hcnd _
  have hval : ∀ (j : Nat) t v, Try.f6.params[j]? = some t → args[j]? = some v → Value.okWide Try.prog W .any base t v := hval0
  have hW' := hW
  obtain ⟨p, q, hA0, hV, rfl, hfz, hnd⟩ := hW
  have hA : DataW.TrodAll enc Try.prog W 0 (fun _ => true) true Try.f6.params.toList args.toList ds p := hA0
  rw [Try.params6] at hA hval
  obtain ⟨v0, vs0, d0, ds0, p0, q0, hargs, rfl, rfl, h0, r0⟩ := trodAll_cons hA
  obtain ⟨rfl, rfl, rfl⟩ := trodAll_nil r0
  obtain rfl : args = #[v0] := by cases args; simp_all
  obtain ⟨rfl, rfl⟩ := trodVars_none hV
  have k0 := h0
  have lt0 : ∀ x ∈ p0, x.block < W.heap.size := by obtain ⟨m, hm⟩ := k0; exact DataW.trod_lt m _ _ _ hm
  obtain ⟨A0, n0, cap0, rfl⟩ := okWide_slice Try.underlying22 (hval 0 22 v0 rfl rfl)
  obtain ⟨xs0, rb0, hl0⟩ := open_byts Try.underlying22 Try.underlying5 (by kernel_rfl) h0
  clear hA0 hval0
  refine (walk W A0 n0 cap0 xs0 rb0 hl0).mono fun e W' ⟨he, bel⟩ => ?_
  subst he
  exact ⟨_, rfl, _, _, _, [], _, [], hW', trodAll_mk1 (shut_bool Try.underlying4 _), (trodAll_cons_mk (Below.trod laidOut (by kernel_rfl) (of_decide_eq_true (by kernel_rfl)) k0 bel lt0) trodAll_mk0), rfl, bel.frame _, fun h => by cases h⟩

theorem over : Rows.fnOfMonRow.holds Try.pinned (OpenSpec.ofChange Rows.fnOfMonSpec) :=
  OpenClaim.holds_of_wide 6 Try.f6 rfl rfl rfl rfl rfl rfl rfl ⟨rfl, rfl, rfl, rfl, rfl⟩ rfl rfl rfl rfl rfl (by kernel_rfl) Try.func6 (by kernel_rfl)
    (of_decide_eq_true (by kernel_rfl)) (by unfold Func.isWrapper; first | (rw [if_pos (by decide +kernel)]; kernel_rfl) | (rw [if_neg (by decide +kernel)]; exact ⟨rfl, rfl⟩))
    (fun os started H enc _ => lifted os started H enc)

/-- The given statement. -/
theorem proved : Rows.FnOfMonSaid := over
end Go.Proofs.Ytcoipfnphmealaa.fnOfMon
