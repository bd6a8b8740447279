/-
  For every draw: the program's tags are the reference's; a tag gives its hypervisor and guest back; a flush of a hypervisor leaves no entry of its guests. No condition.
-/
import Derived.Test.YtcoipfnphmealaaRows
import Derived.WalkKit
import Derived.ProofKit
import Derived.OpenShut
import Derived.ShutString
import Derived.ChangeOld
import Derived.Below
import Derived.Lib.SmallJoins
import Derived.WalkSpells
import Derived.Test.YtcoipfnphmealaaPlc
import Derived.Test.YtcoipfnphmealaaOpen
import Derived.Test.YtcoipfnphmealaaOne
import Derived.Test.YtcoipfnphmealaaSix
import Derived.Test.YtcoipfnphmealaaTgm
import Derived.Test.YtcoipfnphmealaaBuE
import Derived.Test.YtcoipfnphmealaaSamE
import Derived.Handy
import Derived.Deep.QuietTactic
import Derived.BigQuiet
import Derived.Deep.RegionHeld3
import Derived.Deep.Cut
namespace Go.Proofs.Ytcoipfnphmealaa.fnTags
open Go.ChangeShapes Go.WideShapes Go.ChangeAt Go.RowKit
set_option linter.unusedVariables false

theorem own : ownKnob Try.prog.godebug = none := by kernel_rfl
theorem laidOut : laidOutB Try.prog = true := by kernel_rfl

set_option maxRecDepth 100000 in
set_option maxHeartbeats 8000000 in
theorem walk (w : World) (A : Option Addr) (n c : Nat) (xs : List Int) (rb : Rd w w.heap.size 1 (.slice A n c) (byts xs)) (hl : xs.length = n) :
    Calls Try.prog 7 #[.slice A n c] w fun e w' => e = .returned (.bool true) ∧ Below w.heap.size w w' := by
  have hc9 : n ≤ 9223372036854775807 := by obtain ⟨_, _, _, e, h1, h2, _⟩ := rb; injection e with _ e2 e3; unfold maxLen at h2; omega
  clear hl
  rcases Bool.eq_false_or_eq_true (bigT n) with hbig | hbig
  · go_enter Try.func7, Try.ntmps7
    go_wp2_with fail
    refine (big_any A n c hc9 _).mono ?_
    rintro e w' ⟨rfl, rfl⟩
    rw [hbig]
    go_wp2
    go_ret
    exact ⟨rfl, Below.refl _ _⟩
  go_enter Try.func7, Try.ntmps7
  go_wp2_with fail
  refine (big_any A n c hc9 _).mono ?_
  rintro e w' ⟨rfl, rfl⟩
  rw [hbig]
  clear hbig
  go_wp2_with fail
  refine (DrawTagOf_any _ _ xs rb).mono ?_
  rintro e W1 ⟨m, g, rfl, k1⟩
  have RB1 := (rb.keep k1 (Nat.le_refl _) (.inr (Nat.le_refl 0))).mono k1.size
  go_wp2_with fail
  refine (implTagOf_any _ _ _).mono ?_
  rintro e w' ⟨rfl, rfl⟩
  have htb := Lib.hid (tag_back m g)
  obtain ⟨tt, htt⟩ : ∃ tt, tagT m g = tt := ⟨_, rfl⟩
  rw [htt]
  go_wp2_with fail
  refine (DrawTagMon_any _ _ xs RB1).mono ?_
  rintro e W2 ⟨a, rfl, k2⟩
  have RB2 := (RB1.keep k2 (Nat.le_refl _) (.inr (Nat.le_refl 0))).mono k2.size
  go_wp2_with fail
  refine (DrawTagsOf_any _ _ xs RB2).mono ?_
  rintro e W3 ⟨u, rfl, k3⟩
  have RB3 := (RB2.keep k3 (Nat.le_refl _) (.inr (Nat.le_refl 0))).mono k3.size
  go_wp2_with fail
  refine (DrawFlushMon_any _ _ xs RB3).mono ?_
  rintro e W4 ⟨v, l, q, rfl, hl8, hr, k4⟩
  obtain ⟨B, cb, rfl, hcb, hcb9⟩ := len_of_rowE hr
  have K4 := ((k1.tr0 k2).tr0 k3).tr0 k4
  have hl9 : l.length ≤ 9223372036854775807 := by omega
  clear k1 k2 k3 k4 RB1 RB2 RB3
  go_wp2_with (first
          | (go_at_call 36; refine (implTagOf_any _ _ _).mono ?_; rintro e w' ⟨rfl, rfl⟩)
          | (go_at_call 35; refine (implTagMon_any _ _).mono ?_; rintro e w' ⟨rfl, rfl⟩)
          | (go_at_call 37; refine (implTagGuest_any _ _).mono ?_; rintro e w' ⟨rfl, rfl⟩)
          | (go_at_call 42; refine (specTagOf_any _ _ _).mono ?_; rintro e w' ⟨rfl, rfl⟩)
          | (go_at_call 34; refine (specTagMon_any _ _).mono ?_; rintro e w' ⟨rfl, rfl⟩)
          | (go_at_call 43; refine (specTagGuest_any _ _).mono ?_; rintro e w' ⟨rfl, rfl⟩))
  refine (implTagsOf_any _ _).mono ?_
  rintro e V1 ⟨vt, rfl, rt, j1⟩
  go_wp2_with fail
  refine (specTagsOf_any _ _).mono ?_
  rintro e V2 ⟨vs, rfl, rs, j2⟩
  go_wp2_with fail
  refine (sameInts_eq V2 _ _ _ _ _ (rt.rd.keep j2 (Nat.le_refl _) (.inr (Nat.le_refl 0))) rs.rd).mono ?_
  rintro e V3 ⟨rfl, d3⟩
  have j3 := d3.keep 0 0
  have J := (j1.tr0 j2).tr0 j3
  have K5 := K4.tr0 J
  have HB5 := (hr.keep J (.inr (.inr (Nat.le_refl 0)))).mono (Nat.le_refl _) J.size
  clear K4 j1 j2 j3 d3 rt rs hr J
  go_wp2_with fail
  refine (implFlushMon_any V3 _ _ l q HB5.rd (Nat.le_refl _) (by omega)).mono ?_
  rintro e W6 ⟨v2, rfl, r2, k6⟩
  obtain ⟨B2, c2, rfl, hc2, hc29⟩ := len_of_rowE r2
  have HR := Lib.hid r2
  have HB := Lib.hid ((HB5.keep k6 (.inr (.inr (Nat.le_refl 0)))).mono (Nat.le_refl _) k6.size)
  have K6 := Lib.hid (K5.tr0 k6)
  have hlf : (l.filter fun e => !(flMon q e)).length ≤ 8 := Nat.le_trans (List.length_filter_le _ _) hl8
  obtain ⟨nn, hnn⟩ : ∃ nn, (l.filter fun e => !(flMon q e)).length = nn := ⟨_, rfl⟩
  rw [hnn] at hlf hc2 HR ⊢
  have HN := Lib.hid hnn
  clear K5 HB5 k6 r2 hnn
  have hq0 : (decide (0 ≤ q) = false) ∨ (decide (0 ≤ q) = true ∧ 0 ≤ q) := by by_cases h : 0 ≤ q <;> simp [h]
  rcases hq0 with hq0 | ⟨hq0, hq1⟩
  · go_wp2
    go_loop [11] (fun i => ∃ k : Nat, k ≤ nn ∧ i = .int .i64 k) (fun i => 9 - (intOf i).toNat)
    case atStart => exact ⟨0, Nat.zero_le _, rfl⟩
    case round =>
      obtain ⟨k, hk, rfl⟩ := hrel
      have hb2 := htb.out
      rw [htt] at hb2
      clear htt
      have hlt0 : (k < nn ∧ decide ((k : Int) < nn) = true) ∨ (¬ k < nn ∧ decide ((k : Int) < nn) = false) := by by_cases h : k < nn <;> simp [h]
      rcases hlt0 with ⟨hlt, hlt2⟩ | ⟨hlt, hlt2⟩ <;> rcases hb2 with hb2 | ⟨hb2, hb3, hb4⟩
      all_goals
        have r9 := (HR.out).rd
        go_wp2_with fail
        refine (specFlushMon_any W6 _ _ l q HB.out.rd (Nat.le_refl _) (by omega)).mono ?_
        rintro e W7 ⟨v7, rfl, r7, k7⟩
        have r10 := r9.keep k7 (Nat.le_refl _) (.inr (Nat.le_refl 0))
        go_wp2_with fail
        refine (sameEntrys_eq W7 _ _ _ _ _ r10 r7.rd).mono ?_
        rintro e W8 ⟨rfl, k8⟩
        have K8 := (K6.out.tr0 k7).tr0 (k8.keep 0 0)
        clear k7 k8 r7 r9 r10
        go_wp2_with (first
          | (go_at_call 36; refine (implTagOf_any _ _ _).mono ?_; rintro e w' ⟨rfl, rfl⟩)
          | (go_at_call 35; refine (implTagMon_any _ _).mono ?_; rintro e w' ⟨rfl, rfl⟩)
          | (go_at_call 37; refine (implTagGuest_any _ _).mono ?_; rintro e w' ⟨rfl, rfl⟩)
          | (go_at_call 42; refine (specTagOf_any _ _ _).mono ?_; rintro e w' ⟨rfl, rfl⟩)
          | (go_at_call 34; refine (specTagMon_any _ _).mono ?_; rintro e w' ⟨rfl, rfl⟩)
          | (go_at_call 43; refine (specTagGuest_any _ _).mono ?_; rintro e w' ⟨rfl, rfl⟩))
        go_ret
        exact ⟨rfl, K8.below⟩

  · go_wp2
    go_loop [11] (fun i => ∃ k : Nat, k ≤ nn ∧ i = .int .i64 k) (fun i => 9 - (intOf i).toNat)
    case atStart => exact ⟨0, Nat.zero_le _, rfl⟩
    case round =>
      obtain ⟨k, hk, rfl⟩ := hrel
      by_cases hlt : k < nn
      · have hlt2 : decide ((k : Int) < nn) = true := by simpa using hlt
        obtain ⟨g1, off, x0, x1, x2, x3, rfl, hx, c0, _, _, _⟩ := HR.out.ent hlt
        have hz := mon_not q l hq1 (x0, x1, x2, x3) (List.mem_of_mem_take (i := k + 1) (by rw [hx]; simp))
        clear hx htt
        go_wp2_with (go_at_call 34; refine (specTagMon_any _ _).mono ?_; rintro e w' ⟨rfl, rfl⟩)
        go_round
        case rel => exact ⟨k + 1, by omega, by go_num⟩
        case measure => simp [intOf]; omega
      · have hlt2 : decide ((k : Int) < nn) = false := by simpa using hlt
        have hb2 := htb.out
        rw [htt] at hb2
        clear htt
        rcases hb2 with hb2 | ⟨hb2, hb3, hb4⟩
        all_goals
          have r9 := (HR.out).rd
          go_wp2_with fail
          refine (specFlushMon_any W6 _ _ l q HB.out.rd (Nat.le_refl _) (by omega)).mono ?_
          rintro e W7 ⟨v7, rfl, r7, k7⟩
          have r10 := r9.keep k7 (Nat.le_refl _) (.inr (Nat.le_refl 0))
          go_wp2_with fail
          refine (sameEntrys_eq W7 _ _ _ _ _ r10 r7.rd).mono ?_
          rintro e W8 ⟨rfl, k8⟩
          have K8 := (K6.out.tr0 k7).tr0 (k8.keep 0 0)
          clear k7 k8 r7 r9 r10
          go_wp2_with (first
            | (go_at_call 36; refine (implTagOf_any _ _ _).mono ?_; rintro e w' ⟨rfl, rfl⟩)
            | (go_at_call 35; refine (implTagMon_any _ _).mono ?_; rintro e w' ⟨rfl, rfl⟩)
            | (go_at_call 37; refine (implTagGuest_any _ _).mono ?_; rintro e w' ⟨rfl, rfl⟩)
            | (go_at_call 42; refine (specTagOf_any _ _ _).mono ?_; rintro e w' ⟨rfl, rfl⟩)
            | (go_at_call 34; refine (specTagMon_any _ _).mono ?_; rintro e w' ⟨rfl, rfl⟩)
            | (go_at_call 43; refine (specTagGuest_any _ _).mono ?_; rintro e w' ⟨rfl, rfl⟩))
          go_ret
          exact ⟨rfl, K8.below⟩


set_option maxRecDepth 100000 in
theorem lifted (os : Os) (started : os.Started) (H : Type) (enc : TypeId × Value → H) :
    ReturnsInHanded {} Try.checked os 7 .any (Rows.fnTagsSpec.pre6 enc Try.prog Try.f7 Rows.fnTagsRow.domain false) (Rows.fnTagsSpec.post enc Try.prog Try.f7 false true false false) := by
  refine returnsInHanded_of_change (C := Try.checked) own started (by kernel_rfl) Try.func7
    (ChangeSpec.witness6 (enc := enc) (C := Try.checked) false ⟨#[], #[.slice none 0 0], []⟩ 8 (by kernel_rfl) (by kernel_rfl) (by kernel_rfl) (by kernel_rfl)) ?_
  intro W base args ds gs before hval0 hW hcnd _
  have hval : ∀ (j : Nat) t v, Try.f7.params[j]? = some t → args[j]? = some v → Value.okWide Try.prog W .any base t v := hval0
  have hW' := hW
  obtain ⟨p, q, hA0, hV, rfl, hfz, hnd⟩ := hW
  have hA : DataW.TrodAll enc Try.prog W 0 (fun _ => true) true Try.f7.params.toList args.toList ds p := hA0
  rw [Try.params7] at hA hval
  obtain ⟨v0, vs0, d0, ds0, p0, q0, hargs, rfl, rfl, h0, r0⟩ := trodAll_cons hA
  obtain ⟨rfl, rfl, rfl⟩ := trodAll_nil r0
  obtain rfl : args = #[v0] := by cases args; simp_all
  obtain ⟨rfl, rfl⟩ := trodVars_none hV
  have k0 := h0
  have lt0 : ∀ x ∈ p0, x.block < W.heap.size := by obtain ⟨m, hm⟩ := k0; exact DataW.trod_lt m _ _ _ hm
  obtain ⟨A0, n0, cap0, rfl⟩ := okWide_slice Try.underlying22 (hval 0 22 v0 rfl rfl)
  obtain ⟨xs0, rb0, hl0⟩ := open_byts Try.underlying22 Try.underlying5 (by kernel_rfl) h0
  clear hA0 hval0
  refine (walk W A0 n0 cap0 xs0 rb0 hl0).mono fun e W' ⟨he, bel⟩ => ?_
  subst he
  exact ⟨_, rfl, _, _, _, [], _, [], hW', trodAll_mk1 (shut_bool Try.underlying4 _), (trodAll_cons_mk (Below.trod laidOut (by kernel_rfl) (of_decide_eq_true (by kernel_rfl)) k0 bel lt0) trodAll_mk0), rfl, bel.frame _, fun h => by cases h⟩

theorem over : Rows.fnTagsRow.holds Try.pinned (OpenSpec.ofChange Rows.fnTagsSpec) :=
  OpenClaim.holds_of_wide 7 Try.f7 rfl rfl rfl rfl rfl rfl rfl ⟨rfl, rfl, rfl, rfl, rfl⟩ rfl rfl rfl rfl rfl (by kernel_rfl) Try.func7 (by kernel_rfl)
    (of_decide_eq_true (by kernel_rfl)) (by unfold Func.isWrapper; first | (rw [if_pos (by decide +kernel)]; kernel_rfl) | (rw [if_neg (by decide +kernel)]; exact ⟨rfl, rfl⟩))
    (fun os started H enc _ => lifted os started H enc)

/-- The given statement. -/
theorem proved : Rows.FnTagsSaid := over
end Go.Proofs.Ytcoipfnphmealaa.fnTags
