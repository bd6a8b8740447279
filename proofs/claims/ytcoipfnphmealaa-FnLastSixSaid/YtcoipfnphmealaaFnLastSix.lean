/-
  For every draw: of seven to eleven entries put one behind the other the last six are found and no others, and a flush of their host leaves none. No condition.
-/
import Derived.Test.YtcoipfnphmealaaRows
import Derived.WalkKit
import Derived.ProofKit
import Derived.OpenShut
import Derived.ShutString
import Derived.ChangeOld
import Derived.Below
import Derived.Lib.SmallJoins
import Derived.WalkSpells
import Derived.Test.YtcoipfnphmealaaPlc
import Derived.Test.YtcoipfnphmealaaOpen
import Derived.Test.YtcoipfnphmealaaOne
import Derived.Test.YtcoipfnphmealaaSix
import Derived.Handy
import Derived.Deep.QuietTactic
import Derived.BigQuiet
import Derived.Deep.RegionHeld3
import Derived.Deep.Cut
namespace Go.Proofs.Ytcoipfnphmealaa.fnLastSix
open Go.ChangeShapes Go.WideShapes Go.ChangeAt Go.RowKit
set_option linter.unusedVariables false

theorem own : ownKnob Try.prog.godebug = none := by kernel_rfl
theorem laidOut : laidOutB Try.prog = true := by kernel_rfl

set_option maxRecDepth 100000 in
set_option maxHeartbeats 8000000 in
theorem walk (w : World) (A : Option Addr) (n c : Nat) (xs : List Int) (rb : Rd w w.heap.size 1 (.slice A n c) (byts xs)) (hl : xs.length = n) :
    Calls Try.prog 4 #[.slice A n c] w fun e w' => e = .returned (.bool true) ∧ Below w.heap.size w w' := by
  have hc9 : n ≤ 9223372036854775807 := by obtain ⟨_, _, _, e, h1, h2, _⟩ := rb; injection e with _ e2 e3; unfold maxLen at h2; omega
  clear hl
  rcases Bool.eq_false_or_eq_true (bigT n) with hbig | hbig
  · go_enter Try.func4, Try.ntmps4
    go_wp2_with fail
    refine (big_any A n c hc9 _).mono ?_
    rintro e w' ⟨rfl, rfl⟩
    rw [hbig]
    go_wp2
    go_ret
    exact ⟨rfl, Below.refl _ _⟩
  go_enter Try.func4, Try.ntmps4
  go_wp2_with fail
  refine (big_any A n c hc9 _).mono ?_
  rintro e w' ⟨rfl, rfl⟩
  rw [hbig]
  clear hbig
  go_wp2_with fail
  refine (DrawPlaces_any _ _ xs rb).mono ?_
  rintro e W1 ⟨v, l, rfl, hl, hx, hr, k1⟩
  obtain ⟨g, off, c1, p0, p1, p2, p3, p4, rfl, hg0, hg1, e0, e1, e2, e3, e4, ⟨b00, b01⟩, ⟨b10, b11⟩, ⟨b20, b21⟩, ⟨b30, b31⟩, ⟨b40, b41⟩⟩ := places_open hl hx hr
  clear e2 e3 e4 b20 b21 b30 b31 b40 b41 hl hx hr hg0
  obtain ⟨m, hm, hm7, hm11⟩ : ∃ m : Nat, 7 + p0 % 5 = (m : Int) ∧ 7 ≤ m ∧ m ≤ 11 := ⟨(7 + p0 % 5).toNat, by omega, by omega, by omega⟩
  have hk0 := k1.alloc (.cells #[] 26)
  have e0b : (W1.alloc (.cells #[] 26)).cell? ⟨g, off, none⟩ = some (.int .i64 p0) := (World.cell?_alloc_lt W1 _ ⟨g, off, none⟩ hg1).trans e0
  have E1 := Lib.hid ((World.cell?_alloc_lt W1 (.cells #[] 26) ⟨g, off + 1, none⟩ hg1).trans e1)
  have hr0 := Lib.hid ((Row.lit W1 26 (sz := 4) (cs := []) 0 rfl (by unfold maxLen; omega)).mono k1.size (Nat.le_refl _))
  have hgs : g < (W1.alloc (.cells #[] 26)).heap.size := by simp; omega
  clear e0 e1 k1 hg1
  go_upto_region 6 with (fail)
  clear hm
  generalize W1.alloc (.cells #[] 26) = V at hk0 e0b E1 hr0 hgs ⊢
  clear e0b
  go_wp2
  go_loopw [4, 6] (fun v i wr => ∃ k : Nat, k ≤ m ∧ i = .int .i64 k ∧ Row wr w.heap.size wr.heap.size 26 4 v (ints (entsI (lastE (p1 % 12) k))) ∧ Keep 0 0 V wr) (fun _ i _ => 12 - (intOf i).toNat)
  case atStart => exact ⟨0, Nat.zero_le _, rfl, hr0.out, Keep.refl _ _ _⟩
  case round =>
    obtain ⟨k, hk, rfl, hrow, hK⟩ := hrel
    clear hr0
    have ce1 := (hK.cell0 (p := ⟨g, off + 1, none⟩) (by exact hgs)).trans E1.out
    have HR := Lib.hid hrow
    by_cases hlt : k < m
    · have hput := Lib.hid (lastE_put (p1 % 12) k (by omega))
      have hsm := lastE_small (p1 % 12) k
      clear hrow
      go_wp2_with fail
      refine (implPutEntry_any _ _ _ (lastE (p1 % 12) k) _ _ _ _ HR.out.rd (Nat.le_refl _) (by omega)).mono ?_
      rintro e W2 ⟨v2, rfl, r2, k2⟩
      rw [hput.out] at r2
      have K2 := hK.tr0 k2
      have R2 := r2.mono (lo' := w.heap.size) (Nat.le_trans hk0.size hK.size) (Nat.le_refl _)
      clear r2 k2 hK ce1
      go_wp2
      go_roundw
      case rel => exact ⟨k + 1, by omega, by go_num, R2, K2⟩
      case measure => simp [intOf]; omega
    · obtain rfl : k = m := by omega
      clear hrow hlt
      obtain ⟨B, n6, cb, rfl⟩ := HR.out.slice
      have h6 : n6 = 6 := by have := HR.out.len.1; rw [ints_length, entsI_length, lastE_length _ _ hm7] at this; omega
      subst h6
      go_wp2
      go_loopw [7] (fun i wr => ∃ j : Nat, j ≤ k ∧ i = .int .i64 j ∧ Row wr w.heap.size wr.heap.size 26 4 (.slice B 6 cb) (ints (entsI (lastE (p1 % 12) k))) ∧ Keep 0 0 V wr) (fun i _ => 12 - (intOf i).toNat)
      case atStart => exact ⟨0, Nat.zero_le _, rfl, HR.out, hK⟩
      case round =>
        obtain ⟨j, hj, rfl, hrow, hK2⟩ := hrel
        have ce2 := (hK2.cell0 (p := ⟨g, off + 1, none⟩) (by exact hgs)).trans E1.out
        have HR2 := Lib.hid hrow
        clear hrow HR ce1 hK
        by_cases hlt : j < k
        · have hhas := Lib.hid (lastE_has (p1 % 12) k j hm7 hm11 hlt)
          obtain ⟨f0, f1, f2, f3, hf⟩ : ∃ f0 f1 f2 f3, findT (lastE (p1 % 12) k) (1 + (j : Int) % 2) (j : Int) = (f0, f1, f2, f3) := ⟨_, _, _, _, rfl⟩
          have HF := Lib.hid hf
          have hsm := lastE_small (p1 % 12) k
          clear hf
          rcases Bool.eq_false_or_eq_true (decide ((k : Int) - 6 ≤ (j : Int))) with hd | hd
          all_goals
            have hd2 := Lib.hid hd
            go_wp2_with fail
            refine (implFindEntry_to _ _ _ (lastE (p1 % 12) k) _ _ HR2.out.rd (by omega) _ _ _ _ _ HF.out (hhas.out.trans hd2.out)).mono ?_
            rintro e W2 ⟨rfl, k2⟩
            have K2 := (hK2.tr0 k2).alloc (.cells #[.int .i64 f0, .int .i64 f1, .int .i64 f2, .int .i64 f3] 26)
            have R2 := ((HR2.out.keep k2 (.inr (.inr (Nat.le_refl 0)))).mono (Nat.le_refl _) k2.size).keep (keep_1 W2 (.cells #[.int .i64 f0, .int .i64 f1, .int .i64 f2, .int .i64 f3] 26)) (.inr (.inr (Nat.le_refl 0)))
            have R3 := R2.mono (Nat.le_refl _) (keep_1 W2 (.cells #[.int .i64 f0, .int .i64 f1, .int .i64 f2, .int .i64 f3] 26)).size
            clear k2 hK2 R2 HR2 ce2
            go_wp2
            go_roundw
            case rel => exact ⟨j + 1, by omega, by go_num, R3, K2⟩
            case measure => simp [intOf]; omega
        · have hsm := lastE_small (p1 % 12) k
          have hh := Lib.hid (lastE_host (p1 % 12) k)
          go_wp2_with fail
          refine (implFlushHost_any _ _ _ (lastE (p1 % 12) k) _ HR2.out.rd (Nat.le_refl _) (by omega)).mono ?_
          rintro e W2 ⟨v2, rfl, r2, k2⟩
          rw [hh.out] at r2
          obtain ⟨B2, n2, cb2, rfl⟩ := r2.slice
          obtain rfl : n2 = 0 := by have := r2.len.1; simp [entsI, ints] at this; omega
          have K2 := hk0.tr0 (hK2.tr0 k2)
          clear k2 hK2 r2 HR2 ce2
          go_wp2
          go_ret
          exact ⟨rfl, K2.below⟩

set_option maxRecDepth 100000 in
theorem lifted (os : Os) (started : os.Started) (H : Type) (enc : TypeId × Value → H) :
    ReturnsInHanded {} Try.checked os 4 .any (Rows.fnLastSixSpec.pre6 enc Try.prog Try.f4 Rows.fnLastSixRow.domain false) (Rows.fnLastSixSpec.post enc Try.prog Try.f4 false true false false) := by
  refine returnsInHanded_of_change (C := Try.checked) own started (by kernel_rfl) Try.func4
    (ChangeSpec.witness6 (enc := enc) (C := Try.checked) false ⟨#[], #[.slice none 0 0], []⟩ 8 (by kernel_rfl) (by kernel_rfl) (by kernel_rfl) (by kernel_rfl)) ?_
  intro W base args ds gs before hval0 hW hcnd _
  have hval : ∀ (j : Nat) t v, Try.f4.params[j]? = some t → args[j]? = some v → Value.okWide Try.prog W .any base t v := hval0
  have hW' := hW
  obtain ⟨p, q, hA0, hV, rfl, hfz, hnd⟩ := hW
  have hA : DataW.TrodAll enc Try.prog W 0 (fun _ => true) true Try.f4.params.toList args.toList ds p := hA0
  rw [Try.params4] at hA hval
  obtain ⟨v0, vs0, d0, ds0, p0, q0, hargs, rfl, rfl, h0, r0⟩ := trodAll_cons hA
  obtain ⟨rfl, rfl, rfl⟩ := trodAll_nil r0
  obtain rfl : args = #[v0] := by cases args; simp_all
  obtain ⟨rfl, rfl⟩ := trodVars_none hV
  have k0 := h0
  have lt0 : ∀ x ∈ p0, x.block < W.heap.size := by obtain ⟨m, hm⟩ := k0; exact DataW.trod_lt m _ _ _ hm
  obtain ⟨A0, n0, cap0, rfl⟩ := okWide_slice Try.underlying22 (hval 0 22 v0 rfl rfl)
  obtain ⟨xs0, rb0, hl0⟩ := open_byts Try.underlying22 Try.underlying5 (by kernel_rfl) h0
  clear hA0 hval0
  refine (walk W A0 n0 cap0 xs0 rb0 hl0).mono fun e W' ⟨he, bel⟩ => ?_
  subst he
  exact ⟨_, rfl, _, _, _, [], _, [], hW', trodAll_mk1 (shut_bool Try.underlying4 _), (trodAll_cons_mk (Below.trod laidOut (by kernel_rfl) (of_decide_eq_true (by kernel_rfl)) k0 bel lt0) trodAll_mk0), rfl, bel.frame _, fun h => by cases h⟩

theorem over : Rows.fnLastSixRow.holds Try.pinned (OpenSpec.ofChange Rows.fnLastSixSpec) :=
  OpenClaim.holds_of_wide 4 Try.f4 rfl rfl rfl rfl rfl rfl rfl ⟨rfl, rfl, rfl, rfl, rfl⟩ rfl rfl rfl rfl rfl (by kernel_rfl) Try.func4 (by kernel_rfl)
    (of_decide_eq_true (by kernel_rfl)) (by unfold Func.isWrapper; first | (rw [if_pos (by decide +kernel)]; kernel_rfl) | (rw [if_neg (by decide +kernel)]; exact ⟨rfl, rfl⟩))
    (fun os started H enc _ => lifted os started H enc)

/-- The given statement. -/
theorem proved : Rows.FnLastSixSaid := over
end Go.Proofs.Ytcoipfnphmealaa.fnLastSix
