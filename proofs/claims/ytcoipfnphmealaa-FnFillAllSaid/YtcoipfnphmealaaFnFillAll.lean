/-
  For every draw: a shadow table that is filled page by page is the composition of both tables, all its pages are known, it is consistent, and when all is forgotten none is known. No condition.
-/
import Derived.Test.YtcoipfnphmealaaRows
import Derived.WalkKit
import Derived.ProofKit
import Derived.OpenShut
import Derived.ShutString
import Derived.ChangeOld
import Derived.Below
import Derived.Lib.SmallJoins
import Derived.WalkSpells
import Derived.Test.YtcoipfnphmealaaPlc
import Derived.Test.YtcoipfnphmealaaOpen
import Derived.Test.YtcoipfnphmealaaOne
import Derived.Test.YtcoipfnphmealaaTab
import Derived.Test.YtcoipfnphmealaaSamE
import Derived.Test.YtcoipfnphmealaaKbx
import Derived.Handy
import Derived.Deep.QuietTactic
import Derived.BigQuiet
import Derived.Deep.RegionHeld3
import Derived.Deep.Cut
namespace Go.Proofs.Ytcoipfnphmealaa.fnFillAll
open Go.ChangeShapes Go.WideShapes Go.ChangeAt Go.RowKit
set_option linter.unusedVariables false

theorem own : ownKnob Try.prog.godebug = none := by kernel_rfl
theorem laidOut : laidOutB Try.prog = true := by kernel_rfl

set_option maxRecDepth 100000 in
set_option maxHeartbeats 8000000 in
theorem walk (w : World) (A : Option Addr) (n c : Nat) (xs : List Int) (rb : Rd w w.heap.size 1 (.slice A n c) (byts xs)) (hl : xs.length = n) :
    Calls Try.prog 8 #[.slice A n c] w fun e w' => e = .returned (.bool true) ∧ Below w.heap.size w w' := by
  have hc9 : n ≤ 9223372036854775807 := by obtain ⟨_, _, _, e, h1, h2, _⟩ := rb; injection e with _ e2 e3; unfold maxLen at h2; omega
  clear hl
  rcases Bool.eq_false_or_eq_true (bigT n) with hbig | hbig
  · go_enter Try.func8, Try.ntmps8
    go_wp2_with fail
    refine (big_any A n c hc9 _).mono ?_
    rintro e w' ⟨rfl, rfl⟩
    rw [hbig]
    go_wp2
    go_ret
    exact ⟨rfl, Below.refl _ _⟩
  go_enter Try.func8, Try.ntmps8
  go_wp2_with fail
  refine (big_any A n c hc9 _).mono ?_
  rintro e w' ⟨rfl, rfl⟩
  rw [hbig]
  clear hbig
  go_wp2_with fail
  refine (DrawCompose_any _ _ xs rb).mono ?_
  rintro e W1 ⟨vi, vo, li, lo, rfl, hli, hlo, ri, ro, k1⟩
  obtain ⟨inner, hin, ri2, hle⟩ := twos_row ri (by omega)
  obtain ⟨outer, hout, ro2, hle2⟩ := twos_row ro (by omega)
  obtain ⟨A1, n1, c1, rfl⟩ := ri2.slice
  have hn1 : n1 = inner.length := by have := ri2.len.1; rw [ints_length, twosI_length] at this; omega
  subst hn1
  have hn9 : inner.length ≤ 9223372036854775807 := by omega
  have RI := Lib.hid ri2.rd
  have RO := Lib.hid ro2.rd
  clear hin hout ri2 ro2 ri ro
  go_wp2_with fail
  refine (implKeptNew_any W1 inner.length (by omega)).mono ?_
  rintro e W2 ⟨va, vb, rfl, hd2, k2⟩
  obtain ⟨CA, na, ca, rfl⟩ := hd2.a.slice
  obtain ⟨CB, nb, cb, rfl⟩ := hd2.b.slice
  have KB0 := Lib.hid (KB.new hd2)
  have KV := Lib.hid (k1.tr0 k2)
  have RI2 := Lib.hid ((RI.out.keep k2 (Nat.le_refl _) (.inr (Nat.le_refl 0))).mono k2.size)
  have RO2 := Lib.hid ((RO.out.keep k2 (Nat.le_refl _) (.inr (Nat.le_refl 0))).mono k2.size)
  clear k1 k2 hd2 RI RO
  have hlen := fillN_length inner outer
  go_wp2
  go_loopw [6] (fun i wr => ∃ (k : Nat) (va vb : Value), k ≤ inner.length ∧ i = .int .i64 k ∧ KB W2.heap.size wr va vb (fillN inner outer k).1 (fillN inner outer k).2 ∧ Keep 0 0 W2 wr) (fun i _ => inner.length - (intOf i).toNat)
  case atStart => exact ⟨0, _, _, Nat.zero_le _, rfl, KB0.out, keep_1 W2 _⟩
  case round =>
    obtain ⟨k, va, vb, hk, rfl, hkb, hK⟩ := hrel
    obtain ⟨A2, n2, c2, B2, m2, d2, rfl, rfl, hn2, hm2⟩ := hkb.lens
    have HKB := Lib.hid hkb
    have HK := Lib.hid hK
    have HL := Lib.hid (hlen k)
    obtain ⟨x0, x1, f0, f1⟩ := hkb.box.c2
    clear hkb hK KB0 hn2 hm2 hlen
    by_cases hlt : k < inner.length
    · have RI3 := Lib.hid (RI2.out.keep HK.out (Nat.le_refl _) (.inr (Nat.le_refl 0)))
      have RO3 := Lib.hid (RO2.out.keep HK.out (Nat.le_refl _) (.inr (Nat.le_refl 0)))
      go_wp2_with fail
      refine (implFill_any wr _ _ _ _ _ _ _ _ _ _ inner outer k HKB.out.a.rd HKB.out.b.rd RI3.out RO3.out (Nat.le_refl _) (Nat.le_refl _) HK.out.size (by have := HL.out.1; omega) (by rw [twosI_length]; have := HL.out.2; omega)).mono ?_
      rintro e W3 ⟨vc, vd, rfl, hd3, k3⟩
      obtain ⟨A3, n3, c3, rfl⟩ := hd3.a.slice
      obtain ⟨B3, m3, d3, rfl⟩ := hd3.b.slice
      have HN := Lib.hid (HKB.out.step k3 hd3)
      have HK3 := Lib.hid (KB.store (Q := W2.heap.size) (vc := .slice A3 n3 c3) (vd := .slice B3 m3 d3) (HK.out.tr0 k3) (Nat.le_refl _))
      obtain ⟨y0, y1, g0, g1⟩ := (HKB.out.quiet k3).box.c2
      clear x0 x1 f0 f1 hd3 k3
      go_wp2
      go_roundw
      case rel => exact ⟨k + 1, _, _, by omega, by go_num, HN.out, HK3.out⟩
      case measure => simp [intOf]; omega
    · obtain rfl : k = inner.length := by omega
      have HSL := Lib.hid (fillN_slots inner outer)
      have HA := Lib.hid (show knownT (fillN inner outer inner.length).1 = inner.length from by rw [fillN_known, knownT_true])
      have HOK := Lib.hid (fillN_ok inner outer)
      have HF := Lib.hid (forgetAll_none (fillN inner outer inner.length).1 (fillN inner outer inner.length).2 (by have := HL.out; omega))
      have HG := Lib.hid (forgetL_lengths (fillN inner outer inner.length).1 (fillN inner outer inner.length).2 (pagesUpto (fillN inner outer inner.length).1.length))
      clear hlt
      generalize (fillN inner outer inner.length).1 = ks at HSL HA HOK HF HG HL HKB
      generalize (fillN inner outer inner.length).2 = sl at HSL HA HOK HF HG HL HKB
      have HS := Lib.hid (show ∀ w1 w2 : World, (w1.cell? ⟨W2.heap.size, 0, none⟩ = some (.slice A2 n2 c2) ∧ w1.cell? ⟨W2.heap.size, 1, none⟩ = some (.slice B2 m2 d2) ∧ Keep 0 0 wr w1) → Keep 0 0 w1 w2 → (w2.cell? ⟨W2.heap.size, 0, none⟩ = some (.slice A2 n2 c2) ∧ w2.cell? ⟨W2.heap.size, 1, none⟩ = some (.slice B2 m2 d2) ∧ Keep 0 0 wr w2) from fun w1 w2 ⟨h0, h1, h2⟩ q => ⟨q.cells (World.block_lt_of_cell? _ _ h0) h0, q.cells (World.block_lt_of_cell? _ _ h1) h1, h2.tr0 q⟩)
      have HVA := Lib.hid (show ∀ w1 : World, (w1.cell? ⟨W2.heap.size, 0, none⟩ = some (.slice A2 n2 c2) ∧ w1.cell? ⟨W2.heap.size, 1, none⟩ = some (.slice B2 m2 d2) ∧ Keep 0 0 wr w1) → Rd w1 w1.heap.size 1 (.slice A2 n2 c2) (bols ks) from fun w1 ⟨_, _, q⟩ => ((HKB.out.quiet q).a).rd)
      have HVB := Lib.hid (show ∀ w1 : World, (w1.cell? ⟨W2.heap.size, 0, none⟩ = some (.slice A2 n2 c2) ∧ w1.cell? ⟨W2.heap.size, 1, none⟩ = some (.slice B2 m2 d2) ∧ Keep 0 0 wr w1) → Rd w1 w1.heap.size 2 (.slice B2 m2 d2) (ints (twosI sl)) from fun w1 ⟨_, _, q⟩ => ((HKB.out.quiet q).b).rd)
      have HVI := Lib.hid (show ∀ w1 : World, (w1.cell? ⟨W2.heap.size, 0, none⟩ = some (.slice A2 n2 c2) ∧ w1.cell? ⟨W2.heap.size, 1, none⟩ = some (.slice B2 m2 d2) ∧ Keep 0 0 wr w1) → Rd w1 w1.heap.size 2 (.slice A1 inner.length c1) (ints (twosI inner)) from fun w1 ⟨_, _, q⟩ => (RI2.out.keep (HK.out.tr0 q) (Nat.le_refl _) (.inr (Nat.le_refl 0))).mono (HK.out.tr0 q).size)
      have HVO := Lib.hid (show ∀ w1 : World, (w1.cell? ⟨W2.heap.size, 0, none⟩ = some (.slice A2 n2 c2) ∧ w1.cell? ⟨W2.heap.size, 1, none⟩ = some (.slice B2 m2 d2) ∧ Keep 0 0 wr w1) → Rd w1 w1.heap.size 2 vo (ints (twosI outer)) from fun w1 ⟨_, _, q⟩ => (RO2.out.keep (HK.out.tr0 q) (Nat.le_refl _) (.inr (Nat.le_refl 0))).mono (HK.out.tr0 q).size)
      have HC1 := Lib.hid (show ∀ w1 : World, (w1.cell? ⟨W2.heap.size, 0, none⟩ = some (.slice A2 n2 c2) ∧ w1.cell? ⟨W2.heap.size, 1, none⟩ = some (.slice B2 m2 d2) ∧ Keep 0 0 wr w1) → Calls Try.prog 50 #[.slice A1 inner.length c1, vo] w1 fun e w' => ∃ v', e = .returned v' ∧ Row w' w1.heap.size w'.heap.size 67 2 v' (ints (twosI sl)) ∧ Keep 0 0 w1 w' from fun w1 h => by
        rw [HSL.out]
        exact implCompose_any w1 _ _ _ _ inner outer (HVI.out w1 h) (HVO.out w1 h) (Nat.le_refl _) (by omega))
      have HC2 := Lib.hid (show ∀ (w1 : World) (v2 : Value), (w1.cell? ⟨W2.heap.size, 0, none⟩ = some (.slice A2 n2 c2) ∧ w1.cell? ⟨W2.heap.size, 1, none⟩ = some (.slice B2 m2 d2) ∧ Keep 0 0 wr w1) → Rd w1 w1.heap.size 2 v2 (ints (twosI sl)) → Calls Try.prog 49 #[.slice B2 m2 d2, v2] w1 fun e w' => e = .returned (.bool true) ∧ Keep 0 0 w1 w' from fun w1 v2 h r =>
        (sameSlots_eq w1 _ _ _ _ _ (HVB.out w1 h) r).mono fun e w' ⟨q1, q2⟩ => ⟨q1, q2.keep 0 0⟩)
      have HC3 := Lib.hid (show ∀ w1 : World, (w1.cell? ⟨W2.heap.size, 0, none⟩ = some (.slice A2 n2 c2) ∧ w1.cell? ⟨W2.heap.size, 1, none⟩ = some (.slice B2 m2 d2) ∧ Keep 0 0 wr w1) → Calls Try.prog 51 #[.agg #[.slice A2 n2 c2, .slice B2 m2 d2]] w1 fun e w' => e = .returned (.int .i64 (inner.length : Nat)) ∧ Keep 0 0 w1 w' from fun w1 h => by
        have q := implKnownIn_any w1 _ (.slice A2 n2 c2) (.slice B2 m2 d2) ks (HVA.out w1 h) (by have := HL.out.1; omega)
        rw [HA.out] at q
        exact q)
      have HC4 := Lib.hid (show ∀ w1 : World, (w1.cell? ⟨W2.heap.size, 0, none⟩ = some (.slice A2 n2 c2) ∧ w1.cell? ⟨W2.heap.size, 1, none⟩ = some (.slice B2 m2 d2) ∧ Keep 0 0 wr w1) → Calls Try.prog 52 #[.agg #[.slice A2 n2 c2, .slice B2 m2 d2], .slice A1 inner.length c1, vo] w1 fun e w' => e = .returned (.bool true) ∧ Keep 0 0 w1 w' from fun w1 h => by
        have q := implKeptOk_any w1 _ _ _ _ (.slice A2 n2 c2) (.slice B2 m2 d2) _ _ ks sl inner outer (HVA.out w1 h) (HVB.out w1 h) (HVI.out w1 h) (HVO.out w1 h) (Nat.le_refl _)
        rw [HOK.out] at q
        exact q)
      have HC5 := Lib.hid (show ∀ w1 : World, (w1.cell? ⟨W2.heap.size, 0, none⟩ = some (.slice A2 n2 c2) ∧ w1.cell? ⟨W2.heap.size, 1, none⟩ = some (.slice B2 m2 d2) ∧ Keep 0 0 wr w1) → Calls Try.prog 53 #[.agg #[.slice A2 n2 c2, .slice B2 m2 d2]] w1 fun e w' => ∃ (A5 : Option Addr) (n5 c5 : Nat) (B5 : Option Addr) (m5 d5 : Nat), e = .returned (.agg #[.slice A5 n5 c5, .slice B5 m5 d5]) ∧ Rd w' w'.heap.size 1 (.slice A5 n5 c5) (bols (forgetL ks sl (pagesUpto ks.length)).1) ∧ Keep 0 0 w1 w' from fun w1 h => by
        refine (implForgetAll_any w1 _ _ (.slice A2 n2 c2) (.slice B2 m2 d2) ks sl (HVA.out w1 h) (HVB.out w1 h) (Nat.le_refl _) (Nat.le_refl _) (by have := HL.out.1; omega) (by rw [twosI_length]; have := HL.out.2; omega)).mono ?_
        rintro e w5 ⟨v5, u5, rfl, hd5, k5⟩
        obtain ⟨A5, n5, c5, rfl⟩ := hd5.a.slice
        obtain ⟨B5, m5, d5, rfl⟩ := hd5.b.slice
        exact ⟨A5, n5, c5, B5, m5, d5, rfl, hd5.a.rd, k5⟩)
      have HC6 := Lib.hid (show ∀ (w1 : World) (vc vd : Value), Rd w1 w1.heap.size 1 vc (bols (forgetL ks sl (pagesUpto ks.length)).1) → Calls Try.prog 51 #[.agg #[vc, vd]] w1 fun e w' => e = .returned (.int .i64 0) ∧ Keep 0 0 w1 w' from fun w1 vc vd r => by
        have q := implKnownIn_any w1 _ vc vd _ r (by have := HG.out.1; have := HL.out.1; omega)
        rw [HF.out] at q
        exact q)
      have HE := Lib.hid (show ∀ w1 : World, (w1.cell? ⟨W2.heap.size, 0, none⟩ = some (.slice A2 n2 c2) ∧ w1.cell? ⟨W2.heap.size, 1, none⟩ = some (.slice B2 m2 d2) ∧ Keep 0 0 wr w1) → Below w.heap.size w w1 from fun w1 ⟨_, _, q⟩ => ((KV.out.tr0 HK.out).tr0 q).below)
      go_upto_region 9 with (fail)
      clear HVA HVB HVI HVO HSL HA HOK HF HG HL HKB RI2 RO2 f0 f1
      go_region_held3 (fun w' => w'.cell? ⟨W2.heap.size, 0, none⟩ = some (.slice A2 n2 c2) ∧ w'.cell? ⟨W2.heap.size, 1, none⟩ = some (.slice B2 m2 d2) ∧ Keep 0 0 wr w')
        (first | (refine HS.out ?_ _ ?_ ?_; rotate_right; (with_reducible assumption); (with_reducible assumption)) | (refine HS.out wr _ ⟨x0, x1, Keep.refl 0 0 wr⟩ ?_; repeat' (first | (with_reducible exact Keep.refl 0 0 _) | (with_reducible exact ((Keep.refl 0 0 wr).drew).tr0 k2) | (with_reducible exact (((Keep.refl 0 0 wr).alloc _).drew).tr0 k2) | (with_reducible refine Keep.alloc ?_ _) | (with_reducible refine Keep.drew ?_) | (with_reducible refine Keep.setCell ?_ (.inr (Nat.le_refl _)) _))) | fail)
        (first
          | (go_at_call 50; refine (HC1.out _ ?_).mono ?_; (with_reducible assumption); (rintro e w2 ⟨v2, rfl, r2, k2⟩); (obtain ⟨A3, n3, c3, rfl⟩ := r2.slice))
          | (go_at_call 49; refine (HC2.out _ _ ?_ r2.rd).mono ?_; (with_reducible assumption); (rintro e w3 ⟨rfl, k3⟩))
          | (go_at_call 51; refine (HC6.out _ (.slice A5 n5 c5) (.slice B5 m5 d5) r5).mono ?_; (rintro e w6 ⟨rfl, k6⟩))
          | (go_at_call 51; refine (HC3.out _ ?_).mono ?_; (with_reducible assumption); (rintro e w4 ⟨rfl, k4⟩))
          | (go_at_call 52; refine (HC4.out _ ?_).mono ?_; (with_reducible assumption); (rintro e w7 ⟨rfl, k7⟩))
          | (go_at_call 53; refine (HC5.out _ ?_).mono ?_; (with_reducible assumption); (rintro e w5 ⟨A5, n5, c5, B5, m5, d5, rfl, r5, k5⟩))
          | fail)
      all_goals
        go_wp2
        go_ret
        exact ⟨rfl, HE.out _ (by with_reducible assumption)⟩

set_option maxRecDepth 100000 in
theorem lifted (os : Os) (started : os.Started) (H : Type) (enc : TypeId × Value → H) :
    ReturnsInHanded {} Try.checked os 8 .any (Rows.fnFillAllSpec.pre6 enc Try.prog Try.f8 Rows.fnFillAllRow.domain false) (Rows.fnFillAllSpec.post enc Try.prog Try.f8 false true false false) := by
  refine returnsInHanded_of_change (C := Try.checked) own started (by kernel_rfl) Try.func8
    (ChangeSpec.witness6 (enc := enc) (C := Try.checked) false ⟨#[], #[.slice none 0 0], []⟩ 8 (by kernel_rfl) (by kernel_rfl) (by kernel_rfl) (by kernel_rfl)) ?_
  intro W base args ds gs before hval0 hW hcnd _
  have hval : ∀ (j : Nat) t v, Try.f8.params[j]? = some t → args[j]? = some v → Value.okWide Try.prog W .any base t v := hval0
  have hW' := hW
  obtain ⟨p, q, hA0, hV, rfl, hfz, hnd⟩ := hW
  have hA : DataW.TrodAll enc Try.prog W 0 (fun _ => true) true Try.f8.params.toList args.toList ds p := hA0
  rw [Try.params8] at hA hval
  obtain ⟨v0, vs0, d0, ds0, p0, q0, hargs, rfl, rfl, h0, r0⟩ := trodAll_cons hA
  obtain ⟨rfl, rfl, rfl⟩ := trodAll_nil r0
  obtain rfl : args = #[v0] := by cases args; simp_all
  obtain ⟨rfl, rfl⟩ := trodVars_none hV
  have k0 := h0
  have lt0 : ∀ x ∈ p0, x.block < W.heap.size := by obtain ⟨m, hm⟩ := k0; exact DataW.trod_lt m _ _ _ hm
  obtain ⟨A0, n0, cap0, rfl⟩ := okWide_slice Try.underlying22 (hval 0 22 v0 rfl rfl)
  obtain ⟨xs0, rb0, hl0⟩ := open_byts Try.underlying22 Try.underlying5 (by kernel_rfl) h0
  clear hA0 hval0
  refine (walk W A0 n0 cap0 xs0 rb0 hl0).mono fun e W' ⟨he, bel⟩ => ?_
  subst he
  exact ⟨_, rfl, _, _, _, [], _, [], hW', trodAll_mk1 (shut_bool Try.underlying4 _), (trodAll_cons_mk (Below.trod laidOut (by kernel_rfl) (of_decide_eq_true (by kernel_rfl)) k0 bel lt0) trodAll_mk0), rfl, bel.frame _, fun h => by cases h⟩

theorem over : Rows.fnFillAllRow.holds Try.pinned (OpenSpec.ofChange Rows.fnFillAllSpec) :=
  OpenClaim.holds_of_wide 8 Try.f8 rfl rfl rfl rfl rfl rfl rfl ⟨rfl, rfl, rfl, rfl, rfl⟩ rfl rfl rfl rfl rfl (by kernel_rfl) Try.func8 (by kernel_rfl)
    (of_decide_eq_true (by kernel_rfl)) (by unfold Func.isWrapper; first | (rw [if_pos (by decide +kernel)]; kernel_rfl) | (rw [if_neg (by decide +kernel)]; exact ⟨rfl, rfl⟩))
    (fun os started H enc _ => lifted os started H enc)

/-- The given statement. -/
theorem proved : Rows.FnFillAllSaid := over
end Go.Proofs.Ytcoipfnphmealaa.fnFillAll
