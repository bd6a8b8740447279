/-
  For every draw: after one slot of the outer table has changed and the uses of its page are forgotten, what is kept is consistent with the new table; none is known that was not known, and no more are forgotten than the page has uses. No condition.
-/
import Derived.Test.YtcoipfnphmealaaRows
import Derived.WalkKit
import Derived.ProofKit
import Derived.OpenShut
import Derived.ShutString
import Derived.ChangeOld
import Derived.Below
import Derived.Lib.SmallJoins
import Derived.WalkSpells
import Derived.Test.YtcoipfnphmealaaPlc
import Derived.Test.YtcoipfnphmealaaOpen
import Derived.Test.YtcoipfnphmealaaOne
import Derived.Test.YtcoipfnphmealaaCas3
import Derived.Test.YtcoipfnphmealaaKpl
import Derived.Handy
import Derived.Deep.QuietTactic
import Derived.BigQuiet
import Derived.Deep.RegionHeld3
import Derived.Deep.Cut
namespace Go.Proofs.Ytcoipfnphmealaa.fnForgotten
open Go.ChangeShapes Go.WideShapes Go.ChangeAt Go.RowKit
set_option linter.unusedVariables false

theorem own : ownKnob Try.prog.godebug = none := by kernel_rfl
theorem laidOut : laidOutB Try.prog = true := by kernel_rfl

set_option maxRecDepth 100000 in
set_option maxHeartbeats 8000000 in
theorem walk (w : World) (A : Option Addr) (n c : Nat) (xs : List Int) (rb : Rd w w.heap.size 1 (.slice A n c) (byts xs)) (hl : xs.length = n) :
    Calls Try.prog 9 #[.slice A n c] w fun e w' => e = .returned (.bool true) ∧ Below w.heap.size w w' := by
  have hc9 : n ≤ 9223372036854775807 := by obtain ⟨_, _, _, e, h1, h2, _⟩ := rb; injection e with _ e2 e3; unfold maxLen at h2; omega
  clear hl
  rcases Bool.eq_false_or_eq_true (bigT n) with hbig | hbig
  · go_enter Try.func9, Try.ntmps9
    go_wp2_with fail
    refine (big_any A n c hc9 _).mono ?_
    rintro e w' ⟨rfl, rfl⟩
    rw [hbig]
    go_wp2
    go_ret
    exact ⟨rfl, Below.refl _ _⟩
  go_enter Try.func9, Try.ntmps9
  go_wp2_with fail
  refine (big_any A n c hc9 _).mono ?_
  rintro e w' ⟨rfl, rfl⟩
  rw [hbig]
  clear hbig
  go_wp2_with fail
  refine (DrawKeptOk_any _ _ xs rb).mono ?_
  rintro e W1 ⟨va, vb, vi, vo, ks, sl, inner, outer, rfl, l1, l2, l3, l4, ra, rk, ri, ro, k1⟩
  obtain ⟨A2, n2, c2, rfl⟩ : ∃ A n c, va = .slice A n c := by obtain ⟨A, n, c, e, _⟩ := ra; exact ⟨A, n, c, e⟩
  obtain ⟨B2, m2, d2, rfl⟩ : ∃ A n c, vb = .slice A n c := by obtain ⟨A, n, c, e, _⟩ := rk; exact ⟨A, n, c, e⟩
  obtain ⟨I1, n1, c1, rfl⟩ : ∃ A n c, vi = .slice A n c := by obtain ⟨A, n, c, e, _⟩ := ri; exact ⟨A, n, c, e⟩
  obtain ⟨O1, m1, d1, rfl⟩ : ∃ A n c, vo = .slice A n c := by obtain ⟨A, n, c, e, _⟩ := ro; exact ⟨A, n, c, e⟩
  have L1 := Lo.new W1 55 #[.slice A2 n2 c2, .slice B2 m2 d2] rfl
  have j1 := keep_1 W1 (.cells #[.slice A2 n2 c2, .slice B2 m2 d2] 55)
  have RB1 := (rb.keep (k1.tr0 j1) (Nat.le_refl _) (.inr (Nat.le_refl 0))).mono (k1.tr0 j1).size
  have K1 := k1.tr0 j1
  have hm1 : m1 = outer.length := by obtain ⟨_, _, _, e, _, _, h, _⟩ := ro; injection e with _ e2 _; rw [ints_length, twosI_length] at h; omega
  subst hm1
  have ra1 := (ra.keep j1 (Nat.le_refl _) (.inr (Nat.le_refl 0))).mono j1.size
  have rk1 := (rk.keep j1 (Nat.le_refl _) (.inr (Nat.le_refl 0))).mono j1.size
  have ri1 := (ri.keep j1 (Nat.le_refl _) (.inr (Nat.le_refl 0))).mono j1.size
  have ro1 := (ro.keep j1 (Nat.le_refl _) (.inr (Nat.le_refl 0))).mono j1.size
  clear j1 k1 ra rk ri ro rb
  have hl9 : outer.length ≤ 9223372036854775807 := by omega
  go_wp2_with fail
  generalize hq : W1.heap.size = Q at L1
  generalize W1.alloc (.cells #[.slice A2 n2 c2, .slice B2 m2 d2] 55) = V at L1 RB1 K1 ra1 rk1 ri1 ro1 ⊢
  refine (DrawPlaces_any V _ xs RB1).mono ?_
  rintro e W2 ⟨v, l, rfl, hl, hx, hr, k2⟩
  obtain ⟨g, off, cc, p0, p1, p2, p3, p4, rfl, hg0, hg1, e0, e1, e2, e3, e4, ⟨b00, b01⟩, ⟨b10, b11⟩, ⟨b20, b21⟩, ⟨b30, b31⟩, ⟨b40, b41⟩⟩ := places_open hl hx hr
  have K2 := Lib.hid (K1.tr0 k2)
  have L2 := L1.keep0 k2
  have ra2 := Lib.hid ((ra1.keep k2 (Nat.le_refl _) (.inr (Nat.le_refl 0))).mono k2.size)
  have rk2 := Lib.hid ((rk1.keep k2 (Nat.le_refl _) (.inr (Nat.le_refl 0))).mono k2.size)
  have ri2 := Lib.hid ((ri1.keep k2 (Nat.le_refl _) (.inr (Nat.le_refl 0))).mono k2.size)
  have ro2 := Lib.hid ((ro1.keep k2 (Nat.le_refl _) (.inr (Nat.le_refl 0))).mono k2.size)
  clear e3 e4 b30 b31 b40 b41 hl hx hr RB1 K1 L1 ra1 rk1 ri1 ro1 k2 hg0
  obtain ⟨x0, x1, f0, f1⟩ := L2.c2
  obtain ⟨P, hP, hP8⟩ : ∃ P : Nat, p0 % 8 = (P : Int) ∧ P < 8 := ⟨(p0 % 8).toNat, by omega, by omega⟩
  have HN3 := Lib.hid (show ∀ w1 : World, Calls Try.prog 47 #[.int .i64 3] w1 fun e w' => ∃ vc vd, e = .returned (.agg #[vc, vd]) ∧ Duo w' w1.heap.size w'.heap.size vc vd (bols (List.replicate 3 false)) (ints (twosI (noTab 3))) ∧ Keep 0 0 w1 w' from fun w1 => implKeptNew_any w1 3 (by omega))
  go_wp2_with fail
  refine (specKeptOk_any W2 _ _ _ _ _ _ _ _ ks sl inner outer ra2.out rk2.out ri2.out ro2.out (Nat.le_refl _)).mono ?_
  rintro e W3 ⟨rfl, k3⟩
  have K3 := Lib.hid (K2.out.tr0 k3)
  have L3 := Lib.hid (L2.keep0 k3)
  have ra3 := Lib.hid ((ra2.out.keep k3 (Nat.le_refl _) (.inr (Nat.le_refl 0))).mono k3.size)
  have rk3 := Lib.hid ((rk2.out.keep k3 (Nat.le_refl _) (.inr (Nat.le_refl 0))).mono k3.size)
  have ri3 := Lib.hid ((ri2.out.keep k3 (Nat.le_refl _) (.inr (Nat.le_refl 0))).mono k3.size)
  have ro3 := Lib.hid ((ro2.out.keep k3 (Nat.le_refl _) (.inr (Nat.le_refl 0))).mono k3.size)
  have ce1 := k3.cells (World.block_lt_of_cell? _ _ e1) e1
  have ce2 := k3.cells (World.block_lt_of_cell? _ _ e2) e2
  obtain ⟨kb, hkb⟩ : ∃ b, keptOkT ks sl inner outer = b := ⟨_, rfl⟩
  rw [hkb]
  clear e0 e1 e2 x0 x1 f0 f1 L2 ra2 rk2 ri2 ro2 k3 K2
  have HKB := Lib.hid hkb
  clear hkb
  rcases kb with _ | _
  · clear ce1 ce2
    go_wp2_with fail
    refine (HN3.out W3).mono ?_
    rintro e W4 ⟨vc, vd, rfl, hd4, k4⟩
    obtain ⟨A4, n4, c4, rfl⟩ := hd4.a.slice
    obtain ⟨B4, m4, d4, rfl⟩ := hd4.b.slice
    have hm4 : m4 = 3 := by have := hd4.b.len.1; rw [ints_length, twosI_length, noTab_length] at this; omega
    subst hm4
    have K4 := K3.out.tr0 k4
    have hfl := field_slots (.slice A4 n4 c4) (.slice B4 3 d4) W4
    clear hd4 k4
    go_wp2
    go_ret
    exact ⟨rfl, K4.below⟩
  · by_cases h8 : outer.length = 8
    · have HH8 := Lib.hid h8
      replace ro3 := Lib.hid (show Rd W3 W3.heap.size 2 (.slice O1 8 d1) (ints (twosI outer)) from by have q := ro3.out; rw [h8] at q; exact q)
      have q1 : ((outer.length : Int) == 8) = true := by rw [h8]; rfl
      have q2 : ((outer.length : Int) != 8) = false := by rw [h8]; rfl
      have q3 : (outer.length : Int) = 8 := by omega
      go_upto_region 8 with (fail)
      go_still_tail 12, (by kernel_rfl)
      change wpList _ _ _ _ _ W3.drew
      have kd := (Keep.refl 0 0 W3).drew
      go_wp2_with fail
      refine (specWithSlot_8 W3.drew _ _ outer P (p1 % 24) (1 + p2 % 3) (ro3.out.keep kd (Nat.le_refl _) (.inr (Nat.le_refl 0))) (Nat.le_refl _) HH8.out hP8).mono ?_
      rintro e W4 ⟨vn, rfl, rn, k4⟩
      have j4 := kd.tr0 k4
      have K4 := Lib.hid (K3.out.tr0 j4)
      have L4 := Lib.hid (L3.out.keep0 j4)
      have ra4 := Lib.hid ((ra3.out.keep j4 (Nat.le_refl _) (.inr (Nat.le_refl 0))).mono j4.size)
      have rk4 := Lib.hid ((rk3.out.keep j4 (Nat.le_refl _) (.inr (Nat.le_refl 0))).mono j4.size)
      have ri4 := Lib.hid ((ri3.out.keep j4 (Nat.le_refl _) (.inr (Nat.le_refl 0))).mono j4.size)
      have rn4 := Lib.hid rn.rd
      obtain ⟨x0, x1, f0, f1⟩ := L4.out.c2
      clear ce1 ce2 kd k4 j4 rn K3 L3 ra3 rk3 ri3 ro3 q1 q2 q3
      go_wp2_with fail
      refine (implForgetUses_any W4 _ _ _ (.slice A2 n2 c2) (.slice B2 m2 d2) (.slice I1 n1 c1) ks sl inner P ra4.out rk4.out ri4.out (Nat.le_refl _) (Nat.le_refl _) (Nat.le_refl _) (by omega) (by rw [twosI_length]; omega) (by omega)).mono ?_
      rintro e W5 ⟨vc, vd, rfl, hd5, k5⟩
      obtain ⟨A5, n5, c5, rfl⟩ := hd5.a.slice
      obtain ⟨B5, m5, d5, rfl⟩ := hd5.b.slice
      have LX := Lo.new W5 55 #[.slice A5 n5 c5, .slice B5 m5 d5] rfl
      have j5 := keep_1 W5 (.cells #[.slice A5 n5 c5, .slice B5 m5 d5] 55)
      have q5 := k5.tr0 j5
      have K5 := Lib.hid (K4.out.tr0 q5)
      have L5 := L4.out.keep0 q5
      have rx5 := Lib.hid ((hd5.a.rd.keep j5 (Nat.le_refl _) (.inr (Nat.le_refl 0))).mono j5.size)
      have ry5 := Lib.hid ((hd5.b.rd.keep j5 (Nat.le_refl _) (.inr (Nat.le_refl 0))).mono j5.size)
      have ra5 := Lib.hid ((ra4.out.keep q5 (Nat.le_refl _) (.inr (Nat.le_refl 0))).mono q5.size)
      have ri5 := Lib.hid ((ri4.out.keep q5 (Nat.le_refl _) (.inr (Nat.le_refl 0))).mono q5.size)
      have rn5 := Lib.hid ((rn4.out.keep q5 (Nat.le_refl _) (.inr (Nat.le_refl 0))).mono q5.size)
      obtain ⟨y0, y1, _, _⟩ := L5.c2
      clear x0 x1 f0 f1 hd5 k5 j5 q5 K4 L4 ra4 rk4 ri4 rn4
      have hok := forgotten_ok (ks := ks) (sl := sl) (inner := inner) (outer := outer) (p := (P : Int)) (p1 % 24, 1 + p2 % 3) (by omega) HKB.out
      rw [Int.toNat_natCast] at hok
      have hkn := knownT_forgetL (usesT inner P) ks sl
      have hul : (usesT inner P).length ≤ 4 := Nat.le_trans (usesUpto_length inner P inner.length) l3
      have hal : knownT ks ≤ 4 := Nat.le_trans (knownT_le ks) l1
      have hln := forgetL_lengths ks sl (usesT inner P)
      obtain ⟨ksx, hksx⟩ : ∃ x, (forgetL ks sl (usesT inner P)).1 = x := ⟨_, rfl⟩
      obtain ⟨slx, hslx⟩ : ∃ x, (forgetL ks sl (usesT inner P)).2 = x := ⟨_, rfl⟩
      rw [hksx] at hkn hln hok
      rw [hslx] at hln hok
      have rx6 := rx5.out
      have ry6 := ry5.out
      rw [hksx] at rx6
      rw [hslx] at ry6
      obtain ⟨ka, hka⟩ : ∃ a, knownT ks = a := ⟨_, rfl⟩
      obtain ⟨kx, hkx⟩ : ∃ a, knownT ksx = a := ⟨_, rfl⟩
      obtain ⟨ul, hu⟩ : ∃ a, (usesT inner P).length = a := ⟨_, rfl⟩
      rw [hka, hkx, hu] at hkn
      rw [hka] at hal
      rw [hu] at hul
      have HOK := Lib.hid hok
      have HKA := Lib.hid hka
      have HKX := Lib.hid hkx
      have HU := Lib.hid hu
      have HLN := Lib.hid hln
      have rx7 := Lib.hid rx6
      have ry7 := Lib.hid ry6
      clear hok hka hkx hu hln hksx hslx rx5 ry5 rx6 ry6
      obtain ⟨hk1, hk2⟩ := hkn
      go_wp2_with fail
      generalize W5.alloc (.cells #[.slice A5 n5 c5, .slice B5 m5 d5] 55) = V5 at LX K5 L5 rx7 ry7 ra5 ri5 rn5 ⊢
      generalize W5.heap.size = Q2 at LX ⊢
      have HS := Lib.hid (show ∀ w1 w2 : World, (w1.cell? ⟨Q, 0, none⟩ = some (.slice A2 n2 c2) ∧ w1.cell? ⟨Q, 1, none⟩ = some (.slice B2 m2 d2) ∧ w1.cell? ⟨Q2, 0, none⟩ = some (.slice A5 n5 c5) ∧ w1.cell? ⟨Q2, 1, none⟩ = some (.slice B5 m5 d5) ∧ Keep 0 0 V5 w1) → Keep 0 0 w1 w2 → (w2.cell? ⟨Q, 0, none⟩ = some (.slice A2 n2 c2) ∧ w2.cell? ⟨Q, 1, none⟩ = some (.slice B2 m2 d2) ∧ w2.cell? ⟨Q2, 0, none⟩ = some (.slice A5 n5 c5) ∧ w2.cell? ⟨Q2, 1, none⟩ = some (.slice B5 m5 d5) ∧ Keep 0 0 V5 w2) from fun w1 w2 ⟨h0, h1, h2, h3, h4⟩ q => ⟨q.cells (World.block_lt_of_cell? _ _ h0) h0, q.cells (World.block_lt_of_cell? _ _ h1) h1, q.cells (World.block_lt_of_cell? _ _ h2) h2, q.cells (World.block_lt_of_cell? _ _ h3) h3, h4.tr0 q⟩)
      have HC1 := Lib.hid (show ∀ w1 : World, (w1.cell? ⟨Q, 0, none⟩ = some (.slice A2 n2 c2) ∧ w1.cell? ⟨Q, 1, none⟩ = some (.slice B2 m2 d2) ∧ w1.cell? ⟨Q2, 0, none⟩ = some (.slice A5 n5 c5) ∧ w1.cell? ⟨Q2, 1, none⟩ = some (.slice B5 m5 d5) ∧ Keep 0 0 V5 w1) → Calls Try.prog 52 #[.agg #[.slice A5 n5 c5, .slice B5 m5 d5], .slice I1 n1 c1, vn] w1 fun e w' => e = .returned (.bool true) ∧ Keep 0 0 w1 w' from fun w1 ⟨_, _, _, _, q⟩ => by
        have r := implKeptOk_any w1 _ _ _ _ (.slice A5 n5 c5) (.slice B5 m5 d5) _ _ ksx slx inner (outer.set P (p1 % 24, 1 + p2 % 3)) (rx7.out.keep q (Nat.le_refl _) (.inr (Nat.le_refl 0))) (ry7.out.keep q (Nat.le_refl _) (.inr (Nat.le_refl 0))) (ri5.out.keep q (Nat.le_refl _) (.inr (Nat.le_refl 0))) (rn5.out.keep q (Nat.le_refl _) (.inr (Nat.le_refl 0))) q.size
        rw [HOK.out] at r
        exact r)
      have HC2 := Lib.hid (show ∀ w1 : World, (w1.cell? ⟨Q, 0, none⟩ = some (.slice A2 n2 c2) ∧ w1.cell? ⟨Q, 1, none⟩ = some (.slice B2 m2 d2) ∧ w1.cell? ⟨Q2, 0, none⟩ = some (.slice A5 n5 c5) ∧ w1.cell? ⟨Q2, 1, none⟩ = some (.slice B5 m5 d5) ∧ Keep 0 0 V5 w1) → Calls Try.prog 51 #[.agg #[.slice A5 n5 c5, .slice B5 m5 d5]] w1 fun e w' => e = .returned (.int .i64 kx) ∧ Keep 0 0 w1 w' from fun w1 ⟨_, _, _, _, q⟩ => by
        have r := implKnownIn_any w1 _ (.slice A5 n5 c5) (.slice B5 m5 d5) ksx (rx7.out.keep q (Nat.le_refl _) (.inr (Nat.le_refl 0))) (by have := HLN.out.1; omega)
        rw [HKX.out] at r
        exact r)
      have HC3 := Lib.hid (show ∀ w1 : World, (w1.cell? ⟨Q, 0, none⟩ = some (.slice A2 n2 c2) ∧ w1.cell? ⟨Q, 1, none⟩ = some (.slice B2 m2 d2) ∧ w1.cell? ⟨Q2, 0, none⟩ = some (.slice A5 n5 c5) ∧ w1.cell? ⟨Q2, 1, none⟩ = some (.slice B5 m5 d5) ∧ Keep 0 0 V5 w1) → Calls Try.prog 51 #[.agg #[.slice A2 n2 c2, .slice B2 m2 d2]] w1 fun e w' => e = .returned (.int .i64 ka) ∧ Keep 0 0 w1 w' from fun w1 ⟨_, _, _, _, q⟩ => by
        have r := implKnownIn_any w1 _ (.slice A2 n2 c2) (.slice B2 m2 d2) ks (ra5.out.keep q (Nat.le_refl _) (.inr (Nat.le_refl 0))) (by omega)
        rw [HKA.out] at r
        exact r)
      have HC4 := Lib.hid (show ∀ w1 : World, (w1.cell? ⟨Q, 0, none⟩ = some (.slice A2 n2 c2) ∧ w1.cell? ⟨Q, 1, none⟩ = some (.slice B2 m2 d2) ∧ w1.cell? ⟨Q2, 0, none⟩ = some (.slice A5 n5 c5) ∧ w1.cell? ⟨Q2, 1, none⟩ = some (.slice B5 m5 d5) ∧ Keep 0 0 V5 w1) → Calls Try.prog 58 #[.slice I1 n1 c1, .int .i64 P] w1 fun e w' => ∃ (A9 : Option Addr) (c9 : Nat), e = .returned (.slice A9 ul c9) ∧ Keep 0 0 w1 w' from fun w1 ⟨_, _, _, _, q⟩ => by
        refine (specUsesOf_any w1 _ (.slice I1 n1 c1) inner P (ri5.out.keep q (Nat.le_refl _) (.inr (Nat.le_refl 0))) (by omega)).mono ?_
        rintro e w5 ⟨v5, rfl, r5, k5⟩
        obtain ⟨A9, n9, c9, rfl⟩ := r5.slice
        have hn9 : n9 = ul := by have h := r5.len.1; rw [ints_length, HU.out] at h; omega
        subst hn9
        exact ⟨A9, c9, rfl, k5⟩)
      have HE := Lib.hid (show ∀ w1 : World, (w1.cell? ⟨Q, 0, none⟩ = some (.slice A2 n2 c2) ∧ w1.cell? ⟨Q, 1, none⟩ = some (.slice B2 m2 d2) ∧ w1.cell? ⟨Q2, 0, none⟩ = some (.slice A5 n5 c5) ∧ w1.cell? ⟨Q2, 1, none⟩ = some (.slice B5 m5 d5) ∧ Keep 0 0 V5 w1) → Below w.heap.size w w1 from fun w1 ⟨_, _, _, _, q⟩ => (K5.out.tr0 q).below)
      obtain ⟨y0, y1, _, _⟩ := L5.c2
      obtain ⟨z0, z1, _, _⟩ := LX.c2
      have h0 : V5.cell? ⟨Q, 0, none⟩ = some (.slice A2 n2 c2) ∧ V5.cell? ⟨Q, 1, none⟩ = some (.slice B2 m2 d2) ∧ V5.cell? ⟨Q2, 0, none⟩ = some (.slice A5 n5 c5) ∧ V5.cell? ⟨Q2, 1, none⟩ = some (.slice B5 m5 d5) ∧ Keep 0 0 V5 V5 := ⟨y0, y1, z0, z1, Keep.refl 0 0 V5⟩
      have hwr : IntKind.i64.wrap ((ka : Int) - ul) = (ka : Int) - ul := by rw [IntKind.wrap_i64]; omega
      have dd1 : decide ((kx : Int) ≤ ka) = true := by simp; omega
      have dd2 : decide ((ka : Int) - ul ≤ kx) = true := by simp; omega
      have dd3 : (kx : Int) ≤ ka := by omega
      have dd4 : (ka : Int) - ul ≤ kx := by omega
      clear K5 L5 LX rx7 ry7 ra5 ri5 rn5 HOK HKA HKX HU HLN HKB HH8 hk1 hk2
      go_region_held3 (fun w' => w'.cell? ⟨Q, 0, none⟩ = some (.slice A2 n2 c2) ∧ w'.cell? ⟨Q, 1, none⟩ = some (.slice B2 m2 d2) ∧ w'.cell? ⟨Q2, 0, none⟩ = some (.slice A5 n5 c5) ∧ w'.cell? ⟨Q2, 1, none⟩ = some (.slice B5 m5 d5) ∧ Keep 0 0 V5 w')
        (first | (with_reducible assumption) | (refine HS.out ?_ _ ?_ ?_; rotate_right; (with_reducible assumption); (with_reducible assumption)) | (refine HS.out V5 _ h0 ?_; (repeat' (first | (with_reducible exact Keep.refl 0 0 _) | (with_reducible refine Keep.drew ?_)))) | fail)
        (first
          | (go_at_call 52; refine (HC1.out _ ?_).mono ?_; (with_reducible assumption); (rintro e w7 ⟨rfl, k7⟩))
          | (go_at_call 58; refine (HC4.out _ ?_).mono ?_; (with_reducible assumption); (rintro e w8 ⟨A9, c9, rfl, k8⟩))
          | (go_at_call 51; first | (with_reducible refine (HC2.out _ ?_).mono ?_; (with_reducible assumption); (rintro e w6 ⟨rfl, k6⟩)) | (with_reducible refine (HC3.out _ ?_).mono ?_; (with_reducible assumption); (rintro e w9 ⟨rfl, k9⟩)))
          | fail)
      all_goals
        go_wp2
        go_ret
        exact ⟨rfl, HE.out _ (by with_reducible assumption)⟩
    · have q1 : ((outer.length : Int) == 8) = false := by simp; omega
      have q2 : ((outer.length : Int) != 8) = true := by simp [bne]; omega
      have q3 : ¬ (outer.length : Int) = 8 := by omega
      clear ce1 ce2
      go_wp2_with fail
      refine (HN3.out W3).mono ?_
      rintro e W4 ⟨vc, vd, rfl, hd4, k4⟩
      obtain ⟨A4, n4, c4, rfl⟩ := hd4.a.slice
      obtain ⟨B4, m4, d4, rfl⟩ := hd4.b.slice
      have hm4 : m4 = 3 := by have := hd4.b.len.1; rw [ints_length, twosI_length, noTab_length] at this; omega
      subst hm4
      have K4 := K3.out.tr0 k4
      have hfl := field_slots (.slice A4 n4 c4) (.slice B4 3 d4) W4
      clear hd4 k4
      go_wp2
      go_ret
      exact ⟨rfl, K4.below⟩

set_option maxRecDepth 100000 in
theorem lifted (os : Os) (started : os.Started) (H : Type) (enc : TypeId × Value → H) :
    ReturnsInHanded {} Try.checked os 9 .any (Rows.fnForgottenSpec.pre6 enc Try.prog Try.f9 Rows.fnForgottenRow.domain false) (Rows.fnForgottenSpec.post enc Try.prog Try.f9 false true false false) := by
  refine returnsInHanded_of_change (C := Try.checked) own started (by kernel_rfl) Try.func9
    (ChangeSpec.witness6 (enc := enc) (C := Try.checked) false ⟨#[], #[.slice none 0 0], []⟩ 8 (by kernel_rfl) (by kernel_rfl) (by kernel_rfl) (by kernel_rfl)) ?_
  intro W base args ds gs before hval0 hW hcnd _
  have hval : ∀ (j : Nat) t v, Try.f9.params[j]? = some t → args[j]? = some v → Value.okWide Try.prog W .any base t v := hval0
  have hW' := hW
  obtain ⟨p, q, hA0, hV, rfl, hfz, hnd⟩ := hW
  have hA : DataW.TrodAll enc Try.prog W 0 (fun _ => true) true Try.f9.params.toList args.toList ds p := hA0
  rw [Try.params9] at hA hval
  obtain ⟨v0, vs0, d0, ds0, p0, q0, hargs, rfl, rfl, h0, r0⟩ := trodAll_cons hA
  obtain ⟨rfl, rfl, rfl⟩ := trodAll_nil r0
  obtain rfl : args = #[v0] := by cases args; simp_all
  obtain ⟨rfl, rfl⟩ := trodVars_none hV
  have k0 := h0
  have lt0 : ∀ x ∈ p0, x.block < W.heap.size := by obtain ⟨m, hm⟩ := k0; exact DataW.trod_lt m _ _ _ hm
  obtain ⟨A0, n0, cap0, rfl⟩ := okWide_slice Try.underlying22 (hval 0 22 v0 rfl rfl)
  obtain ⟨xs0, rb0, hl0⟩ := open_byts Try.underlying22 Try.underlying5 (by kernel_rfl) h0
  clear hA0 hval0
  refine (walk W A0 n0 cap0 xs0 rb0 hl0).mono fun e W' ⟨he, bel⟩ => ?_
  subst he
  exact ⟨_, rfl, _, _, _, [], _, [], hW', trodAll_mk1 (shut_bool Try.underlying4 _), (trodAll_cons_mk (Below.trod laidOut (by kernel_rfl) (of_decide_eq_true (by kernel_rfl)) k0 bel lt0) trodAll_mk0), rfl, bel.frame _, fun h => by cases h⟩

theorem over : Rows.fnForgottenRow.holds Try.pinned (OpenSpec.ofChange Rows.fnForgottenSpec) :=
  OpenClaim.holds_of_wide 9 Try.f9 rfl rfl rfl rfl rfl rfl rfl ⟨rfl, rfl, rfl, rfl, rfl⟩ rfl rfl rfl rfl rfl (by kernel_rfl) Try.func9 (by kernel_rfl)
    (of_decide_eq_true (by kernel_rfl)) (by unfold Func.isWrapper; first | (rw [if_pos (by decide +kernel)]; kernel_rfl) | (rw [if_neg (by decide +kernel)]; exact ⟨rfl, rfl⟩))
    (fun os started H enc _ => lifted os started H enc)

/-- The given statement. -/
theorem proved : Rows.FnForgottenSaid := over
end Go.Proofs.Ytcoipfnphmealaa.fnForgotten
