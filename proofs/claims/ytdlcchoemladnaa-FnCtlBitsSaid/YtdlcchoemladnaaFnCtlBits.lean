/-
  For every draw: an open control block without traps may post any interrupts and posts just these; a shut one none. No condition.
-/
import Derived.Test.YtdlcchoemladnaaRows
import Derived.WalkKit
import Derived.ProofKit
import Derived.OpenShut
import Derived.ShutString
import Derived.ChangeOld
import Derived.Below
import Derived.Lib.SmallJoins
import Derived.WalkSpells
import Derived.Test.YtdlcchoemladnaaPlc
import Derived.Test.YtdlcchoemladnaaOpen
import Derived.Test.YtdlcchoemladnaaOne
import Derived.Test.YtdlcchoemladnaaBits
import Derived.Handy
import Derived.Deep.QuietTactic
import Derived.BigQuiet
import Derived.Deep.RegionHeld3
namespace Go.Proofs.Ytdlcchoemladnaa.fnCtlBits
open Go.ChangeShapes Go.WideShapes Go.ChangeAt Go.RowKit
set_option linter.unusedVariables false

theorem own : ownKnob Try.prog.godebug = none := by kernel_rfl
theorem laidOut : laidOutB Try.prog = true := by kernel_rfl

set_option maxRecDepth 100000 in
set_option maxHeartbeats 8000000 in
theorem walk (w : World) (A : Option Addr) (n c : Nat) (xs : List Int) (rb : Rd w w.heap.size 1 (.slice A n c) (byts xs)) (hl : xs.length = n) :
    Calls Try.prog 7 #[.slice A n c] w fun e w' => e = .returned (.bool true) ∧ Below w.heap.size w w' := by
  have hc9 : n ≤ 9223372036854775807 := by obtain ⟨_, _, _, e, h1, h2, _⟩ := rb; injection e with _ e2 e3; unfold maxLen at h2; omega
  clear hl
  rcases Bool.eq_false_or_eq_true (bigT n) with hbig | hbig
  · go_enter Try.func7, Try.ntmps7
    go_wp2_with fail
    refine (big_any A n c hc9 _).mono ?_
    rintro e w' ⟨rfl, rfl⟩
    rw [hbig]
    go_wp2
    go_ret
    exact ⟨rfl, Below.refl _ _⟩
  go_enter Try.func7, Try.ntmps7
  go_wp2_with fail
  refine (big_any A n c hc9 _).mono ?_
  rintro e w' ⟨rfl, rfl⟩
  rw [hbig]
  clear hbig
  go_wp2_with fail
  refine (DrawPlaces_any _ _ xs rb).mono ?_
  rintro e V1 ⟨v, l, rfl, hl, hx, hr, k1⟩
  obtain ⟨g, off, c1, p0, p1, p2, p3, p4, rfl, hg0, hg1, e0, e1, e2, e3, e4, ⟨b00, b01⟩, ⟨b10, b11⟩, ⟨b20, b21⟩, ⟨b30, b31⟩, ⟨b40, b41⟩⟩ := places_open hl hx hr
  clear e2 e3 e4 b20 b21 b30 b31 b40 b41 hl hx hr hg0 hg1
  have hb0 : 0 ≤ p0 % 256 := by omega
  have hb1 : p0 % 256 < 256 := by omega
  have hn0 : 0 ≤ p1 % 8 := by omega
  have hn1 : p1 % 8 < 8 := by omega
  go_wp2_with fail
  clear e0 e1
  generalize p0 % 256 = b at hb0 hb1 ⊢
  generalize p1 % 8 = n1 at hn0 hn1 ⊢
  have f1 := ctl_open b hb0 hb1
  have f2 := ctl_shut b hb0 hb1
  have f3 := posts_open b n1 hb0 hb1 hn0 hn1
  have f4 := posts_shut b n1 hb0 hb1
  have f5 := posts_eight b true
  have f6 : ctlOkT 2 0 false = true := rfl
  have f7 : ctlOkT 2 1 true = false := rfl
  have bx0 : V1.heap.size < ((V1.alloc (.cells #[.int .i64 0, .int .i64 b, .bool true] 25)).alloc (.cells #[.int .i64 0, .int .i64 b, .bool false] 25)).heap.size := by simp; omega
  have bx1 : V1.heap.size + 1 < ((V1.alloc (.cells #[.int .i64 0, .int .i64 b, .bool true] 25)).alloc (.cells #[.int .i64 0, .int .i64 b, .bool false] 25)).heap.size := by simp
  have bc00 : ((V1.alloc (.cells #[.int .i64 0, .int .i64 b, .bool true] 25)).alloc (.cells #[.int .i64 0, .int .i64 b, .bool false] 25)).cell? ⟨V1.heap.size, 0, none⟩ = some (.int .i64 0) := by first | go_cell | (simp [go_sem]; done) | (simp [go_sem, World.cell?_alloc_past]; done)
  have bc01 : ((V1.alloc (.cells #[.int .i64 0, .int .i64 b, .bool true] 25)).alloc (.cells #[.int .i64 0, .int .i64 b, .bool false] 25)).cell? ⟨V1.heap.size, 1, none⟩ = some (.int .i64 b) := by first | go_cell | (simp [go_sem]; done) | (simp [go_sem, World.cell?_alloc_past]; done)
  have bc02 : ((V1.alloc (.cells #[.int .i64 0, .int .i64 b, .bool true] 25)).alloc (.cells #[.int .i64 0, .int .i64 b, .bool false] 25)).cell? ⟨V1.heap.size, 2, none⟩ = some (.bool true) := by first | go_cell | (simp [go_sem]; done) | (simp [go_sem, World.cell?_alloc_past]; done)
  have bc10 : ((V1.alloc (.cells #[.int .i64 0, .int .i64 b, .bool true] 25)).alloc (.cells #[.int .i64 0, .int .i64 b, .bool false] 25)).cell? ⟨V1.heap.size + 1, 0, none⟩ = some (.int .i64 0) := by first | go_cell | (simp [go_sem]; done) | (simp [go_sem, World.cell?_alloc_past]; done)
  have bc11 : ((V1.alloc (.cells #[.int .i64 0, .int .i64 b, .bool true] 25)).alloc (.cells #[.int .i64 0, .int .i64 b, .bool false] 25)).cell? ⟨V1.heap.size + 1, 1, none⟩ = some (.int .i64 b) := by first | go_cell | (simp [go_sem]; done) | (simp [go_sem, World.cell?_alloc_past]; done)
  have bc12 : ((V1.alloc (.cells #[.int .i64 0, .int .i64 b, .bool true] 25)).alloc (.cells #[.int .i64 0, .int .i64 b, .bool false] 25)).cell? ⟨V1.heap.size + 1, 2, none⟩ = some (.bool false) := by first | go_cell | (simp [go_sem]; done) | (simp [go_sem, World.cell?_alloc_past]; done)
  have c00_0 := bc00
  have c01_0 := bc01
  have c02_0 := bc02
  have c10_0 := bc10
  have c11_0 := bc11
  have c12_0 := bc12
  have KK := (k1.alloc (.cells #[.int .i64 0, .int .i64 b, .bool true] 25)).alloc (.cells #[.int .i64 0, .int .i64 b, .bool false] 25)
  have K0 := Keep.refl 0 0 ((V1.alloc (.cells #[.int .i64 0, .int .i64 b, .bool true] 25)).alloc (.cells #[.int .i64 0, .int .i64 b, .bool false] 25))
  clear k1
  rcases Bool.eq_false_or_eq_true (b == 0) with q1 | q1 <;> rcases Bool.eq_false_or_eq_true (bitT b n1) with q2 | q2
  all_goals
    rw [q1] at f2
    have e2 := q2
    unfold bitT at e2
    rw [q2] at f3
    refine (implCtlOk_any _ _ _ _).mono ?_
    rintro e W1 ⟨rfl, k1⟩
    have s1 := k1.size
    have K1 := K0.tr0 k1
    have c00_1 : W1.cell? ⟨V1.heap.size, 0, none⟩ = some (.int .i64 0) := (K1.cell0 (p := ⟨V1.heap.size, 0, none⟩) (by exact bx0)).trans bc00
    have c01_1 : W1.cell? ⟨V1.heap.size, 1, none⟩ = some (.int .i64 b) := (K1.cell0 (p := ⟨V1.heap.size, 1, none⟩) (by exact bx0)).trans bc01
    have c02_1 : W1.cell? ⟨V1.heap.size, 2, none⟩ = some (.bool true) := (K1.cell0 (p := ⟨V1.heap.size, 2, none⟩) (by exact bx0)).trans bc02
    have c10_1 : W1.cell? ⟨V1.heap.size + 1, 0, none⟩ = some (.int .i64 0) := (K1.cell0 (p := ⟨V1.heap.size + 1, 0, none⟩) (by exact bx1)).trans bc10
    have c11_1 : W1.cell? ⟨V1.heap.size + 1, 1, none⟩ = some (.int .i64 b) := (K1.cell0 (p := ⟨V1.heap.size + 1, 1, none⟩) (by exact bx1)).trans bc11
    have c12_1 : W1.cell? ⟨V1.heap.size + 1, 2, none⟩ = some (.bool false) := (K1.cell0 (p := ⟨V1.heap.size + 1, 2, none⟩) (by exact bx1)).trans bc12
    clear K0 k1 c00_0 c01_0 c02_0 c10_0 c11_0 c12_0
    go_wp2_with fail
    refine (implCtlOk_any _ _ _ _).mono ?_
    rintro e W2 ⟨rfl, k2⟩
    have s2 := k2.size
    have K2 := K1.tr0 k2
    have c00_2 : W2.cell? ⟨V1.heap.size, 0, none⟩ = some (.int .i64 0) := (K2.cell0 (p := ⟨V1.heap.size, 0, none⟩) (by exact bx0)).trans bc00
    have c01_2 : W2.cell? ⟨V1.heap.size, 1, none⟩ = some (.int .i64 b) := (K2.cell0 (p := ⟨V1.heap.size, 1, none⟩) (by exact bx0)).trans bc01
    have c02_2 : W2.cell? ⟨V1.heap.size, 2, none⟩ = some (.bool true) := (K2.cell0 (p := ⟨V1.heap.size, 2, none⟩) (by exact bx0)).trans bc02
    have c10_2 : W2.cell? ⟨V1.heap.size + 1, 0, none⟩ = some (.int .i64 0) := (K2.cell0 (p := ⟨V1.heap.size + 1, 0, none⟩) (by exact bx1)).trans bc10
    have c11_2 : W2.cell? ⟨V1.heap.size + 1, 1, none⟩ = some (.int .i64 b) := (K2.cell0 (p := ⟨V1.heap.size + 1, 1, none⟩) (by exact bx1)).trans bc11
    have c12_2 : W2.cell? ⟨V1.heap.size + 1, 2, none⟩ = some (.bool false) := (K2.cell0 (p := ⟨V1.heap.size + 1, 2, none⟩) (by exact bx1)).trans bc12
    clear K1 k2 c00_1 c01_1 c02_1 c10_1 c11_1 c12_1
    go_wp2_with fail
    refine (implPosts_any _ _ _ _ _).mono ?_
    rintro e W3 ⟨rfl, k3⟩
    have s3 := k3.size
    have K3 := K2.tr0 k3
    have c00_3 : W3.cell? ⟨V1.heap.size, 0, none⟩ = some (.int .i64 0) := (K3.cell0 (p := ⟨V1.heap.size, 0, none⟩) (by exact bx0)).trans bc00
    have c01_3 : W3.cell? ⟨V1.heap.size, 1, none⟩ = some (.int .i64 b) := (K3.cell0 (p := ⟨V1.heap.size, 1, none⟩) (by exact bx0)).trans bc01
    have c02_3 : W3.cell? ⟨V1.heap.size, 2, none⟩ = some (.bool true) := (K3.cell0 (p := ⟨V1.heap.size, 2, none⟩) (by exact bx0)).trans bc02
    have c10_3 : W3.cell? ⟨V1.heap.size + 1, 0, none⟩ = some (.int .i64 0) := (K3.cell0 (p := ⟨V1.heap.size + 1, 0, none⟩) (by exact bx1)).trans bc10
    have c11_3 : W3.cell? ⟨V1.heap.size + 1, 1, none⟩ = some (.int .i64 b) := (K3.cell0 (p := ⟨V1.heap.size + 1, 1, none⟩) (by exact bx1)).trans bc11
    have c12_3 : W3.cell? ⟨V1.heap.size + 1, 2, none⟩ = some (.bool false) := (K3.cell0 (p := ⟨V1.heap.size + 1, 2, none⟩) (by exact bx1)).trans bc12
    clear K2 k3 c00_2 c01_2 c02_2 c10_2 c11_2 c12_2
    go_wp2_with fail
    refine (implPosts_any _ _ _ _ _).mono ?_
    rintro e W4 ⟨rfl, k4⟩
    have s4 := k4.size
    have K4 := K3.tr0 k4
    have c00_4 : W4.cell? ⟨V1.heap.size, 0, none⟩ = some (.int .i64 0) := (K4.cell0 (p := ⟨V1.heap.size, 0, none⟩) (by exact bx0)).trans bc00
    have c01_4 : W4.cell? ⟨V1.heap.size, 1, none⟩ = some (.int .i64 b) := (K4.cell0 (p := ⟨V1.heap.size, 1, none⟩) (by exact bx0)).trans bc01
    have c02_4 : W4.cell? ⟨V1.heap.size, 2, none⟩ = some (.bool true) := (K4.cell0 (p := ⟨V1.heap.size, 2, none⟩) (by exact bx0)).trans bc02
    have c10_4 : W4.cell? ⟨V1.heap.size + 1, 0, none⟩ = some (.int .i64 0) := (K4.cell0 (p := ⟨V1.heap.size + 1, 0, none⟩) (by exact bx1)).trans bc10
    have c11_4 : W4.cell? ⟨V1.heap.size + 1, 1, none⟩ = some (.int .i64 b) := (K4.cell0 (p := ⟨V1.heap.size + 1, 1, none⟩) (by exact bx1)).trans bc11
    have c12_4 : W4.cell? ⟨V1.heap.size + 1, 2, none⟩ = some (.bool false) := (K4.cell0 (p := ⟨V1.heap.size + 1, 2, none⟩) (by exact bx1)).trans bc12
    clear K3 k4 c00_3 c01_3 c02_3 c10_3 c11_3 c12_3
    go_wp2_with fail
    refine (implPosts_any _ _ _ _ _).mono ?_
    rintro e W5 ⟨rfl, k5⟩
    have s5 := k5.size
    have K5 := K4.tr0 k5
    have c00_5 : W5.cell? ⟨V1.heap.size, 0, none⟩ = some (.int .i64 0) := (K5.cell0 (p := ⟨V1.heap.size, 0, none⟩) (by exact bx0)).trans bc00
    have c01_5 : W5.cell? ⟨V1.heap.size, 1, none⟩ = some (.int .i64 b) := (K5.cell0 (p := ⟨V1.heap.size, 1, none⟩) (by exact bx0)).trans bc01
    have c02_5 : W5.cell? ⟨V1.heap.size, 2, none⟩ = some (.bool true) := (K5.cell0 (p := ⟨V1.heap.size, 2, none⟩) (by exact bx0)).trans bc02
    have c10_5 : W5.cell? ⟨V1.heap.size + 1, 0, none⟩ = some (.int .i64 0) := (K5.cell0 (p := ⟨V1.heap.size + 1, 0, none⟩) (by exact bx1)).trans bc10
    have c11_5 : W5.cell? ⟨V1.heap.size + 1, 1, none⟩ = some (.int .i64 b) := (K5.cell0 (p := ⟨V1.heap.size + 1, 1, none⟩) (by exact bx1)).trans bc11
    have c12_5 : W5.cell? ⟨V1.heap.size + 1, 2, none⟩ = some (.bool false) := (K5.cell0 (p := ⟨V1.heap.size + 1, 2, none⟩) (by exact bx1)).trans bc12
    clear K4 k5 c00_4 c01_4 c02_4 c10_4 c11_4 c12_4
    go_wp2_with fail
    refine (implCtlOk_any _ _ _ _).mono ?_
    rintro e W6 ⟨rfl, k6⟩
    have s6 := k6.size
    have K6 := K5.tr0 k6
    have c00_6 : W6.cell? ⟨V1.heap.size, 0, none⟩ = some (.int .i64 0) := (K6.cell0 (p := ⟨V1.heap.size, 0, none⟩) (by exact bx0)).trans bc00
    have c01_6 : W6.cell? ⟨V1.heap.size, 1, none⟩ = some (.int .i64 b) := (K6.cell0 (p := ⟨V1.heap.size, 1, none⟩) (by exact bx0)).trans bc01
    have c02_6 : W6.cell? ⟨V1.heap.size, 2, none⟩ = some (.bool true) := (K6.cell0 (p := ⟨V1.heap.size, 2, none⟩) (by exact bx0)).trans bc02
    have c10_6 : W6.cell? ⟨V1.heap.size + 1, 0, none⟩ = some (.int .i64 0) := (K6.cell0 (p := ⟨V1.heap.size + 1, 0, none⟩) (by exact bx1)).trans bc10
    have c11_6 : W6.cell? ⟨V1.heap.size + 1, 1, none⟩ = some (.int .i64 b) := (K6.cell0 (p := ⟨V1.heap.size + 1, 1, none⟩) (by exact bx1)).trans bc11
    have c12_6 : W6.cell? ⟨V1.heap.size + 1, 2, none⟩ = some (.bool false) := (K6.cell0 (p := ⟨V1.heap.size + 1, 2, none⟩) (by exact bx1)).trans bc12
    clear K5 k6 c00_5 c01_5 c02_5 c10_5 c11_5 c12_5
    go_wp2_with fail
    refine (implCtlOk_any _ _ _ _).mono ?_
    rintro e W7 ⟨rfl, k7⟩
    have s7 := k7.size
    have K7 := K6.tr0 k7
    have c00_7 : W7.cell? ⟨V1.heap.size, 0, none⟩ = some (.int .i64 0) := (K7.cell0 (p := ⟨V1.heap.size, 0, none⟩) (by exact bx0)).trans bc00
    have c01_7 : W7.cell? ⟨V1.heap.size, 1, none⟩ = some (.int .i64 b) := (K7.cell0 (p := ⟨V1.heap.size, 1, none⟩) (by exact bx0)).trans bc01
    have c02_7 : W7.cell? ⟨V1.heap.size, 2, none⟩ = some (.bool true) := (K7.cell0 (p := ⟨V1.heap.size, 2, none⟩) (by exact bx0)).trans bc02
    have c10_7 : W7.cell? ⟨V1.heap.size + 1, 0, none⟩ = some (.int .i64 0) := (K7.cell0 (p := ⟨V1.heap.size + 1, 0, none⟩) (by exact bx1)).trans bc10
    have c11_7 : W7.cell? ⟨V1.heap.size + 1, 1, none⟩ = some (.int .i64 b) := (K7.cell0 (p := ⟨V1.heap.size + 1, 1, none⟩) (by exact bx1)).trans bc11
    have c12_7 : W7.cell? ⟨V1.heap.size + 1, 2, none⟩ = some (.bool false) := (K7.cell0 (p := ⟨V1.heap.size + 1, 2, none⟩) (by exact bx1)).trans bc12
    clear K6 k7 c00_6 c01_6 c02_6 c10_6 c11_6 c12_6
    go_wp2
    go_ret
    exact ⟨rfl, (KK.tr0 K7).below⟩

set_option maxRecDepth 100000 in
theorem lifted (os : Os) (started : os.Started) (H : Type) (enc : TypeId × Value → H) :
    ReturnsInHanded {} Try.checked os 7 .any (Rows.fnCtlBitsSpec.pre6 enc Try.prog Try.f7 Rows.fnCtlBitsRow.domain false) (Rows.fnCtlBitsSpec.post enc Try.prog Try.f7 false true false false) := by
  refine returnsInHanded_of_change (C := Try.checked) own started (by kernel_rfl) Try.func7
    (ChangeSpec.witness6 (enc := enc) (C := Try.checked) false ⟨#[], #[.slice none 0 0], []⟩ 8 (by kernel_rfl) (by kernel_rfl) (by kernel_rfl) (by kernel_rfl)) ?_
  intro W base args ds gs before hval0 hW hcnd _
  have hval : ∀ (j : Nat) t v, Try.f7.params[j]? = some t → args[j]? = some v → Value.okWide Try.prog W .any base t v := hval0
  have hW' := hW
  obtain ⟨p, q, hA0, hV, rfl, hfz, hnd⟩ := hW
  have hA : DataW.TrodAll enc Try.prog W 0 (fun _ => true) true Try.f7.params.toList args.toList ds p := hA0
  rw [Try.params7] at hA hval
  obtain ⟨v0, vs0, d0, ds0, p0, q0, hargs, rfl, rfl, h0, r0⟩ := trodAll_cons hA
  obtain ⟨rfl, rfl, rfl⟩ := trodAll_nil r0
  obtain rfl : args = #[v0] := by cases args; simp_all
  obtain ⟨rfl, rfl⟩ := trodVars_none hV
  have k0 := h0
  have lt0 : ∀ x ∈ p0, x.block < W.heap.size := by obtain ⟨m, hm⟩ := k0; exact DataW.trod_lt m _ _ _ hm
  obtain ⟨A0, n0, cap0, rfl⟩ := okWide_slice Try.underlying22 (hval 0 22 v0 rfl rfl)
  obtain ⟨xs0, rb0, hl0⟩ := open_byts Try.underlying22 Try.underlying5 (by kernel_rfl) h0
  clear hA0 hval0
  refine (walk W A0 n0 cap0 xs0 rb0 hl0).mono fun e W' ⟨he, bel⟩ => ?_
  subst he
  exact ⟨_, rfl, _, _, _, [], _, [], hW', trodAll_mk1 (shut_bool Try.underlying4 _), (trodAll_cons_mk (Below.trod laidOut (by kernel_rfl) (of_decide_eq_true (by kernel_rfl)) k0 bel lt0) trodAll_mk0), rfl, bel.frame _, fun h => by cases h⟩

theorem over : Rows.fnCtlBitsRow.holds Try.pinned (OpenSpec.ofChange Rows.fnCtlBitsSpec) :=
  OpenClaim.holds_of_wide 7 Try.f7 rfl rfl rfl rfl rfl rfl rfl ⟨rfl, rfl, rfl, rfl, rfl⟩ rfl rfl rfl rfl rfl (by kernel_rfl) Try.func7 (by kernel_rfl)
    (of_decide_eq_true (by kernel_rfl)) (by unfold Func.isWrapper; first | (rw [if_pos (by decide +kernel)]; kernel_rfl) | (rw [if_neg (by decide +kernel)]; exact ⟨rfl, rfl⟩))
    (fun os started H enc _ => lifted os started H enc)

/-- The given statement. -/
theorem proved : Rows.FnCtlBitsSaid := over
end Go.Proofs.Ytdlcchoemladnaa.fnCtlBits
