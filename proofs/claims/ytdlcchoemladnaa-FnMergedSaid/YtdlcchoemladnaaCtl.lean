/-
  Contracts of the functions on control blocks and instructions, given and returned by value.
-/
import Derived.Test.YtdlcchoemladnaaTraps
import Derived.WalkKit
import Derived.WalkSpells
import Derived.Handy
import Derived.Deep.QuietTactic
import Derived.BigQuiet
namespace Go.Proofs.Ytdlcchoemladnaa
open Go.RowKit

theorem keep_alloc (w : World) (o : Obj) : Keep 0 0 w (w.alloc o) := (Keep.refl 0 0 w).alloc o
theorem keep_alloc2 (w : World) (o p : Obj) : Keep 0 0 w ((w.alloc o).alloc p) := (keep_alloc w o).alloc p
theorem keep_alloc3 (w : World) (o p q : Obj) : Keep 0 0 w (((w.alloc o).alloc p).alloc q) := (keep_alloc2 w o p).alloc q

/-- Is the instruction valid? -/
def insT (op x : Int) : Bool :=
  if op = 1 ∨ op = 2 ∨ op = 5 ∨ op = 6 then inB x 0 99 else if op = 3 ∨ op = 4 then inB x 0 15 else if op = 7 then x == 0 else if op = 8 then inB x 0 11 else false
theorem op_cases (op : Int) : op = 1 ∨ op = 2 ∨ op = 3 ∨ op = 4 ∨ op = 5 ∨ op = 6 ∨ op = 7 ∨ op = 8 ∨ op < 1 ∨ 8 < op := by omega
theorem insT_out (op x : Int) (h : op < 1 ∨ 8 < op) : insT op x = false := by
  unfold insT
  rw [if_neg (by omega), if_neg (by omega), if_neg (by omega), if_neg (by omega)]

set_option maxHeartbeats 2000000 in
theorem specInsOk_any (op x : Int) (w : World) : Calls Try.prog 35 #[.agg #[.int .i64 op, .int .i64 x]] w fun e w' => e = .returned (.bool (insT op x)) ∧ Keep 0 0 w w' := by
  rcases op_cases op with rfl | rfl | rfl | rfl | rfl | rfl | rfl | rfl | h | h
  all_goals try have hT := insT_out op x (by omega)
  all_goals
    go_enter Try.func35, Try.ntmps35
    go_wp2_with (go_at_call 56; refine (l01In_any _ _ _ _).mono ?_; rintro e w' ⟨rfl, rfl⟩)
    go_ret
    exact ⟨by first | rw [hT]; rfl | simp [insT], keep_alloc _ _⟩
set_option maxHeartbeats 2000000 in
theorem implInsOk_any (op x : Int) (w : World) : Calls Try.prog 34 #[.agg #[.int .i64 op, .int .i64 x]] w fun e w' => e = .returned (.bool (insT op x)) ∧ Keep 0 0 w w' := by
  rcases op_cases op with rfl | rfl | rfl | rfl | rfl | rfl | rfl | rfl | h | h
  all_goals try have hT := insT_out op x (by omega)
  all_goals
    go_enter Try.func34, Try.ntmps34
    go_wp2_with (go_at_call 55; refine (within_any _ _ _ _).mono ?_; rintro e w' ⟨rfl, rfl⟩)
    go_ret
    exact ⟨by first | rw [hT]; rfl | simp [insT], keep_alloc _ _⟩
/-- What an instruction touches. -/
def touchP (op x : Int) : Int := if op = 3 ∨ op = 4 then pageT x else -1
def touchN (op : Int) : Int := if op = 3 then 1 else if op = 4 then 2 else 0
theorem op_cases34 (op : Int) : op = 3 ∨ op = 4 ∨ op < 3 ∨ 4 < op := by omega
set_option maxHeartbeats 2000000 in
theorem specTouches_any (op x : Int) (w : World) : Calls Try.prog 29 #[.agg #[.int .i64 op, .int .i64 x]] w fun e w' => e = .returned (.tuple #[.int .i64 (touchP op x), .int .i64 (touchN op)]) ∧ Keep 0 0 w w' := by
  rcases op_cases34 op with rfl | rfl | h | h
  all_goals
    go_enter Try.func29, Try.ntmps29
    go_wp2_with (first | (go_at_call 61; refine (specAddrPage_any _ _).mono ?_; rintro e w' ⟨rfl, rfl⟩) | (go_at_call 62; refine (specNeedOf_any _ _).mono ?_; rintro e w' ⟨rfl, rfl⟩))
    go_ret2
    refine ⟨?_, keep_alloc _ _⟩
    first | (simp [touchP, touchN, needT]; done) | (unfold touchP touchN; rw [if_neg (by omega), if_neg (by omega), if_neg (by omega)]; rfl)
set_option maxHeartbeats 2000000 in
theorem implTouches_any (op x : Int) (w : World) : Calls Try.prog 28 #[.agg #[.int .i64 op, .int .i64 x]] w fun e w' => e = .returned (.tuple #[.int .i64 (touchP op x), .int .i64 (touchN op)]) ∧ Keep 0 0 w w' := by
  rcases op_cases34 op with rfl | rfl | h | h
  all_goals
    go_enter Try.func28, Try.ntmps28
    go_wp2_with (first | (go_at_call 59; refine (implAddrPage_any _ _).mono ?_; rintro e w' ⟨rfl, rfl⟩) | (go_at_call 60; refine (implNeedOf_any _ _).mono ?_; rintro e w' ⟨rfl, rfl⟩))
    go_ret2
    refine ⟨?_, keep_alloc _ _⟩
    first | (simp [touchP, touchN, needT]; done) | (unfold touchP touchN; rw [if_neg (by omega), if_neg (by omega), if_neg (by omega)]; rfl)
/-- Is the control block valid? -/
def ctlOkT (t p : Int) (o : Bool) : Bool := (faultsT t p o).isEmpty
theorem len_of_row {w : World} {lo hi : Nat} {E : TypeId} {v : Value} {l : List Int} (h : Row w lo hi E 1 v (ints l)) : ∃ A c, v = .slice A l.length c := by
  obtain ⟨A, n, c, rfl⟩ := h.slice
  have := h.len.1
  rw [ints_length, Nat.mul_one] at this
  subst this
  exact ⟨_, _, rfl⟩
set_option maxHeartbeats 1000000 in
theorem specCtlOk_any (t p : Int) (o : Bool) (w : World) : Calls Try.prog 25 #[.agg #[.int .i64 t, .int .i64 p, .bool o]] w fun e w' => e = .returned (.bool (ctlOkT t p o)) ∧ Keep 0 0 w w' := by
  rcases hf : faultsT t p o with _ | ⟨a, l⟩
  · have hT : ctlOkT t p o = true := by simp [ctlOkT, hf]
    have HF := Lib.hid hf
    have HT := Lib.hid hT
    clear hf hT
    go_enter Try.func25, Try.ntmps25
    go_wp2_with fail
    refine (specCtlFaults_any _ _ _ _).mono ?_
    rintro e w1 ⟨v, rfl, hr, hk⟩
    rw [HF.out] at hr
    obtain ⟨A, c, rfl⟩ := len_of_row hr
    go_wp2
    go_ret
    exact ⟨by rw [HT.out]; rfl, (keep_alloc _ _).tr0 hk⟩
  · have hT : ctlOkT t p o = false := by simp [ctlOkT, hf]
    have HF := Lib.hid hf
    have HT := Lib.hid hT
    clear hf hT
    go_enter Try.func25, Try.ntmps25
    go_wp2_with fail
    refine (specCtlFaults_any _ _ _ _).mono ?_
    rintro e w1 ⟨v, rfl, hr, hk⟩
    rw [HF.out] at hr
    obtain ⟨A, c, rfl⟩ := len_of_row hr
    have hne : ((l.length : Int) + 1 == 0) = false := by simp; omega
    go_wp2
    go_ret
    exact ⟨by rw [HT.out]; simp, (keep_alloc _ _).tr0 hk⟩
set_option maxHeartbeats 1000000 in
theorem implCtlOk_any (t p : Int) (o : Bool) (w : World) : Calls Try.prog 46 #[.agg #[.int .i64 t, .int .i64 p, .bool o]] w fun e w' => e = .returned (.bool (ctlOkT t p o)) ∧ Keep 0 0 w w' := by
  rcases hf : faultsT t p o with _ | ⟨a, l⟩
  · have hT : ctlOkT t p o = true := by simp [ctlOkT, hf]
    have HF := Lib.hid hf
    have HT := Lib.hid hT
    clear hf hT
    go_enter Try.func46, Try.ntmps46
    go_wp2_with fail
    refine (implCtlFaults_any _ _ _ _).mono ?_
    rintro e w1 ⟨v, rfl, hr, hk⟩
    rw [HF.out] at hr
    obtain ⟨A, c, rfl⟩ := len_of_row hr
    go_wp2
    go_ret
    exact ⟨by rw [HT.out]; rfl, (keep_alloc _ _).tr0 hk⟩
  · have hT : ctlOkT t p o = false := by simp [ctlOkT, hf]
    have HF := Lib.hid hf
    have HT := Lib.hid hT
    clear hf hT
    go_enter Try.func46, Try.ntmps46
    go_wp2_with fail
    refine (implCtlFaults_any _ _ _ _).mono ?_
    rintro e w1 ⟨v, rfl, hr, hk⟩
    rw [HF.out] at hr
    obtain ⟨A, c, rfl⟩ := len_of_row hr
    have hne : ((l.length : Int) + 1 == 0) = false := by simp; omega
    go_wp2
    go_ret
    exact ⟨by rw [HT.out]; simp, (keep_alloc _ _).tr0 hk⟩

/-- Does the control block post the interrupt n? -/
def bitT (p n : Int) : Bool := bits .and .i64 (p / 2 ^ n.toNat) 1 == 1
def postsT (t p : Int) (o : Bool) (n : Int) : Bool := ctlOkT t p o && inB n 0 7 && bitT p n
theorem n_cases (n : Int) : (inB n 0 7 = true ∧ (n = 0 ∨ n = 1 ∨ n = 2 ∨ n = 3 ∨ n = 4 ∨ n = 5 ∨ n = 6 ∨ n = 7)) ∨ inB n 0 7 = false := by
  rcases inB_cases n 0 7 with ⟨h, h1, h2⟩ | ⟨h, _⟩
  · exact .inl ⟨h, by omega⟩
  · exact .inr h
set_option maxHeartbeats 4000000 in
theorem implPosts_any (t p : Int) (o : Bool) (n : Int) (w : World) : Calls Try.prog 47 #[.agg #[.int .i64 t, .int .i64 p, .bool o], .int .i64 n] w fun e w' => e = .returned (.bool (postsT t p o n)) ∧ Keep 0 0 w w' := by
  rcases Bool.eq_false_or_eq_true (ctlOkT t p o) with h1 | h1 <;> rcases n_cases n with ⟨h2, rfl | rfl | rfl | rfl | rfl | rfl | rfl | rfl⟩ | h2
  all_goals
    go_enter Try.func47, Try.ntmps47
    go_wp2_with (first
      | (go_at_call 46; refine (implCtlOk_any _ _ _ _).mono ?_; rintro e w1 ⟨rfl, hk⟩; have c1 := (hk.cell0 (p := ⟨w.heap.size, 1, none⟩) (by simp)).trans (by simp; rfl))
      | (go_at_call 55; refine (within_any _ _ _ _).mono ?_; rintro e w' ⟨rfl, rfl⟩))
    go_ret
    exact ⟨by simp [postsT, bitT, *], (keep_alloc _ _).tr0 (by assumption)⟩

theorem ofInt_i64 (a : Nat) (ha : a < 9223372036854775808) : (BitVec.ofInt 64 (a : Int)).toNat = a := by
  rw [BitVec.ofInt_natCast, BitVec.toNat_ofNat]; exact Nat.mod_eq_of_lt (by omega)
theorem i64_and_nat (a b : Nat) (ha : a < 9223372036854775808) (hb : b < 9223372036854775808) : bits .and .i64 (a : Int) (b : Int) = ((a &&& b : Nat) : Int) := by
  have hx : a &&& b < 2 ^ 63 := Nat.and_lt_two_pow _ (by omega)
  show IntKind.i64.wrap ((BitVec.ofInt 64 (a : Int) &&& BitVec.ofInt 64 (b : Int)).toNat : Int) = _
  rw [BitVec.toNat_and, ofInt_i64 a ha, ofInt_i64 b hb, IntKind.wrap_i64]
  omega
theorem i64_xor_nat (a b : Nat) (ha : a < 9223372036854775808) (hb : b < 9223372036854775808) : bits .xor .i64 (a : Int) (b : Int) = ((a ^^^ b : Nat) : Int) := by
  have hx : a ^^^ b < 2 ^ 63 := Nat.xor_lt_two_pow (by omega) (by omega)
  show IntKind.i64.wrap ((BitVec.ofInt 64 (a : Int) ^^^ BitVec.ofInt 64 (b : Int)).toNat : Int) = _
  rw [BitVec.toNat_xor, ofInt_i64 a ha, ofInt_i64 b hb, IntKind.wrap_i64]
  omega
theorem i64_andNot_nat (a b : Nat) (ha : a < 9223372036854775808) (hb : b < 9223372036854775808) : bits .andNot .i64 (a : Int) (b : Int) = ((a &&& (2 ^ 64 - 1 - b) : Nat) : Int) := by
  have hx : a &&& (2 ^ 64 - 1 - b) < 2 ^ 63 := Nat.lt_of_le_of_lt Nat.and_le_left (by omega)
  show IntKind.i64.wrap ((BitVec.ofInt 64 (a : Int) &&& ~~~ BitVec.ofInt 64 (b : Int)).toNat : Int) = _
  rw [BitVec.toNat_and, BitVec.toNat_not, ofInt_i64 a ha, ofInt_i64 b hb, IntKind.wrap_i64]
  omega
theorem nat_part (a b : Nat) (ha : a < 256) (hb : b < 256) : a &&& (2 ^ 64 - 1 - b) = a &&& (255 ^^^ b) := by
  apply Nat.eq_of_testBit_eq
  intro i
  rw [show 2 ^ 64 - 1 - b = 2 ^ 64 - (b + 1) from by omega, show (255 : Nat) = 2 ^ 8 - 1 from rfl, Nat.testBit_and, Nat.testBit_and, Nat.testBit_xor, Nat.testBit_two_pow_sub_succ (by omega), Nat.testBit_two_pow_sub_one]
  by_cases h : i < 8
  · simp [h, show i < 64 from by omega]
  · have h1 : a.testBit i = false := Nat.testBit_lt_two_pow (Nat.lt_of_lt_of_le ha (Nat.pow_le_pow_right (n := 2) (by omega) (show 8 ≤ i by omega)))
    simp [h1]
theorem bits_part255 (a b : Int) (ha : 0 ≤ a) (ha' : a ≤ 255) (hb : 0 ≤ b) (hb' : b ≤ 255) : bits .andNot .i64 a b = bits .and .i64 a (bits .xor .i64 255 b) := by
  obtain ⟨a, rfl⟩ := Int.eq_ofNat_of_zero_le ha
  obtain ⟨b, rfl⟩ := Int.eq_ofNat_of_zero_le hb
  have e : bits .xor .i64 255 (b : Int) = ((255 ^^^ b : Nat) : Int) := i64_xor_nat 255 b (by omega) (by omega)
  have hx : 255 ^^^ b < 2 ^ 8 := Nat.xor_lt_two_pow (by omega) (by omega)
  rw [e, i64_andNot_nat a b (by omega) (by omega), i64_and_nat a _ (by omega) (by omega), nat_part a b (by omega) (by omega)]

theorem bits_part3 (a b : Int) (ha : 0 ≤ a) (ha' : a ≤ 3) (hb : 0 ≤ b) (hb' : b ≤ 3) : bits .andNot .i64 a b = bits .and .i64 a (bits .xor .i64 3 b) := by
  rcases (show a = 0 ∨ a = 1 ∨ a = 2 ∨ a = 3 from by omega) with rfl | rfl | rfl | rfl <;> rcases (show b = 0 ∨ b = 1 ∨ b = 2 ∨ b = 3 from by omega) with rfl | rfl | rfl | rfl <;> rfl
theorem rgT_le (n most : Int) (h : 0 ≤ most) : 0 ≤ rgT n most ∧ rgT n most ≤ most := by
  unfold rgT
  rcases inB_cases n 0 most with ⟨e, h1, h2⟩ | ⟨e, _⟩ <;> simp [e] <;> omega
def grT (a b most : Int) : Bool := bits .and .i64 (rgT a most) (bits .xor .i64 most (rgT b most)) != 0
/-- Does the first control block grant more than the second? -/
def grantsT (mt mp : Int) (mo : Bool) (ct cp : Int) (co : Bool) : Bool := grT ct mt 3 || grT mp cp 255 || (mo && !co)
set_option maxHeartbeats 4000000 in
theorem specGrantsMore_any (mt mp : Int) (mo : Bool) (ct cp : Int) (co : Bool) (w : World) : Calls Try.prog 22 #[.agg #[.int .i64 mt, .int .i64 mp, .bool mo], .agg #[.int .i64 ct, .int .i64 cp, .bool co]] w fun e w' =>
    e = .returned (.bool (grantsT mt mp mo ct cp co)) ∧ Keep 0 0 w w' := by
  rcases Bool.eq_false_or_eq_true (grT ct mt 3) with h1 | h1 <;> rcases Bool.eq_false_or_eq_true (grT mp cp 255) with h2 | h2 <;> cases mo
  all_goals
    have e1 := h1
    have e2 := h2
    unfold grT at e1 e2
    go_enter Try.func22, Try.ntmps22
    go_wp2_with (go_at_call 54; refine (l12Within_any _ _ _).mono ?_; rintro e w' ⟨rfl, rfl⟩)
    all_goals try (go_quiet (fail); go_wp2)
    go_ret
    exact ⟨by simp [grantsT, *], by first | exact keep_alloc2 _ _ _ | exact (keep_alloc2 _ _ _).drewN _⟩
set_option maxHeartbeats 4000000 in
theorem implGrantsMore_any (mt mp : Int) (mo : Bool) (ct cp : Int) (co : Bool) (w : World) : Calls Try.prog 21 #[.agg #[.int .i64 mt, .int .i64 mp, .bool mo], .agg #[.int .i64 ct, .int .i64 cp, .bool co]] w fun e w' =>
    e = .returned (.bool (grantsT mt mp mo ct cp co)) ∧ Keep 0 0 w w' := by
  rcases Bool.eq_false_or_eq_true (grT ct mt 3) with h1 | h1 <;> rcases Bool.eq_false_or_eq_true (grT mp cp 255) with h2 | h2 <;> cases mo
  all_goals
    have e1 := h1
    have e2 := h2
    unfold grT at e1 e2
    rw [← bits_part3 _ _ (rgT_le _ _ (by omega)).1 (rgT_le _ _ (by omega)).2 (rgT_le _ _ (by omega)).1 (rgT_le _ _ (by omega)).2] at e1
    rw [← bits_part255 _ _ (rgT_le _ _ (by omega)).1 (rgT_le _ _ (by omega)).2 (rgT_le _ _ (by omega)).1 (rgT_le _ _ (by omega)).2] at e2
    go_enter Try.func21, Try.ntmps21
    go_wp2_with fail
    go_quiet ((go_at_call 53; exact Calls.quiet_of_same ((ranged_any _ _ _).mono fun _ _ h => ⟨h.1, h.2.symm⟩)))
    go_wp2
    go_ret
    exact ⟨by simp [grantsT, *], (keep_alloc2 _ _ _).drewN _⟩
end Go.Proofs.Ytdlcchoemladnaa
