/-
  The reference's Decimal gives the decimal numeral of every integer.
-/
import Derived.Test.YtdlcchoemladnaaDoorMem
import Derived.Test.YtdlcchoemladnaaDoorProg
import Derived.Laws.IdiomStrings
import Derived.Laws.Concat
import Derived.Lib.ItoaLen
import Derived.Lib.ItoaMem
import Derived.WalkSpells
namespace Go.Proofs.YtdlcchoemladnaaDoor
open Go.RowKit

/-- The digits of m; none for 0. -/
def rawD (m : Nat) : List UInt8 := if m = 0 then [] else Lib.decDigits m
theorem rawD_pos {m : Nat} (h : 0 < m) : rawD m = rawD (m / 10) ++ [UInt8.ofNat (48 + m % 10)] := by
  unfold rawD
  rw [if_neg (by omega), Lib.decDigits]
  by_cases h10 : m < 10
  · rw [dif_pos h10, if_pos (by omega), show m % 10 = m from by omega]
    rfl
  · rw [dif_neg h10, if_neg (by omega)]
theorem rawD_length (m : Nat) (h : m ≤ 9223372036854775808) : (rawD m).length ≤ 20 := by
  unfold rawD
  split
  · simp
  · have := Lib.itoa_length_le (-(m : Int)) (by omega) (by omega)
    rw [Lib.itoa_neg m (by omega)] at this
    simp at this
    omega
theorem rawD_step {m N : Nat} {ds : List UInt8} (h : 0 < m) (he : rawD N = rawD m ++ ds) : rawD N = rawD (m / 10) ++ (UInt8.ofNat (48 + m % 10) :: ds) := by
  rw [he, rawD_pos h]
  simp
theorem mk_cons (x : UInt8) (ds : List UInt8) : (ByteArray.mk #[x]) ++ (ByteArray.mk ds.toArray) = ⟨(x :: ds).toArray⟩ := by
  rw [ByteArray.mk_append_mk]
  simp
theorem cat_digit (d : Nat) (ds : List UInt8) : (ByteArray.mk #[48 + UInt8.ofNat d]) ++ (ByteArray.mk ds.toArray) = ⟨(UInt8.ofNat (48 + d) :: ds).toArray⟩ := by
  rw [show UInt8.ofNat (48 + d) = 48 + UInt8.ofNat d from by simp]
  exact mk_cons _ _
theorem cat_zero {d : Nat} (h : d = 0) (ds : List UInt8) : (ByteArray.mk #[48]) ++ (ByteArray.mk ds.toArray) = ⟨(UInt8.ofNat (48 + d) :: ds).toArray⟩ := by
  subst h
  exact mk_cons _ _
theorem run_one_string {P : Program} (src dst e : TypeId) (hs : P.underlying src = some (.slice e)) (he : P.underlying e = some (.int .u8)) (hd : P.underlying dst = some .string) (W : World) (d : Nat) (h : d < 10) {q : Nat} (hq : W.heap.size = q) :
    (convert src dst (.slice (some ⟨q, 0, none⟩) 1 1)).run P (W.alloc (.cells #[.int .u8 (48 + (d : Int))] e)) = .ok (.string ⟨#[UInt8.ofNat (48 + d)]⟩) (W.alloc (.cells #[.int .u8 (48 + (d : Int))] e)) := by
  subst hq
  have := run_convert_bytes_back (P := P) (W.alloc (.cells #[.int .u8 (48 + (d : Int))] e)) src dst e ⟨W.heap.size, 0, none⟩ 1 [UInt8.ofNat (48 + d)] hs he hd (fun j hj => by
    obtain rfl : j = 0 := by simpa using hj
    refine (cell_of_row _ W.heap.size 0 #[.int .u8 (48 + (d : Int))] e (0, 0) (Go.heap_alloc_new W _)).trans ?_
    have : (UInt8.ofNat (48 + d)).toNat = 48 + d := by rw [UInt8.toNat_ofNat']; omega
    simp only [List.getElem_cons_zero, this]
    simp)
  exact this
theorem l01Figure_digit (d : Int) (h0 : 0 ≤ d) (h : d < 10) (w : World) : Calls Tryd.prog 52 #[.int .i64 d] w fun e w' => e = .returned (.int .u8 (48 + d)) ∧ w = w' := by
  go_enter Tryd.func52, Tryd.ntmps52
  go_wp2
  go_ret
  exact ⟨by first | rfl | (simp; omega), rfl⟩
set_option maxHeartbeats 2000000 in
theorem specDecimal_pos (n : Nat) (h0 : 0 < n) (h1 : n ≤ 9223372036854775807) (w : World) : Calls Tryd.prog 45 #[.int .i64 (n : Int)] w fun e w' => e = .returned (.string ⟨(rawD n).toArray⟩) ∧ Keep 0 0 w w' := by
  have hn0 : ((n : Int) == 0) = false := by simp; omega
  have hlt : decide ((n : Int) < 0) = false := by simp
  have HL := Lib.hid (rawD_length n (by omega))
  go_enter Tryd.func45, Tryd.ntmps45
  go_wp2
  go_loopw [0, 4] (fun nn s wr => ∃ (m : Nat) (ds : List UInt8), m ≤ n ∧ nn = .int .i64 (m : Int) ∧ s = .string ⟨ds.toArray⟩ ∧ rawD n = rawD m ++ ds ∧ Keep 0 0 w wr) (fun nn _ _ => (intOf nn).toNat)
  case atStart => exact ⟨n, [], Nat.le_refl _, rfl, rfl, by simp, Keep.refl _ _ _⟩
  case round =>
    obtain ⟨m, ds, hm, rfl, rfl, he, hk⟩ := hrel
    have HE := Lib.hid he
    clear he
    by_cases hz : 0 < m
    · have hne : ((m : Int) != 0) = true := by simp; omega
      have HS := Lib.hid (rawD_step hz HE.out)
      have hsz : ds.length ≤ 20 := by have := HL.out; rw [HE.out, List.length_append] at this; omega
      have hadd : ∀ W, (Op.stringOp .add ⟨#[UInt8.ofNat (48 + m % 10)]⟩ ⟨ds.toArray⟩).run Tryd.prog W = .ok (.string ⟨(UInt8.ofNat (48 + m % 10) :: ds).toArray⟩) W := fun W => by
        rw [run_string_add_sum W _ _ (by
          show (#[UInt8.ofNat (48 + m % 10)]).size + ds.toArray.size ≤ _
          simp; omega), mk_cons]
      have hcv : ∀ W : World, (convert 22 9 (.slice (some ⟨W.heap.size, 0, none⟩) 1 1)).run Tryd.prog (W.alloc (.cells #[.int .u8 (48 + (m : Int) % 10)] 5)) = .ok (.string ⟨#[UInt8.ofNat (48 + m % 10)]⟩) (W.alloc (.cells #[.int .u8 (48 + (m : Int) % 10)] 5)) := fun W => by
        have := run_one_string (P := Tryd.prog) 22 9 5 Tryd.underlying22 Tryd.underlying5 Tryd.underlying9 W (m % 10) (by omega) rfl
        rw [show (((m % 10 : Nat) : Int)) = (m : Int) % 10 from by omega] at this
        exact this
      go_wp2_with (go_at_call 52; refine (l01Figure_digit _ (by omega) (by omega) _).mono ?_; rintro e w' ⟨rfl, rfl⟩)
      go_roundw
      case rel => exact ⟨m / 10, UInt8.ofNat (48 + m % 10) :: ds, by omega, by go_num, by exact congrArg Value.string (cat_digit _ _), HS.out, hk.alloc _⟩
      case measure => simp [intOf]; omega
    · obtain rfl : m = 0 := by omega
      go_wp2
      go_ret
      have := HE.out
      rw [show rawD 0 = [] from rfl, List.nil_append] at this
      exact ⟨by rw [this]; rfl, hk⟩
set_option maxHeartbeats 2000000 in
theorem specDecimal_neg (n : Nat) (h0 : 0 < n) (h1 : n ≤ 9223372036854775808) (w : World) : Calls Tryd.prog 45 #[.int .i64 (-(n : Int))] w fun e w' => e = .returned (.string ⟨(45 :: rawD n).toArray⟩) ∧ Keep 0 0 w w' := by
  have hn0 : (-(n : Int) == 0) = false := by simp; omega
  have hlt : decide (-(n : Int) < 0) = true := by simp; omega
  have HL := Lib.hid (rawD_length n (by omega))
  go_enter Tryd.func45, Tryd.ntmps45
  go_wp2
  go_loopw [0, 4] (fun nn s wr => ∃ (m : Nat) (ds : List UInt8), m ≤ n ∧ nn = .int .i64 (-(m : Int)) ∧ s = .string ⟨ds.toArray⟩ ∧ rawD n = rawD m ++ ds ∧ Keep 0 0 w wr) (fun nn _ _ => (intOf nn).natAbs)
  case atStart => exact ⟨n, [], Nat.le_refl _, rfl, rfl, by simp, Keep.refl _ _ _⟩
  case round =>
    obtain ⟨m, ds, hm, rfl, rfl, he, hk⟩ := hrel
    have HE := Lib.hid he
    clear he
    by_cases hz : 0 < m
    · have hne : (-(m : Int) != 0) = true := by simp; omega
      have HS := Lib.hid (rawD_step hz HE.out)
      have hsz : ds.length ≤ 20 := by have := HL.out; rw [HE.out, List.length_append] at this; omega
      have hadd : ∀ W, (Op.stringOp .add ⟨#[UInt8.ofNat (48 + m % 10)]⟩ ⟨ds.toArray⟩).run Tryd.prog W = .ok (.string ⟨(UInt8.ofNat (48 + m % 10) :: ds).toArray⟩) W := fun W => by
        rw [run_string_add_sum W _ _ (by
          show (#[UInt8.ofNat (48 + m % 10)]).size + ds.toArray.size ≤ _
          simp; omega), mk_cons]
      have hcv : ∀ W : World, (convert 22 9 (.slice (some ⟨W.heap.size, 0, none⟩) 1 1)).run Tryd.prog (W.alloc (.cells #[.int .u8 (48 + (m : Int) % 10)] 5)) = .ok (.string ⟨#[UInt8.ofNat (48 + m % 10)]⟩) (W.alloc (.cells #[.int .u8 (48 + (m : Int) % 10)] 5)) := fun W => by
        have := run_one_string (P := Tryd.prog) 22 9 5 Tryd.underlying22 Tryd.underlying5 Tryd.underlying9 W (m % 10) (by omega) rfl
        rw [show (((m % 10 : Nat) : Int)) = (m : Int) % 10 from by omega] at this
        exact this
      by_cases h10 : 0 < (m : Int) % 10
      · have hd : decide (0 < (m : Int) % 10) = true := by simpa using h10
        go_wp2_with (go_at_call 52; refine (l01Figure_digit _ (by omega) (by omega) _).mono ?_; rintro e w' ⟨rfl, rfl⟩)
        go_roundw
        case rel => exact ⟨m / 10, UInt8.ofNat (48 + m % 10) :: ds, by omega, by go_num, by exact congrArg Value.string (cat_digit _ _), HS.out, hk.alloc _⟩
        case measure => simp [intOf]; omega
      · have hd : decide (0 < (m : Int) % 10) = false := by simpa using h10
        have hm1 := Lib.hid (show m % 10 = 0 from by omega)
        have hm0 : (m : Int) % 10 = 0 := by omega
        have hcv0 : ∀ W : World, (convert 22 9 (.slice (some ⟨W.heap.size, 0, none⟩) 1 1)).run Tryd.prog (W.alloc (.cells #[.int .u8 48] 5)) = .ok (.string ⟨#[48]⟩) (W.alloc (.cells #[.int .u8 48] 5)) := fun W =>
          run_one_string (P := Tryd.prog) 22 9 5 Tryd.underlying22 Tryd.underlying5 Tryd.underlying9 W 0 (by omega) rfl
        clear hcv
        go_wp2_with (go_at_call 52; refine (l01Figure_digit _ (by omega) (by omega) _).mono ?_; rintro e w' ⟨rfl, rfl⟩)
        go_roundw
        case rel => exact ⟨m / 10, UInt8.ofNat (48 + m % 10) :: ds, by omega, by go_num, by exact congrArg Value.string (cat_zero hm1.out _), HS.out, hk.alloc _⟩
        case measure => simp [intOf]; omega
    · obtain rfl : m = 0 := by omega
      have hsz : ds.length ≤ 20 := by have := HL.out; rw [HE.out, List.length_append] at this; omega
      go_wp2
      go_ret
      have := HE.out
      rw [show rawD 0 = [] from rfl, List.nil_append] at this
      exact ⟨by rw [this]; exact congrArg (fun x => Ending.returned (Value.string x)) (mk_cons 45 ds), hk⟩
theorem specDecimal_any (n : Int) (h0 : -9223372036854775808 ≤ n) (h1 : n ≤ 9223372036854775807) (w : World) : Calls Tryd.prog 45 #[.int .i64 n] w fun e w' => e = .returned (.string ⟨(Lib.itoa n).toArray⟩) ∧ Keep 0 0 w w' := by
  rcases Int.lt_trichotomy n 0 with h | h | h
  · obtain ⟨m, rfl⟩ : ∃ m : Nat, n = -(m : Int) := ⟨n.natAbs, by omega⟩
    rw [Lib.itoa_neg m (by omega)]
    have := specDecimal_neg m (by omega) (by omega) w
    rw [show rawD m = Lib.decDigits m from if_neg (by omega)] at this
    exact this
  · subst h
    go_enter Tryd.func45, Tryd.ntmps45
    go_wp2
    go_ret
    refine ⟨?_, Keep.refl _ _ _⟩
    rw [show Lib.itoa 0 = Lib.decDigits 0 from rfl, Lib.decDigits_one (by omega)]
    rfl
  · obtain ⟨m, rfl⟩ : ∃ m : Nat, n = (m : Int) := ⟨n.toNat, by omega⟩
    rw [Lib.itoa_nonneg m]
    have := specDecimal_pos m (by omega) (by omega) w
    rw [show rawD m = Lib.decDigits m from if_neg (by omega)] at this
    exact this
end Go.Proofs.YtdlcchoemladnaaDoor
