/-
  Contracts of TagMon and TagGuest, the program's and the reference's.
-/
import Derived.Test.YtcoipfnphmealaaSix
import Derived.Test.YtcoipfnphmealaaScal
namespace Go.Proofs.Ytcoipfnphmealaa
open Go.RowKit

theorem specTagMon_any (t : Int) (w : World) : Calls Try.prog 34 #[.int .i64 t] w fun e w' => e = .returned (.int .i64 (tagMonT t)) ∧ w = w' := by
  obtain ⟨x, hx⟩ : ∃ x, tagMonT t = x := ⟨_, rfl⟩
  rw [hx]
  rcases inB_cases t 1 6 with ⟨h, h1, h2⟩ | ⟨h, _⟩
  · obtain rfl : (t - 1) / 2 = x := by rw [← hx]; unfold tagMonT; rw [h]; rfl
    clear hx
    go_enter Try.func34, Try.ntmps34
    go_wp2_with (go_at_call 72; refine (l01In_any _ _ _ _).mono ?_; rintro e w' ⟨rfl, rfl⟩)
    go_ret
    exact ⟨rfl, rfl⟩
  · obtain rfl : -1 = x := by rw [← hx]; unfold tagMonT; rw [h]; rfl
    clear hx
    go_enter Try.func34, Try.ntmps34
    go_wp2_with (go_at_call 72; refine (l01In_any _ _ _ _).mono ?_; rintro e w' ⟨rfl, rfl⟩)
    go_ret
    exact ⟨rfl, rfl⟩
theorem implTagMon_any (t : Int) (w : World) : Calls Try.prog 35 #[.int .i64 t] w fun e w' => e = .returned (.int .i64 (tagMonT t)) ∧ w = w' := by
  obtain ⟨x, hx⟩ : ∃ x, tagMonT t = x := ⟨_, rfl⟩
  rw [hx]
  rcases inB_cases t 1 6 with ⟨h, h1, h2⟩ | ⟨h, _⟩
  · obtain rfl : (t - 1) / 2 = x := by rw [← hx]; unfold tagMonT; rw [h]; rfl
    clear hx
    go_enter Try.func35, Try.ntmps35
    go_wp2_with (go_at_call 73; refine (within_any _ _ _ _).mono ?_; rintro e w' ⟨rfl, rfl⟩)
    go_ret
    exact ⟨rfl, rfl⟩
  · obtain rfl : -1 = x := by rw [← hx]; unfold tagMonT; rw [h]; rfl
    clear hx
    go_enter Try.func35, Try.ntmps35
    go_wp2_with (go_at_call 73; refine (within_any _ _ _ _).mono ?_; rintro e w' ⟨rfl, rfl⟩)
    go_ret
    exact ⟨rfl, rfl⟩
theorem specTagGuest_any (t : Int) (w : World) : Calls Try.prog 43 #[.int .i64 t] w fun e w' => e = .returned (.int .i64 (tagGstT t)) ∧ w = w' := by
  obtain ⟨x, hx⟩ : ∃ x, tagGstT t = x := ⟨_, rfl⟩
  rw [hx]
  rcases inB_cases t 1 6 with ⟨h, h1, h2⟩ | ⟨h, _⟩
  · obtain rfl : (t - 1) % 2 = x := by rw [← hx]; unfold tagGstT; rw [h]; rfl
    clear hx
    go_enter Try.func43, Try.ntmps43
    go_wp2_with (go_at_call 72; refine (l01In_any _ _ _ _).mono ?_; rintro e w' ⟨rfl, rfl⟩)
    go_ret
    exact ⟨rfl, rfl⟩
  · obtain rfl : -1 = x := by rw [← hx]; unfold tagGstT; rw [h]; rfl
    clear hx
    go_enter Try.func43, Try.ntmps43
    go_wp2_with (go_at_call 72; refine (l01In_any _ _ _ _).mono ?_; rintro e w' ⟨rfl, rfl⟩)
    go_ret
    exact ⟨rfl, rfl⟩
theorem implTagGuest_any (t : Int) (w : World) : Calls Try.prog 37 #[.int .i64 t] w fun e w' => e = .returned (.int .i64 (tagGstT t)) ∧ w = w' := by
  obtain ⟨x, hx⟩ : ∃ x, tagGstT t = x := ⟨_, rfl⟩
  rw [hx]
  rcases inB_cases t 1 6 with ⟨h, h1, h2⟩ | ⟨h, _⟩
  · obtain rfl : (t - 1) % 2 = x := by rw [← hx]; unfold tagGstT; rw [h]; rfl
    clear hx
    go_enter Try.func37, Try.ntmps37
    go_wp2_with (go_at_call 73; refine (within_any _ _ _ _).mono ?_; rintro e w' ⟨rfl, rfl⟩)
    go_ret
    exact ⟨rfl, rfl⟩
  · obtain rfl : -1 = x := by rw [← hx]; unfold tagGstT; rw [h]; rfl
    clear hx
    go_enter Try.func37, Try.ntmps37
    go_wp2_with (go_at_call 73; refine (within_any _ _ _ _).mono ?_; rintro e w' ⟨rfl, rfl⟩)
    go_ret
    exact ⟨rfl, rfl⟩
end Go.Proofs.Ytcoipfnphmealaa
