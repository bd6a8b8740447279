/-
  Plain laws of what is kept: a table that is filled page by page is the composition; after uses are forgotten it is consistent with a changed table. No program in sight.
-/
import Derived.Test.YtcoipfnphmealaaCoA
import Derived.Test.YtcoipfnphmealaaFill
import Derived.Test.YtcoipfnphmealaaFoldU
namespace Go.Proofs.Ytcoipfnphmealaa
open Go.RowKit

theorem knownT_set (ks : List Bool) (k : Nat) : knownT (ks.set k false) ≤ knownT ks ∧ knownT ks ≤ knownT (ks.set k false) + 1 := by
  induction ks generalizing k with
  | nil => simp [knownT]
  | cons b ks ih =>
    cases k with
    | zero => cases b <;> simp [knownT] 
    | succ k =>
      have := ih k
      cases b
      · simpa [knownT] using this
      · simp only [knownT, List.set_cons_succ, List.filter_cons, id, if_true, List.length_cons] at this ⊢
        omega
theorem knownT_forget (ks : List Bool) (sl : List Two) (p : Int) : knownT (forgetT ks sl p).1 ≤ knownT ks ∧ knownT ks ≤ knownT (forgetT ks sl p).1 + 1 := by
  unfold forgetT
  split
  · exact knownT_set _ _
  · exact ⟨Nat.le_refl _, Nat.le_succ _⟩
theorem knownT_forgetL (ps : List Int) (ks : List Bool) (sl : List Two) : knownT (forgetL ks sl ps).1 ≤ knownT ks ∧ knownT ks ≤ knownT (forgetL ks sl ps).1 + ps.length := by
  induction ps generalizing ks sl with
  | nil => exact ⟨Nat.le_refl _, Nat.le_refl _⟩
  | cons p ps ih =>
    have h1 := knownT_forget ks sl p
    have h2 := ih (forgetT ks sl p).1 (forgetT ks sl p).2
    have h3 : forgetL ks sl (p :: ps) = forgetL (forgetT ks sl p).1 (forgetT ks sl p).2 ps := rfl
    rw [h3, List.length_cons]
    omega
/-- What stands at one page behind the forgetting of pages. -/
theorem forgetL_at (ps : List Int) (ks : List Bool) (sl : List Two) (hps : ∀ p ∈ ps, 0 ≤ p) (hl : ks.length = sl.length) (i : Nat) (hi : i < ks.length) :
    ((i : Int) ∈ ps → (forgetL ks sl ps).1[i]? = some false ∧ (forgetL ks sl ps).2[i]? = some (-1, 0)) ∧
    ((i : Int) ∉ ps → (forgetL ks sl ps).1[i]? = ks[i]? ∧ (forgetL ks sl ps).2[i]? = sl[i]?) ∧
    ((ks[i]? = some false ∧ sl[i]? = some (-1, 0)) → (forgetL ks sl ps).1[i]? = some false ∧ (forgetL ks sl ps).2[i]? = some (-1, 0)) := by
  induction ps generalizing ks sl with
  | nil => exact ⟨fun h => by simp at h, fun _ => ⟨rfl, rfl⟩, fun h => h⟩
  | cons p ps ih =>
    have h3 : forgetL ks sl (p :: ps) = forgetL (forgetT ks sl p).1 (forgetT ks sl p).2 ps := rfl
    have hL := forgetT_length ks sl p
    have h4 := ih (forgetT ks sl p).1 (forgetT ks sl p).2 (fun q hq => hps q (List.mem_cons_of_mem _ hq)) (by omega) (by omega)
    rw [h3]
    have hp0 := hps p (List.mem_cons_self ..)
    have key : (p = (i : Int) → (forgetT ks sl p).1[i]? = some false ∧ (forgetT ks sl p).2[i]? = some (-1, 0)) ∧ (p ≠ (i : Int) → (forgetT ks sl p).1[i]? = ks[i]? ∧ (forgetT ks sl p).2[i]? = sl[i]?) := by
      refine ⟨?_, ?_⟩
      · rintro rfl
        unfold forgetT
        rw [inBoth_t hi (by omega)]
        simp only [if_true, Int.toNat_natCast]
        rw [List.getElem?_set, List.getElem?_set]
        simp [hi, hl ▸ hi]
      · intro hne
        unfold forgetT
        split
        · have hn : p.toNat ≠ i := by omega
          exact ⟨List.getElem?_set_ne hn, List.getElem?_set_ne hn⟩
        · exact ⟨rfl, rfl⟩
    refine ⟨fun h => ?_, fun h => ?_, fun h => ?_⟩
    · by_cases hpi : p = (i : Int)
      · exact h4.2.2 (key.1 hpi)
      · rcases List.mem_cons.1 h with h5 | h5
        · exact absurd h5.symm hpi
        · exact h4.1 h5
    · have h5 : p ≠ (i : Int) := fun e => h (by rw [e]; exact List.mem_cons_self ..)
      have h6 := h4.2.1 (fun h7 => h (List.mem_cons_of_mem _ h7))
      have h7 := key.2 h5
      exact ⟨h6.1.trans h7.1, h6.2.trans h7.2⟩
    · by_cases hpi : p = (i : Int)
      · exact h4.2.2 (key.1 hpi)
      · have h7 := key.2 hpi
        exact h4.2.2 ⟨h7.1.trans h.1, h7.2.trans h.2⟩
theorem mem_usesT {l : List Two} {p : Int} {i : Nat} (hi : i < l.length) : (i : Int) ∈ usesT l p ↔ useAt l p i = true := by
  unfold usesT usesUpto
  simp only [List.mem_map, List.mem_filter, List.mem_range]
  constructor
  · rintro ⟨k, ⟨_, h⟩, e⟩
    have : k = i := by omega
    subst this
    exact h
  · intro h
    exact ⟨i, ⟨hi, h⟩, rfl⟩
theorem usesT_pos {l : List Two} {p : Int} : ∀ q ∈ usesT l p, 0 ≤ q := by
  unfold usesT usesUpto
  intro q hq
  simp only [List.mem_map] at hq
  obtain ⟨k, _, rfl⟩ := hq
  omega
theorem keptOkT_iff (ks : List Bool) (sl inner outer : List Two) : keptOkT ks sl inner outer = true ↔ ks.length = inner.length ∧ sl.length = inner.length ∧ ∀ i, i < inner.length → okAt ks sl inner outer i = true := by
  unfold keptOkT okUpto
  simp only [Bool.and_eq_true, decide_eq_true_eq, List.all_eq_true, List.mem_range, and_assoc]
theorem slotAtT_set (t : List Two) (x : Two) (p q : Int) (hp0 : 0 ≤ p) (h : q ≠ p) : slotAtT (t.set p.toNat x) q = slotAtT t q := by
  unfold slotAtT
  rw [List.length_set]
  split
  · rename_i hq
    have hq0 : 0 ≤ q := by
      rcases inB_cases q 0 ((t.length : Int) - 1) with ⟨_, h0, _⟩ | ⟨h1, _⟩
      · exact h0
      · rw [h1] at hq; cases hq
    rw [List.getD_eq_getElem?_getD, List.getD_eq_getElem?_getD, List.getElem?_set_ne (by omega)]
  · rfl
theorem compT_set (a : Two) (t : List Two) (x : Two) (p : Int) (hp0 : 0 ≤ p) (h : a.1 ≠ p) : compT a (t.set p.toNat x) = compT a t := by
  unfold compT
  rw [slotAtT_set t x p a.1 hp0 h]
theorem forgotten_ok {ks : List Bool} {sl inner outer : List Two} {p : Int} (x : Two) (hp0 : 0 ≤ p) (h : keptOkT ks sl inner outer = true) :
    keptOkT (forgetL ks sl (usesT inner p)).1 (forgetL ks sl (usesT inner p)).2 inner (outer.set p.toNat x) = true := by
  obtain ⟨h1, h2, h3⟩ := (keptOkT_iff _ _ _ _).1 h
  have hL := forgetL_lengths ks sl (usesT inner p)
  refine (keptOkT_iff _ _ _ _).2 ⟨by omega, by omega, fun i hi => ?_⟩
  have hat := forgetL_at (usesT inner p) ks sl usesT_pos (by omega) i (by omega)
  have hok := h3 i hi
  unfold okAt at hok ⊢
  rw [List.getD_eq_getElem?_getD, List.getD_eq_getElem?_getD] at hok ⊢
  by_cases hu : useAt inner p i = true
  · obtain ⟨q1, q2⟩ := hat.1 ((mem_usesT hi).2 hu)
    rw [q1, q2]
    simp [wantT]
  · obtain ⟨q1, q2⟩ := hat.2.1 (fun hm => hu ((mem_usesT hi).1 hm))
    rw [q1, q2]
    have hne : (inner.getD i (0, 0)).1 ≠ p := by
      intro e
      apply hu
      unfold useAt
      rw [e]
      simp
    unfold wantT at hok ⊢
    rw [compT_set _ _ _ _ hp0 hne]
    exact hok
/-- The first k pages are filled. -/
def fillN (inner outer : List Two) : Nat → List Bool × List Two
  | 0 => (List.replicate inner.length false, List.replicate inner.length (-1, 0))
  | k + 1 => fillT (fillN inner outer k).1 (fillN inner outer k).2 inner outer k
theorem fillN_length (inner outer : List Two) (k : Nat) : (fillN inner outer k).1.length = inner.length ∧ (fillN inner outer k).2.length = inner.length := by
  induction k with
  | zero => simp [fillN]
  | succ k ih =>
    have := fillT_length (fillN inner outer k).1 (fillN inner outer k).2 inner outer k
    unfold fillN
    omega
theorem fillN_at (inner outer : List Two) (k : Nat) (hk : k ≤ inner.length) (i : Nat) (hi : i < inner.length) :
    (fillN inner outer k).1[i]? = some (decide (i < k)) ∧ (fillN inner outer k).2[i]? = some (if i < k then compT inner[i] outer else (-1, 0)) := by
  induction k with
  | zero => simp [fillN, hi]
  | succ k ih =>
    have ih := ih (by omega)
    have hL := fillN_length inner outer k
    have hy := fillT_yes (ks := (fillN inner outer k).1) (sl := (fillN inner outer k).2) (inner := inner) (outer := outer) (k := k) (a := inner[k]) (inBoth_t (by omega) (by omega)) (by omega) (List.getElem?_eq_getElem (by omega)) rfl
    unfold fillN
    rw [hy]
    by_cases hik : k = i
    · subst hik
      rw [List.getElem?_set, List.getElem?_set]
      simp [hL.1, hL.2, hi]
    · rw [List.getElem?_set_ne hik, List.getElem?_set_ne hik, ih.1, ih.2]
      have e : (i < k + 1) ↔ (i < k) := by omega
      simp [e]
theorem fillN_slots (inner outer : List Two) : (fillN inner outer inner.length).2 = inner.map fun s => compT s outer := by
  apply List.ext_getElem?
  intro i
  by_cases hi : i < inner.length
  · rw [(fillN_at inner outer _ (Nat.le_refl _) i hi).2, if_pos hi, List.getElem?_map, List.getElem?_eq_getElem hi]
    rfl
  · rw [List.getElem?_eq_none (by have := (fillN_length inner outer inner.length).2; omega), List.getElem?_eq_none (by rw [List.length_map]; omega)]
theorem fillN_known (inner outer : List Two) : (fillN inner outer inner.length).1 = List.replicate inner.length true := by
  apply List.ext_getElem?
  intro i
  by_cases hi : i < inner.length
  · rw [(fillN_at inner outer _ (Nat.le_refl _) i hi).1, List.getElem?_replicate, if_pos hi]
    simp [hi]
  · rw [List.getElem?_eq_none (by have := (fillN_length inner outer inner.length).1; omega), List.getElem?_eq_none (by rw [List.length_replicate]; omega)]
theorem knownT_true (n : Nat) : knownT (List.replicate n true) = n := by simp [knownT]
theorem fillN_ok (inner outer : List Two) : keptOkT (fillN inner outer inner.length).1 (fillN inner outer inner.length).2 inner outer = true := by
  have hL := fillN_length inner outer inner.length
  refine (keptOkT_iff _ _ _ _).2 ⟨hL.1, hL.2, fun i hi => ?_⟩
  have hat := fillN_at inner outer _ (Nat.le_refl _) i hi
  unfold okAt
  rw [List.getD_eq_getElem?_getD, List.getD_eq_getElem?_getD, List.getD_eq_getElem?_getD, hat.1, hat.2, List.getElem?_eq_getElem hi]
  simp [wantT, hi]
theorem forgetAll_none (ks : List Bool) (sl : List Two) (hl : ks.length = sl.length) : knownT (forgetL ks sl (pagesUpto ks.length)).1 = 0 := by
  have hL := forgetL_lengths ks sl (pagesUpto ks.length)
  have h0 : (forgetL ks sl (pagesUpto ks.length)).1 = List.replicate ks.length false := by
    apply List.ext_getElem?
    intro i
    by_cases hi : i < ks.length
    · have hm : (i : Int) ∈ pagesUpto ks.length := by simp [pagesUpto]; exact ⟨i, hi, rfl⟩
      have hat := forgetL_at (pagesUpto ks.length) ks sl (by intro q hq; simp [pagesUpto] at hq; obtain ⟨k, _, rfl⟩ := hq; omega) hl i hi
      rw [(hat.1 hm).1, List.getElem?_replicate, if_pos hi]
    · rw [List.getElem?_eq_none (by omega), List.getElem?_eq_none (by rw [List.length_replicate]; omega)]
  rw [h0]
  simp [knownT]
end Go.Proofs.Ytcoipfnphmealaa
