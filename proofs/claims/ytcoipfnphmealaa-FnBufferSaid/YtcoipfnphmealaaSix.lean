/-
  The plain laws of buffers: the last six entries; what is found behind a put and behind a flush; what a flush of a hypervisor leaves.
-/
import Derived.Test.YtcoipfnphmealaaPut
import Derived.Test.YtcoipfnphmealaaFind
import Derived.Test.YtcoipfnphmealaaBuf
import Derived.Test.YtcoipfnphmealaaMon
namespace Go.Proofs.Ytcoipfnphmealaa
open Go.RowKit

def sixE (h : Int) (i : Nat) : Ent := (1 + (i : Int) % 2, (i : Int), h, 3)
def runE (h : Int) (n : Nat) : List Ent := (List.range n).map (sixE h)
def lastE (h : Int) (k : Nat) : List Ent := (runE h k).drop (k - 6)
theorem below11 (k : Nat) (hk : k < 11) : k = 0 ∨ k = 1 ∨ k = 2 ∨ k = 3 ∨ k = 4 ∨ k = 5 ∨ k = 6 ∨ k = 7 ∨ k = 8 ∨ k = 9 ∨ k = 10 := by omega
theorem lastE_put (h : Int) (k : Nat) (hk : k < 11) : putT (lastE h k) (1 + (k : Int) % 2, (k : Int), h, 3) = lastE h (k + 1) := by
  rcases below11 k hk with rfl | rfl | rfl | rfl | rfl | rfl | rfl | rfl | rfl | rfl | rfl <;> rfl
theorem lastE_has (h : Int) (n i : Nat) (h7 : 7 ≤ n) (hn : n ≤ 11) (hi : i < n) : hasE (lastE h n) (1 + (i : Int) % 2) (i : Int) = decide ((n : Int) - 6 ≤ (i : Int)) := by
  have h5 : n = 7 ∨ n = 8 ∨ n = 9 ∨ n = 10 ∨ n = 11 := by omega
  rcases h5 with rfl | rfl | rfl | rfl | rfl <;> rcases below11 i (by omega) with rfl | rfl | rfl | rfl | rfl | rfl | rfl | rfl | rfl | rfl | rfl <;> first | rfl | (exfalso; omega)
theorem lastE_length (h : Int) (n : Nat) (h7 : 7 ≤ n) : (lastE h n).length = 6 := by
  simp [lastE, runE]; omega
theorem lastE_small (h : Int) (n : Nat) : (lastE h n).length ≤ 6 := by
  simp [lastE, runE]; omega
theorem lastE_host (h : Int) (n : Nat) : ((lastE h n).filter fun e => !(flHost h e)) = [] := by
  rw [List.filter_eq_nil_iff]
  intro e he
  have h1 := List.mem_of_mem_drop he
  simp only [runE, List.mem_map] at h1
  obtain ⟨i, _, rfl⟩ := h1
  simp [sixE, flHost]

theorem putAll_ne (l : List Ent) (e : Ent) : putAll l e ≠ [] := by simp [putAll]
theorem putT_length (l : List Ent) (e : Ent) : (putT l e).length ≤ 6 := by
  unfold putT
  rw [List.length_drop]
  omega
theorem putT_eq (l : List Ent) (e : Ent) : ∃ m : List Ent, putT l e = m ++ [e] ∧ (∀ x ∈ m, flPage e.1 e.2.1 x = false) ∧ m.Sublist l := by
  refine ⟨(l.filter fun x => !(flPage e.1 e.2.1 x)).drop ((putAll l e).length - 6), ?_, ?_, ?_⟩
  · unfold putT
    have hl : (putAll l e).length = (l.filter fun x => !(flPage e.1 e.2.1 x)).length + 1 := by simp [putAll]
    rw [putAll, List.drop_append_of_le_length]
    rw [← putAll, hl]
    omega
  · intro x hx
    have := List.mem_of_mem_drop hx
    simpa using (List.mem_filter.1 this).2
  · exact (List.drop_sublist _ _).trans List.filter_sublist
theorem flPage_self (e : Ent) : flPage e.1 e.2.1 e = true := by simp [flPage]
theorem put_find (l : List Ent) (e : Ent) : findT (putT l e) e.1 e.2.1 = e ∧ hasE (putT l e) e.1 e.2.1 = true := by
  obtain ⟨m, hm, hf, _⟩ := putT_eq l e
  rw [hm]
  constructor
  · unfold findT
    have : m.find? (flPage e.1 e.2.1) = none := by
      rw [List.find?_eq_none]
      intro x hx
      simp [hf x hx]
    rw [List.find?_append, this]
    simp [flPage_self]
  · unfold hasE
    rw [List.any_append]
    simp [flPage_self]
theorem flPage_comm (x y : Ent) : flPage x.1 x.2.1 y = flPage y.1 y.2.1 x := by
  unfold flPage
  rw [Bool.eq_iff_iff]
  simp only [Bool.and_eq_true, beq_iff_eq]
  constructor <;> exact fun ⟨a, b⟩ => ⟨a.symm, b.symm⟩
theorem nd_iff (acc l : List Ent) : nd acc l = true ↔ (∀ x ∈ acc, ∀ y ∈ l, flPage y.1 y.2.1 x = false) ∧ l.Pairwise (fun x y => flPage y.1 y.2.1 x = false) := by
  induction l generalizing acc with
  | nil => simp [nd]
  | cons e t ih =>
    rw [nd, Bool.and_eq_true, ih, List.pairwise_cons]
    simp only [Bool.not_eq_true', List.any_eq_false, List.mem_append, List.mem_cons, List.not_mem_nil, or_false]
    constructor
    · rintro ⟨h1, h2, h3⟩
      refine ⟨fun x hx y hy => ?_, fun y hy => h2 e (.inr rfl) y hy, h3⟩
      rcases hy with rfl | hy
      · simpa using h1 x hx
      · exact h2 x (.inl hx) y hy
    · rintro ⟨h1, h2, h3⟩
      refine ⟨fun x hx => by simpa using h1 x hx e (.inl rfl), fun x hx y hy => ?_, h3⟩
      rcases hx with hx | rfl
      · exact h1 x hx y (.inr hy)
      · exact h2 y hy
theorem put_ok (l : List Ent) (e : Ent) (h : bufOkT l = true) : bufOkT (putT l e) = true := by
  unfold bufOkT at h ⊢
  rw [Bool.and_eq_true] at h ⊢
  obtain ⟨h1, _⟩ := h
  refine ⟨?_, by simpa using putT_length l e⟩
  rw [nd_iff] at h1 ⊢
  obtain ⟨m, hm, hf, hs⟩ := putT_eq l e
  refine ⟨fun x hx => by simp at hx, ?_⟩
  rw [hm, List.pairwise_append]
  refine ⟨h1.2.sublist hs, by simp, fun x hx y hy => ?_⟩
  simp only [List.mem_singleton] at hy
  subst hy
  exact hf x hx

theorem flush_has (l : List Ent) (t p : Int) : hasE (l.filter fun e => !(flPage t p e)) t p = false := by
  unfold hasE
  rw [List.any_eq_false]
  intro x hx
  simpa using (List.mem_filter.1 hx).2
theorem flush_still (l : List Ent) (t p : Int) (e : Ent) (he : e ∈ l) : hasE (l.filter fun e => !(flPage t p e)) e.1 e.2.1 = ((e.1 != t) || (e.2.1 != p)) := by
  by_cases h : flPage t p e = true
  · have h2 := h
    simp only [flPage, Bool.and_eq_true, beq_iff_eq] at h2
    obtain ⟨h3, h4⟩ := h2
    rw [h3, h4, flush_has]
    simp
  · have h2 : flPage t p e = false := by simpa using h
    have h3 : ((e.1 != t) || (e.2.1 != p)) = true := by
      simp only [flPage, Bool.and_eq_false_iff] at h2
      rcases h2 with h2 | h2 <;> simp [bne, h2]
    rw [h3]
    unfold hasE
    rw [List.any_eq_true]
    exact ⟨e, List.mem_filter.2 ⟨he, by simp [h2]⟩, flPage_self e⟩

def tagMonT (t : Int) : Int := if inB t 1 6 then (t - 1) / 2 else -1
def tagGstT (t : Int) : Int := if inB t 1 6 then (t - 1) % 2 else -1
theorem tag_six (t : Int) : (inB t 1 6 = false) ∨ t = 1 ∨ t = 2 ∨ t = 3 ∨ t = 4 ∨ t = 5 ∨ t = 6 := by
  rcases inB_cases t 1 6 with ⟨_, _⟩ | ⟨h, _⟩
  · right; omega
  · exact .inl h
theorem mon_four (m : Int) : (inB m 0 2 = false ∧ (m < 0 ∨ 2 < m)) ∨ m = 0 ∨ m = 1 ∨ m = 2 := by
  rcases inB_cases m 0 2 with ⟨_, _⟩ | ⟨h, h2⟩
  · right; omega
  · exact .inl ⟨h, h2⟩
/-- What a hypervisor's flush drops: the entries whose tag is one of its guests'. -/
theorem flMon_iff (m : Int) (e : Ent) : (!(flMon m e)) = ((tagMonT e.1 != m) || decide (m < 0)) := by
  unfold flMon inL
  rcases mon_four m with ⟨h, h2⟩ | rfl | rfl | rfl
  · have e1 : tagsT m = [] := by simp [tagsT, h]
    rw [e1]
    have hm : -1 ≤ tagMonT e.1 ∧ tagMonT e.1 ≤ 2 := by
      unfold tagMonT
      rcases tag_six e.1 with h6 | h6
      · rw [h6]; simp
      · split <;> omega
    rcases h2 with h2 | h2
    · simp [h2]
    · have : (tagMonT e.1 != m) = true := by simp; omega
      rw [this]
      rfl
  all_goals
    have e1 : decide ((0 : Int) < 0) = false := rfl
    rcases tag_six e.1 with h6 | h6 | h6 | h6 | h6 | h6 | h6
    · have hn : e.1 < 1 ∨ 6 < e.1 := by rcases inB_cases e.1 1 6 with ⟨h7, _⟩ | ⟨_, h7⟩
                                        · rw [h6] at h7; cases h7
                                        · exact h7
      unfold tagMonT
      rw [h6]
      simp [tagsT, inB, tagT, List.contains_eq_mem]
      omega
    all_goals (rw [h6]; rfl)
theorem mon_not (m : Int) (l : List Ent) (hm : 0 ≤ m) (e : Ent) (he : e ∈ l.filter fun e => !(flMon m e)) : (tagMonT e.1 == m) = false := by
  have := (List.mem_filter.1 he).2
  rw [flMon_iff] at this
  simp only [Bool.or_eq_true, decide_eq_true_eq, bne_iff_ne, ne_eq] at this
  rcases this with h | h
  · simpa using h
  · omega
theorem tag_back (m g : Int) : (tagT m g == 0) = true ∨ ((tagT m g == 0) = false ∧ tagMonT (tagT m g) = m ∧ tagGstT (tagT m g) = g) := by
  unfold tagT
  rcases mon_four m with ⟨h, _⟩ | rfl | rfl | rfl
  · rw [h]; exact .inl rfl
  all_goals
    rcases inB_cases g 0 1 with ⟨h, h1, h2⟩ | ⟨h, _⟩
    · obtain rfl | rfl : g = 0 ∨ g = 1 := by omega
      all_goals exact .inr ⟨rfl, rfl, rfl⟩
    · rw [h]; left; simp
theorem tag_rt (i k : Nat) (hi : i < 3) (hk : k < 2) : tagMonT (tagT (i : Int) (k : Int)) = (i : Int) ∧ tagGstT (tagT (i : Int) (k : Int)) = (k : Int) := by
  have h : i = 0 ∨ i = 1 ∨ i = 2 := by omega
  have h2 : k = 0 ∨ k = 1 := by omega
  rcases h with rfl | rfl | rfl <;> rcases h2 with rfl | rfl <;> exact ⟨rfl, rfl⟩
theorem len_of_rowE {w : World} {lo hi : Nat} {E : TypeId} {v : Value} {l : List Ent} (h : Row w lo hi E 4 v (ints (entsI l))) : ∃ A c, v = .slice A l.length c ∧ l.length ≤ c ∧ c ≤ 9223372036854775807 := by
  obtain ⟨A, n, c, rfl⟩ := h.slice
  obtain ⟨h1, h2, h3⟩ := h.len
  rw [ints_length, entsI_length] at h1
  obtain rfl : n = l.length := by omega
  unfold maxLen at h3
  exact ⟨_, _, rfl, h2, by omega⟩
theorem len_of_rowI {w : World} {lo hi : Nat} {E : TypeId} {v : Value} {l : List Int} (h : Row w lo hi E 1 v (ints l)) : ∃ A c, v = .slice A l.length c ∧ l.length ≤ c := by
  obtain ⟨A, n, c, rfl⟩ := h.slice
  obtain ⟨h1, h2, _⟩ := h.len
  rw [ints_length, Nat.mul_one] at h1
  subst h1
  exact ⟨_, _, rfl, h2⟩
/-- What a walk wants of an entry of a row. -/
theorem Row.ent {w : World} {lo hi : Nat} {E : TypeId} {A : Option Addr} {n c : Nat} {l : List Ent} (h : Row w lo hi E 4 (.slice A n c) (ints (entsI l))) {k : Nat} (hk : k < n) :
    ∃ g off x0 x1 x2 x3, A = some ⟨g, off, none⟩ ∧ l.take (k + 1) = l.take k ++ [(x0, x1, x2, x3)] ∧ w.cell? ⟨g, off + k * 4, none⟩ = some (.int .i64 x0) ∧ w.cell? ⟨g, off + k * 4 + 1, none⟩ = some (.int .i64 x1) ∧ w.cell? ⟨g, off + k * 4 + 2, none⟩ = some (.int .i64 x2) ∧ w.cell? ⟨g, off + k * 4 + 3, none⟩ = some (.int .i64 x3) := by
  have hl := h.len.1
  rw [ints_length, entsI_length] at hl
  obtain ⟨g, off, rfl, _, _, _, hat⟩ := h.at_ (by omega)
  obtain ⟨x0, x1, x2, x3, hx, c0, c1, c2, c3, _⟩ := ents_at (l := l) (n := n) (by omega) (fun j u hu => (hat j u hu).1) hk
  exact ⟨g, off, x0, x1, x2, x3, rfl, hx, c0, c1, c2, c3⟩
end Go.Proofs.Ytcoipfnphmealaa
