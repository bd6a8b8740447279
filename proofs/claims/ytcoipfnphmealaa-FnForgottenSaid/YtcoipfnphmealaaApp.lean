/-
  An append of a whole slice to a slice that the call is building, the source nil, empty or not.
-/
import Derived.Test.YtcoipfnphmealaaMem
import Derived.Laws.AppendOwnNone
namespace Go.Proofs.Ytcoipfnphmealaa
open Go.RowKit

theorem run_append_of_nil {P : Program} (w : World) (base : Nat) (t ty e : TypeId) (i : TypeInfo) (size : Nat) (ht : P.underlying t = some (.slice e)) (hi : P.info? e = some i)
    (v : Value) (n : Nat) (xs : List Value) (hown : w.ownsRow base e size v n xs) (c : Nat) : (Builtin.append_ #[t, t] ty #[v, .slice none 0 c]).run P w = .ok v w := by
  rcases hown.2 with ⟨rfl, rfl⟩ | ⟨g, cap, cur, rfl, _, _, hnc, _⟩
  · simp [Builtin.append_, run_underlying ht, sizeOf, typeInfo, hi, Builtin.lenOf, Builtin.firstCells]
  · simp [Builtin.append_, run_underlying ht, sizeOf, typeInfo, hi, Builtin.lenOf, Builtin.firstCells, hnc, storeCells]

theorem wpList_append_rd {P : Program} {w0 w : World} {ops : Array Oper} {rest : List Oper} {o : Oper} {a : Act} {Q : Exit → Act → World → Prop} (hgd : o.guard = none) (s x : Operand) (t : TypeId)
    (ho : o.op = .call { callee := .builtin .append, args := #[s, x], argTypes := #[t, t] })
    {e : TypeId} {z : Value} {sz bytes : Nat} (el : Elem P t e z sz bytes) {B : Nat} {v : Value} {n : Nat} {xs : List Value} (hs : a.eval s = v) (hb : Bld w0 B e sz w v n xs)
    {A : Option Addr} {m c hi : Nat} {news : List Value} (hx : a.eval x = .slice A m c) (hr : Rd w hi sz (.slice A m c) news) (h1 : ∀ u ∈ news, u.oneCell' = true)
    (hbytes : (n + m) * bytes ≤ 140737488355328) (h63 : n + m ≤ maxLen)
    (h : ∀ v' w', Bld w0 B e sz w' v' (n + m) (xs ++ news) → w.heap.size ≤ w'.heap.size → wpList P ops Q rest (a.put o.dst v') w') : wpList P ops Q (o :: rest) a w := by
  obtain ⟨A', m', c', e1, _, _, hl, hc⟩ := hr
  injection e1 with e2 e3 e4
  subst e2 e3 e4
  rcases A with _ | ad
  · have hm : m = 0 := by
      rcases Nat.eq_zero_or_pos m with h0 | h0
      · exact h0
      · obtain ⟨_, _, h, _⟩ := hc h0
        cases h
    subst hm
    obtain rfl : news = [] := List.eq_nil_of_length_eq_zero (by simpa using hl)
    obtain ⟨i, hi1, _, _, _⟩ := el.inf
    have hrun := run_append_of_nil (P := P) w B t o.type e i sz el.und hi1 v n xs hb.own c
    have hk := h v w (by simpa using hb) (Nat.le_refl _)
    refine wpList_plain hgd fun K hK => ?_
    unfold Oper.wp
    simp [execOp, ho, resolve, invoke, builtin, hs, hx, hrun, Result.andThen]
    exact hK _ _ hk
  · refine wpList_append_bld hgd s x t ho el hs hb ad m c news hx hl (fun j u hu => ?_) h1 h63 hbytes fun v' w' h2 h3 => h v' w' h2 h3.size
    rcases Nat.eq_zero_or_pos m with h0 | h0
    · subst h0
      obtain rfl : news = [] := List.eq_nil_of_length_eq_zero (by simpa using hl)
      simp at hu
    · obtain ⟨b, off, hA, _, hcell⟩ := hc h0
      injection hA with hA
      subst hA
      rw [show (⟨b, off, none⟩ : Addr).add j = ⟨b, off + j, none⟩ from by unfold Addr.add; split <;> simp_all]
      exact hcell j u hu
theorem Rd.drew_alloc {w : World} {hi sz : Nat} {v : Value} {xs : List Value} (h : Rd w hi sz v xs) (hb : hi ≤ w.heap.size) (o : Obj) : Rd (w.alloc o) hi sz v xs := h.keep (keep_1 w o) hb (.inr (Nat.le_refl 0))
end Go.Proofs.Ytcoipfnphmealaa
