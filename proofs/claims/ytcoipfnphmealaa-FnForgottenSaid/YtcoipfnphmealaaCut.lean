/-
  A slice cut at its front; one element appended inside a region that draws its order.
-/
import Derived.Test.YtcoipfnphmealaaApp
import Derived.RegionTactic
import Derived.OwnWalk
namespace Go.Proofs.Ytcoipfnphmealaa
open Go.RowKit

theorem Row.cut {w : World} {lo hi sz : Nat} {E : TypeId} {A : Option Addr} {n c k : Nat} {xs : List Value} (h : Row w lo hi E sz (.slice A n c) xs) (hk : k ≤ n) (B : Option Addr) (hB : k < n → ∀ g off, A = some ⟨g, off, none⟩ → B = some ⟨g, off + k * sz, none⟩) :
    Row w lo hi E sz (.slice B (n - k) (c - k)) (xs.drop (k * sz)) := by
  obtain ⟨A', n', c', e, h1, h2, h3, h4⟩ := h
  injection e with e1 e2 e3
  subst e1 e2 e3
  refine ⟨B, n - k, c - k, rfl, by omega, by omega, by rw [List.length_drop, h3, Nat.sub_mul], fun hn => ?_⟩
  obtain ⟨g, off, cur, hA, hl, hlt, hg, hc⟩ := h4 (by omega)
  refine ⟨g, off + k * sz, cur, hB (by omega) g off hA, hl, hlt, hg, fun j u hu => ?_⟩
  rw [List.getElem?_drop] at hu
  rw [Nat.add_assoc]
  exact hc _ u hu

theorem step_append_one {P : Program} {w0 w : World} {ops : Array Oper} {o : Oper} {a : Act} {K : Act → World → Prop} {Q : Exit → Act → World → Prop} {F : Prop} (hgd : o.guard = none) (s x : Operand) (t : TypeId)
    (ho : o.op = .call { callee := .builtin .append, args := #[s, x], argTypes := #[t, t] })
    {e : TypeId} {z : Value} {sz bytes : Nat} (el : Elem P t e z sz bytes) {B : Nat} {v : Value} {n : Nat} {xs : List Value} (hs : a.eval s = v) (hb : Bld w0 B e sz w v n xs)
    (c : Nat) (cs : List Value) (ty : TypeId) {g : Nat} (hx : a.eval x = .slice (some ⟨g, 0, none⟩) 1 c) (hg : w.heap.size = g) (hl : cs.length = sz) (h1 : ∀ u ∈ cs, u.oneCell' = true)
    (hbytes : (n + 1) * bytes ≤ 140737488355328) (h63 : n + 1 ≤ maxLen)
    (h : ∀ v' w', Bld w0 B e sz w' v' (n + 1) (xs ++ cs) → w.heap.size ≤ w'.heap.size → K (a.put o.dst v') w') :
    if Region.wanted o (yielded ops a.tmps) = true then Oper.wp P o a (w.alloc (.cells cs.toArray ty)) K Q else F := by
  have hw : Region.wanted o (yielded ops a.tmps) = true := by simp [Region.wanted, hgd]
  rw [if_pos hw]
  subst hg
  obtain ⟨i, hi, hz, hsz, hby⟩ := el.inf
  have hb' := hb.alloc (.cells cs.toArray ty)
  refine wp_append_own _ s x t ho B e i z sz bytes el.und hi hz hsz hby el.zs el.pos v n xs hs hb'.own ⟨w.heap.size, 0, none⟩ 1 c cs hx (by simpa using hl) (fun j u hu => ?_) h1 h63 hbytes hb'.le fun v' w' h2 h3 _ => ?_
  · rw [show (⟨w.heap.size, 0, none⟩ : Addr).add j = ⟨w.heap.size, j, none⟩ from by unfold Addr.add; split <;> simp_all]
    rw [cell_of_row _ w.heap.size j cs.toArray ty (0, 0) (Go.heap_alloc_new w _)]
    simpa using hu
  · exact h v' w' ⟨h2, hb'.bel.grown h3 hb'.le (fun k hk => (hb'.own.lt k hk).1), Nat.le_trans hb'.le h3.size⟩ (by have := h3.size; simp at this; omega)
/-- The same, the block's number read off the world: nothing is left to be guessed but the slice's own facts. -/
theorem step_append_here {P : Program} {w0 w : World} {ops : Array Oper} {o : Oper} {a : Act} {K : Act → World → Prop} {Q : Exit → Act → World → Prop} {F : Prop} (hgd : o.guard = none) (s x : Operand) (t : TypeId)
    (ho : o.op = .call { callee := .builtin .append, args := #[s, x], argTypes := #[t, t] })
    {e : TypeId} {z : Value} {sz bytes : Nat} (el : Elem P t e z sz bytes) {B : Nat} {v : Value} {n : Nat} {xs : List Value} (hs : a.eval s = v) (hb : Bld w0 B e sz w v n xs)
    (c : Nat) (cs : List Value) (ty : TypeId) (hx : a.eval x = .slice (some ⟨w.heap.size, 0, none⟩) 1 c) (hl : cs.length = sz) (h1 : ∀ u ∈ cs, u.oneCell' = true)
    (hbytes : (n + 1) * bytes ≤ 140737488355328) (h63 : n + 1 ≤ maxLen)
    (h : ∀ v' w', Bld w0 B e sz w' v' (n + 1) (xs ++ cs) → w.heap.size ≤ w'.heap.size → K (a.put o.dst v') w') :
    if Region.wanted o (yielded ops a.tmps) = true then Oper.wp P o a (w.alloc (.cells cs.toArray ty)) K Q else F :=
  step_append_one hgd s x t ho el hs hb c cs ty hx rfl hl h1 hbytes h63 h
theorem Bld.weaken1 {X w : World} {e : TypeId} {sz : Nat} {v : Value} {n : Nat} {xs : List Value} {o : Obj} (h : Bld (X.alloc o).drew (X.alloc o).drew.heap.size e sz w v n xs) : Bld X.drew X.drew.heap.size e sz w v n xs := by
  have hk : Keep 0 0 X.drew (X.alloc o).drew := ⟨rfl, rfl, rfl, (keep_1 X o).size, fun k hk h => (keep_1 X o).block k hk h⟩
  refine ⟨⟨h.own.1, ?_⟩, hk.below.trans (h.bel.mono hk.size), Nat.le_trans hk.size h.le⟩
  rcases h.own.2 with hn | ⟨g, cap, cur, hv, hb, r⟩
  · exact .inl hn
  · exact .inr ⟨g, cap, cur, hv, Nat.le_trans hk.size hb, r⟩
/-- The element's block was made before the slice was built: the other order. -/
theorem step_append_old {P : Program} {X w : World} {ops : Array Oper} {o : Oper} {a : Act} {K : Act → World → Prop} {Q : Exit → Act → World → Prop} {F : Prop} (hgd : o.guard = none) (s x : Operand) (t : TypeId)
    (ho : o.op = .call { callee := .builtin .append, args := #[s, x], argTypes := #[t, t] })
    {e : TypeId} {z : Value} {sz bytes : Nat} (el : Elem P t e z sz bytes) {v : Value} {n : Nat} {xs : List Value} (c : Nat) (cs : List Value) (ty : TypeId) (hs : a.eval s = v)
    (hb : Bld (X.alloc (.cells cs.toArray ty)).drew (X.alloc (.cells cs.toArray ty)).drew.heap.size e sz w v n xs)
    {g : Nat} (hx : a.eval x = .slice (some ⟨g, 0, none⟩) 1 c) (hg : X.heap.size = g) (hl : cs.length = sz) (h1 : ∀ u ∈ cs, u.oneCell' = true)
    (hbytes : (n + 1) * bytes ≤ 140737488355328) (h63 : n + 1 ≤ maxLen)
    (h : ∀ v' w', Bld X.drew X.drew.heap.size e sz w' v' (n + 1) (xs ++ cs) → w.heap.size ≤ w'.heap.size → K (a.put o.dst v') w') :
    if Region.wanted o (yielded ops a.tmps) = true then Oper.wp P o a w K Q else F := by
  subst hg
  have hw : Region.wanted o (yielded ops a.tmps) = true := by simp [Region.wanted, hgd]
  rw [if_pos hw]
  obtain ⟨i, hi, hz, hsz, hby⟩ := el.inf
  refine wp_append_own _ s x t ho _ e i z sz bytes el.und hi hz hsz hby el.zs el.pos v n xs hs hb.own ⟨X.heap.size, 0, none⟩ 1 c cs hx (by simpa using hl) (fun j u hu => ?_) h1 h63 hbytes hb.le fun v' w' h2 h3 _ => ?_
  · rw [show (⟨X.heap.size, 0, none⟩ : Addr).add j = ⟨X.heap.size, j, none⟩ from by unfold Addr.add; split <;> simp_all]
    rw [hb.cell (p := ⟨X.heap.size, j, none⟩) (by simp), show (X.alloc (.cells cs.toArray ty)).drew.cell? ⟨X.heap.size, j, none⟩ = (X.alloc (.cells cs.toArray ty)).cell? ⟨X.heap.size, j, none⟩ from rfl, cell_of_row _ X.heap.size j cs.toArray ty (0, 0) (Go.heap_alloc_new X _)]
    simpa using hu
  · exact h v' w' (Bld.weaken1 ⟨h2, hb.bel.grown h3 hb.le (fun k hk => (hb.own.lt k hk).1), Nat.le_trans hb.le h3.size⟩) h3.size
/-- An append inside a drawn region, the destination a slice being built, the source's cells known: what has turned is told. -/
theorem step_append_gen {P : Program} {w0 w : World} {ops : Array Oper} {o : Oper} {a : Act} {K : Act → World → Prop} {Q : Exit → Act → World → Prop} {F : Prop} (hgd : o.guard = none) (s x : Operand) (t : TypeId)
    (ho : o.op = .call { callee := .builtin .append, args := #[s, x], argTypes := #[t, t] })
    {e : TypeId} {z : Value} {sz bytes : Nat} (el : Elem P t e z sz bytes) {B : Nat} {v : Value} {n : Nat} {xs : List Value} (hs : a.eval s = v) (hb : Bld w0 B e sz w v n xs)
    {ad : Addr} {m c : Nat} (hx : a.eval x = .slice (some ad) m c) (news : List Value) (hl : news.length = m * sz) (hnews : ∀ j u, news[j]? = some u → w.cell? (ad.add j) = some u) (h1 : ∀ u ∈ news, u.oneCell' = true)
    (hbytes : (n + m) * bytes ≤ 140737488355328) (h63 : n + m ≤ maxLen)
    (h : ∀ v' w', Bld w0 B e sz w' v' (n + m) (xs ++ news) → w.grownBy w' v.ownBlock → K (a.put o.dst v') w') :
    if Region.wanted o (yielded ops a.tmps) = true then Oper.wp P o a w K Q else F := by
  have hw : Region.wanted o (yielded ops a.tmps) = true := by simp [Region.wanted, hgd]
  rw [if_pos hw]
  obtain ⟨i, hi, hz, hsz, hby⟩ := el.inf
  exact wp_append_own _ s x t ho B e i z sz bytes el.und hi hz hsz hby el.zs el.pos v n xs hs hb.own ad m c news hx hl hnews h1 h63 hbytes hb.le fun v' w' h2 h3 _ =>
    h v' w' ⟨h2, hb.bel.grown h3 hb.le (fun k hk => (hb.own.lt k hk).1), Nat.le_trans hb.le h3.size⟩ h3
/-- An empty slice over a block of its own, in whatever world. -/
theorem bld_empty {w0 w : World} {E : TypeId} {sz g : Nat} (hk : Keep 0 0 w0 w) (hg : w.heap[g]? = some (.cells #[] E (0, 0))) (hB : w0.heap.size ≤ g) : Bld w0 w0.heap.size E sz w (.slice (some ⟨g, 0, none⟩) 0 0) 0 [] :=
  ⟨⟨by simp, .inr ⟨g, 0, #[], rfl, hB, hg, Nat.le_refl _, Nat.zero_le _, by simp, by simp⟩⟩, hk.below, hk.size⟩
theorem one_cell_old {W w2 : World} {row : Option Nat} (h : W.grownBy w2 row) {gb : Nat} {x : Value} {E : TypeId} (hb : W.heap[gb]? = some (.cells #[x] E (0, 0))) (hne : some gb ≠ row) :
    ∀ j u, [x][j]? = some u → w2.cell? ((⟨gb, 0, none⟩ : Addr).add j) = some u := by
  intro j u hu
  have hlt : gb < W.heap.size := (Array.getElem?_eq_some_iff.1 hb).1
  rw [show (⟨gb, 0, none⟩ : Addr).add j = ⟨gb, j, none⟩ from by unfold Addr.add; split <;> simp_all]
  rw [cell_of_row w2 gb j #[x] E (0, 0) ((h.block gb hlt hne).trans hb)]
  simpa using hu
theorem heap2_new (w : World) (a b : Obj) : ((w.alloc a).alloc b).heap[w.heap.size + 1]? = some b := by
  have := Go.heap_alloc_new (w.alloc a) b
  rwa [show (w.alloc a).heap.size = w.heap.size + 1 from by simp] at this
theorem heap2_old (w : World) (a b : Obj) : ((w.alloc a).alloc b).heap[w.heap.size]? = some a :=
  (Below.heap_alloc (w.alloc a) b w.heap.size (by simp)).trans (Go.heap_alloc_new w a)
end Go.Proofs.Ytcoipfnphmealaa
