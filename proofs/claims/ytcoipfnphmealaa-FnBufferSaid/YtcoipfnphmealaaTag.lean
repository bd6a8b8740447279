/-
  Contracts of TagsIn, the program's (which sorts and strikes repeats) and the reference's (which puts each tag in its place).
-/
import Derived.Test.YtcoipfnphmealaaFlush
import Derived.Test.YtcoipfnphmealaaTraps
import Derived.Test.YtcoipfnphmealaaApp
import Derived.Test.YtcoipfnphmealaaCut
import Derived.Test.YtcoipfnphmealaaInts
import Derived.Test.YtcoipfnphmealaaTagL
import Derived.Test.YtcoipfnphmealaaShelf
import Derived.Lib.OwnBridge
import Derived.Sort.OwnSorted
namespace Go.Proofs.Ytcoipfnphmealaa
open Go.RowKit Go.Sort

theorem tags_step (l : List Ent) (k : Nat) (e : Ent) (h : l.take (k + 1) = l.take k ++ [e]) : ints ((l.take k).map (·.1)) ++ [.int .i64 e.1] = ints ((l.take (k + 1)).map (·.1)) := by
  rw [h, List.map_append, ints_append]; rfl
/-- Behind the sort and the striking of repeats. -/
theorem tag_end {w w1 w2 : World} {E : TypeId} {g cap n nn q : Nat} {os : Array Obj} {ss ts us : List Int} (h : Bld w w.heap.size E 1 w1 (.slice (some ⟨g, 0, none⟩) n cap) n (ints ss)) (hts : ts.length = n) (hus : us.length ≤ n)
    (hw : w2 = putRow (Value.int .i64) (Sort.ahead (grow (putRow (Value.int .i64) (Sort.ahead w1 nn) g 0 ts.toArray) os) q) g 0 (us ++ List.replicate (n - us.length) 0).toArray) :
    Row w2 w.heap.size w2.heap.size E 1 (.slice (some ⟨g, 0, none⟩) us.length cap) (ints us) ∧ Keep 0 0 w w2 := by
  subst hw
  have hown := h.own
  unfold ints at hown
  have hbase : w.heap.size ≤ g := by
    rcases h.own.2 with ⟨h0, _⟩ | ⟨g', cap', cur, hv, hbase, _⟩
    · cases h0
    · cases hv; exact hbase
  have h1 := Lib.ownsRow_putRow (q := nn) (k := n) (ys := ts) hown hts (Nat.le_refl _)
  rw [List.take_of_length_le (by omega)] at h1
  have b1 := Lib.below_putRow (q := nn) (enc := Value.int .i64) (d := ts.toArray) h.bel hbase
  generalize putRow (Value.int .i64) (Sort.ahead w1 nn) g 0 ts.toArray = X1 at h1 b1 ⊢
  have kx : Keep 0 0 X1 (grow X1 os) := ⟨rfl, rfl, rfl, by simp [grow], fun k hk _ => heap_grow_old X1 os hk⟩
  have h2 := h1.kept (row := none) ⟨kx.os, kx.tape, kx.output, kx.size, fun k h1 _ => kx.block k h1 (by omega)⟩ (by simp [Value.ownBlock])
  have b2 := b1.trans (kx.below.mono (Nat.le_of_lt (Nat.lt_of_le_of_lt hbase (by
    rcases h1.2 with ⟨h0, _⟩ | ⟨g', cap', cur, hv, _, hg, _⟩
    · cases h0
    · cases hv; exact (Array.getElem?_eq_some_iff.1 hg).1))))
  generalize grow X1 os = X2 at h2 b2 ⊢
  have h3 := Lib.ownsRow_putRow (q := q) (k := us.length) (ys := us ++ List.replicate (n - us.length) 0) h2 (by simp; omega) hus
  rw [List.take_left] at h3
  have b3 := Lib.below_putRow (q := q) (enc := Value.int .i64) (d := (us ++ List.replicate (n - us.length) 0).toArray) b2 hbase
  exact ⟨Row.of_own h3, Keep.of_below b3⟩
set_option maxHeartbeats 4000000 in
theorem implTagsIn_any (w : World) (hi : Nat) (v : Value) (l : List Ent) (hr : Rd w hi 4 v (ints (entsI l))) (hx : l.length ≤ 1048576) :
    Calls Try.prog 21 #[v] w fun e w' => ∃ v', e = .returned v' ∧ Row w' w.heap.size w'.heap.size 3 1 v' (ints (insAll (l.map (·.1)))) ∧ Keep 0 0 w w' := by
  obtain ⟨A, n, c, rfl, hn, hm, hl, ha⟩ := hr
  rw [ints_length, entsI_length] at hl
  have hm2 : n ≤ 1048576 := by omega
  have HL := Lib.hid (show l.length = n from by omega)
  clear hl hx
  have hb0 := Bld.lit (B := w.heap.size) w 3 1 (Nat.le_refl _) (g := w.heap.size) rfl
  go_enter Try.func21, Try.ntmps21
  go_wp2
  go_loopw [3, 9] (fun v i wr => ∃ k : Nat, k ≤ n ∧ i = .int .i64 k ∧ Bld w w.heap.size 3 1 wr v k (ints ((l.take k).map (·.1)))) (fun _ i _ => n - (intOf i).toNat)
  case atStart => exact ⟨0, Nat.zero_le _, rfl, hb0⟩
  case round =>
    obtain ⟨k, hk, rfl, hb⟩ := hrel
    clear hb0
    by_cases hlt : k < n
    · obtain ⟨b, off, rfl, hb1, hca⟩ := ha (by omega)
      obtain ⟨x0, x1, x2, x3, hx, cx0, cx1, cx2, cx3, bA⟩ := ents_at HL.out hca hlt
      have HS := Lib.hid (tags_step l k (x0, x1, x2, x3) hx)
      have d0 := (hb.cell (p := ⟨b, off + k * 4, none⟩) (by exact bA)).trans cx0
      have d1 := (hb.cell (p := ⟨b, off + k * 4 + 1, none⟩) (by exact bA)).trans cx1
      have d2 := (hb.cell (p := ⟨b, off + k * 4 + 2, none⟩) (by exact bA)).trans cx2
      have d3 := (hb.cell (p := ⟨b, off + k * 4 + 3, none⟩) (by exact bA)).trans cx3
      have hb2 := hb.alloc (.cells #[.int .i64 x0, .int .i64 x1, .int .i64 x2, .int .i64 x3] 26)
      clear hca ha hx cx0 cx1 cx2 cx3 bA
      go_wp2_with (at_builtin; refine wpList_append_one rfl _ _ 37 rfl elInt rfl hb2 1 [_] _ rfl (by first | rfl | simp) rfl (by simp [Value.oneCell']) (by omega) (by unfold maxLen; omega) (fun v' w' hb' hsz => ?_))
      go_roundw
      case rel => exact ⟨k + 1, by omega, by go_num, by rw [← HS.out]; assumption⟩
      case measure => simp [intOf]; omega
    · have hkn : k = n := by omega
      subst hkn
      rw [List.take_of_length_le (by rw [HL.out]; omega)] at hb
      rcases hb.own.2 with ⟨rfl, h0⟩ | ⟨g, cap, cur, rfl, hbase, hg, h1, h2, h3, h4⟩
      · subst h0
        have hl0 : l = [] := List.eq_nil_of_length_eq_zero HL.out
        subst hl0
        have hk := Lib.hid (bld_post0 hb rfl)
        clear hb
        go_wp2_with fail
        refine (Try.slices_Sort_int_none none 0 _).mono ?_
        rintro e w1 ⟨rfl, rfl⟩
        go_wp2_with fail
        refine (Try.slices_Compact_int_empty none 0 _).mono ?_
        rintro e w1 ⟨rfl, rfl⟩
        go_wp2
        go_ret
        exact ⟨_, rfl, hk.out⟩
      · have hbg := Lib.hid hb
        have hown := hb.own
        unfold ints at hown
        obtain ⟨g', cap', e1, _, hgl, hncap, hcm, hlen, hH⟩ := Lib.holds_of_ownsRow hown (by simp)
        cases e1
        unfold maxLen at hcm
        have hc1 := Try.slices_Sort_int g 0 cap (l.map (·.1)) _ hH hgl (by omega)
        rw [hlen] at hc1
        have hl2 : ((l.map (·.1)).mergeSort fun x y => decide (x ≤ y)).length = k := by rw [List.length_mergeSort]; exact hlen
        have HH := Lib.hid hH
        have HN := Lib.hid hlen
        have HM := Lib.hid hl2
        clear hb hown hg h1 h2 h3 h4 hH hlen hl2 ha
        go_wp2_with fail
        refine hc1.mono ?_
        rintro e w2 ⟨rfl, nn, os, rfl⟩
        have hH2 : Holds (Value.int .i64) (grow (putRow (Value.int .i64) (Sort.ahead wr nn) g 0 ((l.map (·.1)).mergeSort fun x y => decide (x ≤ y)).toArray) os) g 0 ((l.map (·.1)).mergeSort fun x y => decide (x ≤ y)).toArray :=
          holds_grow (Value.int .i64) _ os g 0 _ (by simpa [putRow, mapBlock, Sort.ahead] using hgl) (holds_putRow (Value.int .i64) _ g 0 _ _ (holds_ahead (Value.int .i64) wr nn g 0 _ HH.out) (by simp))
        have hc2 := Try.slices_Compact_int g 0 cap ((l.map (·.1)).mergeSort fun x y => decide (x ≤ y)) _ hH2 (by rw [HM.out]; omega) (by rw [HM.out]; omega)
        rw [HM.out, compact_sort] at hc2
        have HC := Lib.hid (Lib.compact_length_le ((l.map (·.1)).mergeSort fun x y => decide (x ≤ y)))
        clear hc1 hH2
        go_wp2_with fail
        refine hc2.mono ?_
        rintro e w3 ⟨rfl, q, hw3⟩
        have hend := tag_end hbg.out HM.out (by have := HC.out; rw [compact_sort, HM.out] at this; exact this) hw3
        have HE := Lib.hid hend
        clear hw3 hc2 hend
        go_wp2
        go_ret
        exact ⟨_, rfl, HE.out⟩
theorem Bld.ne_nil {w0 w : World} {B : Nat} {e : TypeId} {sz : Nat} {v : Value} {n : Nat} {xs : List Value} (h : Bld w0 B e sz w v n xs) (hn : 0 < n) : v ≠ .slice none 0 0 := by
  rcases h.own.2 with ⟨_, h0⟩ | ⟨g, cap, cur, rfl, _⟩
  · omega
  · simp
/-- A tag has been put into its place. -/
theorem ins_end {w wr w4 : World} {E : TypeId} {vv v4 : Value} {j m : Nat} {O : List Int} {x0 : Int} (hB : Bld w w.heap.size E 1 wr vv m (ints O)) (hb4 : Bld wr wr.heap.size E 1 w4 v4 (j + 1 + (m - j)) ((ints (O.take j) ++ [.int .i64 x0]) ++ ints (O.drop j))) (hj : j ≤ m)
    (hP : insR O x0 = O.take j ++ x0 :: O.drop j) : v4 ≠ .slice none 0 0 ∧ Bld w w.heap.size E 1 w4 v4 (m + 1) (ints (insR O x0)) := by
  have h := hb4.weaken (Keep.of_below hB.bel)
  refine ⟨h.ne_nil (by omega), ?_⟩
  rw [hP]
  rw [show j + 1 + (m - j) = m + 1 from by omega] at h
  simpa [ints] using h
set_option maxRecDepth 100000 in
set_option maxHeartbeats 8000000 in
theorem specTagsIn_any (w : World) (hi : Nat) (v : Value) (l : List Ent) (hr : Rd w hi 4 v (ints (entsI l))) (hx : l.length ≤ 1048576) :
    Calls Try.prog 22 #[v] w fun e w' => ∃ v', e = .returned v' ∧ Row w' w.heap.size w'.heap.size 3 1 v' (ints (insAll (l.map (·.1)))) ∧ Keep 0 0 w w' := by
  obtain ⟨A, n, c, rfl, hn, hm, hl, ha⟩ := hr
  rw [ints_length, entsI_length] at hl
  have hm2 : n ≤ 1048576 := by omega
  have HL := Lib.hid (show l.length = n from by omega)
  have HA := Lib.hid ha
  clear hl hx ha
  have hb0 := Bld.lit (B := w.heap.size) w 3 1 (Nat.le_refl _) (g := w.heap.size) rfl
  go_enter Try.func22, Try.ntmps22
  go_wp2
  go_loopw [3, 4] (fun v i wr => ∃ k m : Nat, k ≤ n ∧ i = .int .i64 k ∧ m ≤ k ∧ v ≠ .slice none 0 0 ∧ Bld w w.heap.size 3 1 wr v m (ints (insAll ((l.take k).map (·.1))))) (fun _ i _ => n - (intOf i).toNat)
  case atStart => exact ⟨0, 0, Nat.zero_le _, rfl, Nat.le_refl _, by simp, hb0⟩
  case round =>
    obtain ⟨k, m, hk, rfl, hmk, hnn, hb⟩ := hrel
    clear hb0
    by_cases hlt : k < n
    · obtain ⟨b, off, rfl, hb1, hca⟩ := HA.out (by omega)
      obtain ⟨x0, x1, x2, x3, hx, cx0, cx1, cx2, cx3, bA⟩ := ents_at HL.out hca hlt
      have d0 := (hb.cell (p := ⟨b, off + k * 4, none⟩) (by exact bA)).trans cx0
      have HT := Lib.hid (show insAll ((l.take (k + 1)).map (·.1)) = insR (insAll ((l.take k).map (·.1))) x0 from by rw [hx, List.map_append, List.map_cons, List.map_nil, insAll_snoc])
      obtain ⟨O, hO⟩ : ∃ O, O = insAll ((l.take k).map (·.1)) := ⟨_, rfl⟩
      rw [← hO] at hb
      have HB := Lib.hid hb
      have HOE := Lib.hid hO
      have hown := hb.own
      unfold ints at hown
      obtain ⟨g, cap, rfl, hbase, hgl, hncap, hcm, hlen, hH⟩ := Lib.holds_of_ownsRow hown hnn
      have HO := Lib.hid hlen
      have HC := Lib.hid (show ∀ i u, (ints O)[i]? = some u → wr.cell? ⟨g, i, none⟩ = some u from fun i u hu => by
        obtain ⟨h1, h2⟩ := List.getElem?_eq_some_iff.1 hu
        rw [ints_length] at h1
        have := (hH i (by simpa using h1)).1
        rw [Nat.zero_add] at this
        rw [this, ← h2]
        simp [ints, h1])
      have hcap : cap ≤ 9223372036854775807 := by unfold maxLen at hcm; omega
      have hdd := World.block_lt_of_cell? _ _ d0
      have HS := Lib.hid (show ∀ w', Keep 0 0 wr w' → w'.cell? ⟨b, off + k * 4, none⟩ = some (.int .i64 x0) ∧ Keep 0 0 wr w' from fun w' h => ⟨(h.cell0 (by exact hdd)).trans d0, h⟩)
      clear hca hx cx0 cx1 cx2 cx3 bA hO hown hlen hH hnn hb hcm hdd
      go_wp2
      go_loopw [5] (fun i wq => ∃ j q : Nat, j ≤ m ∧ i = .int .i64 j ∧ (∀ y ∈ O.take j, y < x0) ∧ wq = wr.drewN q) (fun i _ => m - (intOf i).toNat)
      case atStart => exact ⟨0, 0, Nat.zero_le _, rfl, by simp, rfl⟩
      case round =>
        obtain ⟨j, q, hj, rfl, hlow, rfl⟩ := hrel
        have HJ := Lib.hid hlow
        clear hlow
        by_cases hjm : j < m
        · have cy := HC.out j _ (ints_get O j (by rw [HO.out]; exact hjm))
          have HY := Lib.hid (List.take_succ_eq_append_getElem (l := O) (i := j) (by rw [HO.out]; exact hjm))
          have HG := Lib.hid (List.getElem?_eq_getElem (l := O) (i := j) (by rw [HO.out]; exact hjm))
          generalize O[j]'(by rw [HO.out]; exact hjm) = y at cy HY HG
          have hjl : decide ((j : Int) < m) = true := by simpa using hjm
          by_cases hyx : y < x0
          · have hd : decide (y < x0) = true := by simpa using hyx
            have HF := Lib.hid (show ∀ z ∈ O.take (j + 1), z < x0 from fun z hz => by
              rw [HY.out] at hz
              rcases List.mem_append.1 hz with h | h
              · exact HJ.out z h
              · simp only [List.mem_singleton] at h; rw [h]; exact hyx)
            go_wp2
            go_quiet (fail)
            go_wp2
            go_roundw
            case rel => exact ⟨j + 1, _, by omega, by go_num, HF.out, rfl⟩
            case measure => simp [intOf]; omega
          have hd : decide (y < x0) = false := by simpa using hyx
          have hje : ((j : Int) == m) = false := by simp; omega
          by_cases hyy : y = x0
          · have HP := Lib.hid (insR_there O x0 j HJ.out (by rw [HG.out, hyy]))
            have he : (y != x0) = false := by simp [hyy]
            clear hyy
            go_wp2
            go_quiet (fail)
            go_wp2
            go_quiet (fail)
            go_wp2
            go_roundw
            case rel =>
              refine ⟨k + 1, m, by omega, by go_num, by omega, by simp, ?_⟩
              rw [HT.out, ← HOE.out, HP.out]
              exact HB.out.drewN _
            case measure => simp [intOf]; omega
          · have he : (y != x0) = true := by simp [hyy]
            go_wp2
            go_quiet (fail)
            have HP := Lib.hid (insR_put O x0 j HJ.out (.inr ⟨y, HG.out, by omega, hyy⟩))
            have hj0 : (0 : Int) ≤ (j : Int) := by omega
            have hjc : (j : Int) ≤ (cap : Int) := by omega
            have HNW := Lib.hid (show ∀ w', Keep 0 0 wr w' → ∀ i u, (ints (O.take j))[i]? = some u → w'.cell? ((⟨g, 0, none⟩ : Addr).add i) = some u from fun w' hk i u hu => by
              rw [show (⟨g, 0, none⟩ : Addr).add i = ⟨g, i, none⟩ from by unfold Addr.add; split <;> simp_all, hk.cell0 (p := ⟨g, i, none⟩) (by exact hgl)]
              exact HC.out i u (by rw [ints, List.getElem?_map] at hu ⊢; rw [List.getElem?_take] at hu; split at hu; exact hu; cases hu))
            go_wp2
            go_quiet (fail)
            go_wp2
            go_region_held3 (fun w' => w'.cell? ⟨b, off + k * 4, none⟩ = some (.int .i64 x0) ∧ Keep 0 0 wr w')
              (first | (refine HS.out _ ?_; (repeat' (first | (with_reducible exact Keep.refl _ _ _) | (with_reducible assumption) | (with_reducible exact Keep.of_below (Bld.bel (by with_reducible assumption))) | (with_reducible refine Keep.drewN ?_ _) | (with_reducible refine Keep.drew ?_) | (with_reducible refine Keep.alloc ?_ _))); done) | fail)
              (first
                | (refine step_append_gen (w0 := wr) (B := wr.heap.size) (n := 0) (xs := []) (by rfl) (.tmp 48) (.tmp 51) _ (by rfl) elInt (by rfl) (bld_empty (by (repeat' (first | (with_reducible exact Keep.refl _ _ _) | (with_reducible assumption) | (with_reducible exact Keep.of_below (Bld.bel (by with_reducible assumption))) | (with_reducible refine Keep.drewN ?_ _) | (with_reducible refine Keep.drew ?_) | (with_reducible refine Keep.alloc ?_ _)))) (by first | exact Go.heap_alloc_new _ _ | exact heap2_new _ _ _ | exact heap2_old _ _ _) (by first | exact Nat.le_refl _ | simp)) (ad := ⟨g, 0, none⟩) (m := j) (c := cap) (by rfl) (ints (O.take j)) (by rw [ints_length, List.length_take, HO.out]; omega) (HNW.out _ (by (repeat' (first | (with_reducible exact Keep.refl _ _ _) | (with_reducible assumption) | (with_reducible exact Keep.of_below (Bld.bel (by with_reducible assumption))) | (with_reducible refine Keep.drewN ?_ _) | (with_reducible refine Keep.drew ?_) | (with_reducible refine Keep.alloc ?_ _))))) (ints_one _) (by omega) (by unfold maxLen; omega) ?_; intro v2 w2 hb2 hg2)
                | (refine step_append_here (by rfl) (.tmp 52) (.tmp 58) _ (by rfl) elInt (by rfl) (by assumption) 1 [.int .i64 x0] _ (by rfl) (by rfl) ?_ ?_ ?_ ?_; (simp [Value.oneCell']); (omega); (unfold maxLen; omega); (intro v3 w3 hb3 hg3))
                | (refine step_append_gen (by rfl) (.tmp 52) (.tmp 58) _ (by rfl) elInt (by rfl) (by assumption) (by rfl) [.int .i64 x0] (by rfl) (one_cell_old (E := 3) hg2 (by first | exact heap2_new _ _ _ | exact heap2_old _ _ _) (by simp [Value.ownBlock])) ?_ ?_ ?_ ?_; (simp [Value.oneCell']); (omega); (unfold maxLen; omega); (intro v3 w3 hb3 hg3))
                | fail)
            all_goals
              simp only [Nat.zero_add, List.nil_append] at hb3
              have HN2 := Lib.hid (show ∀ i u, (ints (O.drop j))[i]? = some u → w3.cell? ((⟨g, j, none⟩ : Addr).add i) = some u from fun i u hu => by
                rw [show (⟨g, j, none⟩ : Addr).add i = ⟨g, j + i, none⟩ from by unfold Addr.add; split <;> simp_all, hb3.cell (p := ⟨g, j + i, none⟩) (by exact hgl)]
                exact HC.out (j + i) u (by rw [ints, List.getElem?_map] at hu ⊢; rw [List.getElem?_drop] at hu; exact hu))
              have HLD := Lib.hid (show (ints (O.drop j)).length = m - j from by rw [ints_length, List.length_drop, HO.out])
              by_cases hjx : cap = j
              · have HE := Lib.hid (show ∀ i u, (ints (O.drop j))[i]? = some u → w3.cell? ((⟨g, 0, none⟩ : Addr).add i) = some u from fun i u hu => by
                  have h1 := (List.getElem?_eq_some_iff.1 hu).1
                  rw [HLD.out] at h1
                  omega)
                have hmj : m = j := by omega
                subst hjx
                subst hmj
                go_wp2_with (at_builtin; refine wpList_append_bld rfl (.tmp 60) (.tmp 63) 37 rfl elInt rfl hb3 ⟨g, 0, none⟩ _ _ (ints (O.drop m)) rfl (by rw [HLD.out]; simp) HE.out (ints_one _) (by omega) (by omega) (fun v4 w4 hb4 hg4 => ?_))
                go_roundw
                case rel =>
                  obtain ⟨h8, h9⟩ := ins_end HB.out (by simpa using hb4) (Nat.le_refl _) HP.out
                  refine ⟨k + 1, m + 1, by omega, by go_num, by omega, h8, ?_⟩
                  rw [HT.out, ← HOE.out]
                  exact h9
                case measure => simp [intOf]; omega
              · have hjy : j < cap := by omega
                go_wp2_with (at_builtin; refine wpList_append_bld rfl (.tmp 60) (.tmp 63) 37 rfl elInt rfl hb3 ⟨g, j, none⟩ (m - j) (cap - j) (ints (O.drop j)) rfl (by rw [HLD.out, Nat.mul_one]) HN2.out (ints_one _) (by unfold maxLen; omega) (by omega) (fun v4 w4 hb4 hg4 => ?_))
                go_roundw
                case rel =>
                  obtain ⟨h8, h9⟩ := ins_end HB.out hb4 hj HP.out
                  refine ⟨k + 1, m + 1, by omega, by go_num, by omega, h8, ?_⟩
                  rw [HT.out, ← HOE.out]
                  exact h9
                case measure => simp [intOf]; omega
        · have hjm2 : j = m := by omega
          have hjl : decide ((j : Int) < m) = false := by simpa using hjm
          have hje : ((j : Int) == m) = true := by simp; omega
          have hmj2 : m ≤ j := by omega
          have HJM := Lib.hid hjm2
          clear hjm2
          go_wp2
          go_quiet (fail)
          have HP := Lib.hid (insR_put O x0 j HJ.out (.inl (HJM.out.trans HO.out.symm)))
          have hj0 : (0 : Int) ≤ (j : Int) := by omega
          have hjc : (j : Int) ≤ (cap : Int) := by omega
          have HNW := Lib.hid (show ∀ w', Keep 0 0 wr w' → ∀ i u, (ints (O.take j))[i]? = some u → w'.cell? ((⟨g, 0, none⟩ : Addr).add i) = some u from fun w' hk i u hu => by
            rw [show (⟨g, 0, none⟩ : Addr).add i = ⟨g, i, none⟩ from by unfold Addr.add; split <;> simp_all, hk.cell0 (p := ⟨g, i, none⟩) (by exact hgl)]
            exact HC.out i u (by rw [ints, List.getElem?_map] at hu ⊢; rw [List.getElem?_take] at hu; split at hu; exact hu; cases hu))
          go_wp2
          go_quiet (fail)
          go_wp2
          go_region_held3 (fun w' => w'.cell? ⟨b, off + k * 4, none⟩ = some (.int .i64 x0) ∧ Keep 0 0 wr w')
            (first | (refine HS.out _ ?_; (repeat' (first | (with_reducible exact Keep.refl _ _ _) | (with_reducible assumption) | (with_reducible exact Keep.of_below (Bld.bel (by with_reducible assumption))) | (with_reducible refine Keep.drewN ?_ _) | (with_reducible refine Keep.drew ?_) | (with_reducible refine Keep.alloc ?_ _))); done) | fail)
            (first
              | (refine step_append_gen (w0 := wr) (B := wr.heap.size) (n := 0) (xs := []) (by rfl) (.tmp 48) (.tmp 51) _ (by rfl) elInt (by rfl) (bld_empty (by (repeat' (first | (with_reducible exact Keep.refl _ _ _) | (with_reducible assumption) | (with_reducible exact Keep.of_below (Bld.bel (by with_reducible assumption))) | (with_reducible refine Keep.drewN ?_ _) | (with_reducible refine Keep.drew ?_) | (with_reducible refine Keep.alloc ?_ _)))) (by first | exact Go.heap_alloc_new _ _ | exact heap2_new _ _ _ | exact heap2_old _ _ _) (by first | exact Nat.le_refl _ | simp)) (ad := ⟨g, 0, none⟩) (m := j) (c := cap) (by rfl) (ints (O.take j)) (by rw [ints_length, List.length_take, HO.out]; omega) (HNW.out _ (by (repeat' (first | (with_reducible exact Keep.refl _ _ _) | (with_reducible assumption) | (with_reducible exact Keep.of_below (Bld.bel (by with_reducible assumption))) | (with_reducible refine Keep.drewN ?_ _) | (with_reducible refine Keep.drew ?_) | (with_reducible refine Keep.alloc ?_ _))))) (ints_one _) (by omega) (by unfold maxLen; omega) ?_; intro v2 w2 hb2 hg2)
              | (refine step_append_here (by rfl) (.tmp 52) (.tmp 58) _ (by rfl) elInt (by rfl) (by assumption) 1 [.int .i64 x0] _ (by rfl) (by rfl) ?_ ?_ ?_ ?_; (simp [Value.oneCell']); (omega); (unfold maxLen; omega); (intro v3 w3 hb3 hg3))
              | (refine step_append_gen (by rfl) (.tmp 52) (.tmp 58) _ (by rfl) elInt (by rfl) (by assumption) (by rfl) [.int .i64 x0] (by rfl) (one_cell_old (E := 3) hg2 (by first | exact heap2_new _ _ _ | exact heap2_old _ _ _) (by simp [Value.ownBlock])) ?_ ?_ ?_ ?_; (simp [Value.oneCell']); (omega); (unfold maxLen; omega); (intro v3 w3 hb3 hg3))
              | fail)
          all_goals
            simp only [Nat.zero_add, List.nil_append] at hb3
            have HN2 := Lib.hid (show ∀ i u, (ints (O.drop j))[i]? = some u → w3.cell? ((⟨g, j, none⟩ : Addr).add i) = some u from fun i u hu => by
              rw [show (⟨g, j, none⟩ : Addr).add i = ⟨g, j + i, none⟩ from by unfold Addr.add; split <;> simp_all, hb3.cell (p := ⟨g, j + i, none⟩) (by exact hgl)]
              exact HC.out (j + i) u (by rw [ints, List.getElem?_map] at hu ⊢; rw [List.getElem?_drop] at hu; exact hu))
            have HLD := Lib.hid (show (ints (O.drop j)).length = m - j from by rw [ints_length, List.length_drop, HO.out])
            by_cases hjx : cap = j
            · have HE := Lib.hid (show ∀ i u, (ints (O.drop j))[i]? = some u → w3.cell? ((⟨g, 0, none⟩ : Addr).add i) = some u from fun i u hu => by
                have h1 := (List.getElem?_eq_some_iff.1 hu).1
                rw [HLD.out] at h1
                omega)
              have hmj : m = j := by omega
              subst hjx
              subst hmj
              go_wp2_with (at_builtin; refine wpList_append_bld rfl (.tmp 60) (.tmp 63) 37 rfl elInt rfl hb3 ⟨g, 0, none⟩ _ _ (ints (O.drop m)) rfl (by rw [HLD.out]; simp) HE.out (ints_one _) (by omega) (by omega) (fun v4 w4 hb4 hg4 => ?_))
              go_roundw
              case rel =>
                obtain ⟨h8, h9⟩ := ins_end HB.out (by simpa using hb4) (Nat.le_refl _) HP.out
                refine ⟨k + 1, m + 1, by omega, by go_num, by omega, h8, ?_⟩
                rw [HT.out, ← HOE.out]
                exact h9
              case measure => simp [intOf]; omega
            · have hjy : j < cap := by omega
              go_wp2_with (at_builtin; refine wpList_append_bld rfl (.tmp 60) (.tmp 63) 37 rfl elInt rfl hb3 ⟨g, j, none⟩ _ _ (ints (O.drop j)) rfl (by rw [HLD.out]; omega) HN2.out (ints_one _) (by unfold maxLen; omega) (by omega) (fun v4 w4 hb4 hg4 => ?_))
              go_roundw
              case rel =>
                obtain ⟨h8, h9⟩ := ins_end HB.out (by rw [show m - j = 0 from by omega]; exact hb4) hj HP.out
                refine ⟨k + 1, m + 1, by omega, by go_num, by omega, h8, ?_⟩
                rw [HT.out, ← HOE.out]
                exact h9
              case measure => simp [intOf]; omega
    · have hkn : k = n := by omega
      subst hkn
      rw [List.take_of_length_le (by rw [HL.out]; omega)] at hb
      have hk := Lib.hid (bld_post0 hb rfl)
      clear hb
      go_wp2
      go_ret
      exact ⟨_, rfl, hk.out⟩
end Go.Proofs.Ytcoipfnphmealaa
