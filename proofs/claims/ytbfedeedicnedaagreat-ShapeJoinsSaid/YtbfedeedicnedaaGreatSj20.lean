/-
  Texts of this claim: ShS, ShAC, ShX.
-/
import Derived.Test.YtbfedeedicnedaaGreatSj17
import Derived.Test.YtbfedeedicnedaaGreatSj19
import Derived.Sort.OwnSortedInts
import Derived.Laws.CopyOwn
set_option linter.unusedVariables false
set_option linter.unusedSimpArgs false
set_option maxHeartbeats 8000000
set_option maxRecDepth 100000
section
namespace Go.Proofs.YtbfedeedicnedaaGreat
open Go.RowKit Go.Sort
open Go.Proofs.YtbfedeedicnedaaGreatW.PrintWords
theorem Ints.cases {w : World} {base : Nat} {v : Value} {l : List Int} (h : Ints w base v l) :
    (v = .slice none 0 0 ∧ l = []) ∨ ∃ g cap cur, v = .slice (some ⟨g, 0, none⟩) l.length cap ∧ base ≤ g ∧ w.heap[g]? = some (.cells cur 3 (0, 0)) ∧ l.length ≤ cap ∧ cap ≤ maxLen ∧ cur.size = cap * 1 ∧ cur.toList.take l.length = l.map (Value.int .i64) := by
  rcases h.own.2 with ⟨h0, h1⟩ | ⟨g, cap, cur, h0, h1, h2, h3, h4, h5, h6⟩
  · exact .inl ⟨h0, List.length_eq_zero_iff.1 h1⟩
  · refine .inr ⟨g, cap, cur, h0, h1, h2, h3, h4, h5, ?_⟩
    rw [Nat.mul_one] at h6
    exact h6
theorem grown_below {w w' : World} {base g : Nat} (hg : w.grownBy w' (some g)) (h : base ≤ g) (hs : g < w.heap.size) : Below base w w' :=
  ⟨hg.os, hg.tape, hg.output, hg.size, fun k hk => hg.block k (by omega) (by simp; omega)⟩
theorem sort_calls {base : Nat} {v : Value} {l : List Int} {w : World} (h : Ints w base v l) (hl : l.length ≤ 1000000) :
    Calls Tryz.prog 77 #[v] w fun e w' => e = .returned (.tuple #[]) ∧ Ints w' base v l.mergeSort ∧ Below base w w' := by
  rcases h.cases with ⟨rfl, rfl⟩ | ⟨g, cap, cur, rfl, hb, hg, h1, h2, h3, h4⟩
  · refine (Tryz.slices_Sort_int_none none 0 w).mono ?_
    rintro e w' ⟨rfl, rfl⟩
    exact ⟨rfl, by simpa using h, Below.refl _ _⟩
  · refine (Tryz.slices_Sort_int g 0 cap l w (holds_of_blockI hg h4) (blk_lt hg) (by omega)).mono ?_
    rintro e w' ⟨rfl, n, os, rfl⟩
    refine ⟨rfl, ?_, grown_below (grownBy_sortedI _) hb (blk_lt hg)⟩
    have := ownsRow_sortedI (n := n) (os := os) (ss := l) (ts := l.mergeSort) (List.length_mergeSort _) hb hg h1 h2 h3
    have h5 : (grow (putRow (Value.int .i64) (Sort.ahead w n) g 0 l.mergeSort.toArray) os).ownsRow base 3 1 (.slice (some ⟨g, 0, none⟩) l.length cap) l.mergeSort.length (nums .i64 l.mergeSort) := by
      rw [List.length_mergeSort]
      exact this
    exact Ints.mk h5
theorem compact_le (l : List Int) : (Lib.compact l).length ≤ l.length := by
  unfold Lib.compact Lib.compactUpTo
  rw [List.length_map]
  exact Nat.le_trans (List.length_filter_le _ _) (by simp)
theorem compact_calls {base : Nat} {v : Value} {l : List Int} {w : World} (h : Ints w base v l) (hl : l.length ≤ 1000000) :
    Calls Tryz.prog 79 #[v] w fun e w' => ∃ v', e = .returned v' ∧ Ints w' base v' (Lib.compact l) ∧ Below base w w' := by
  rcases h.cases with ⟨rfl, rfl⟩ | ⟨g, cap, cur, rfl, hb, hg, h1, h2, h3, h4⟩
  · refine (Tryz.slices_Compact_int_empty none 0 w).mono ?_
    rintro e w' ⟨rfl, rfl⟩
    exact ⟨_, rfl, h, Below.refl _ _⟩
  · refine (Tryz.slices_Compact_int g 0 cap l w (holds_of_blockI hg h4) (by omega) h1).mono ?_
    rintro e w' ⟨rfl, q, hw⟩
    have hle := compact_le l
    obtain ⟨ts, hts⟩ : ∃ ts, ts = Lib.compact l ++ List.replicate (l.length - (Lib.compact l).length) 0 := ⟨_, rfl⟩
    rw [← hts] at hw
    have hlen : ts.length = l.length := by rw [hts, List.length_append, List.length_replicate]; omega
    have e0 : w' = grow (putRow (Value.int .i64) (Sort.ahead w q) g 0 ts.toArray) #[] := by rw [hw]; unfold grow; rw [Array.append_empty]
    have h5 := ownsRow_sortedI (n := q) (os := #[]) (ss := l) (ts := ts) hlen hb hg h1 h2 h3
    have h6 := grownBy_sortedI (w := w) (g := g) (n := q) (os := #[]) ts.toArray
    rw [← e0] at h5 h6
    refine ⟨_, rfl, Ints.mk ⟨by simp [nums], .inr ?_⟩, grown_below h6 hb (blk_lt hg)⟩
    rcases h5.2 with ⟨h7, _⟩ | ⟨g', cap', cur', h7, h8, h9, h10, h11, h12, h13⟩
    · cases h7
    · simp only [Value.slice.injEq, Option.some.injEq, Addr.mk.injEq] at h7
      obtain ⟨⟨rfl, _⟩, _, rfl⟩ := h7
      refine ⟨g, cap, cur', rfl, hb, h9, by omega, h11, h12, ?_⟩
      rw [Nat.mul_one] at h13 ⊢
      have : cur'.toList.take (Lib.compact l).length = (cur'.toList.take l.length).take (Lib.compact l).length := by rw [List.take_take]; congr 1; omega
      rw [this, h13, hts, List.map_append, List.take_append_of_le_length (by simp), List.take_of_length_le (by simp)]
      rfl
theorem Ints.cellAt {w : World} {base g cap : Nat} {l : List Int} (h : Ints w base (.slice (some ⟨g, 0, none⟩) l.length cap) l) (j : Nat) (hj : j < l.length) : w.cell? ⟨g, 0 + j, none⟩ = some (.int .i64 (l.getD j 0)) := by
  obtain ⟨A, c, e, _, hC⟩ := Kd.R_reads h
  simp only [Value.slice.injEq] at e
  obtain ⟨ad, e1, h1⟩ := at_int hC j (by omega) (by omega)
  rw [← e.1] at e1
  cases e1
  rw [Int.toNat_natCast] at h1
  unfold Sh.gi at h1
  rcases Nat.eq_zero_or_pos j with rfl | hp
  · exact h1
  · rw [add_pos _ _ hp] at h1
    exact h1
theorem bsearch_calls {base : Nat} {v : Value} {l : List Int} {w : World} (h : Ints w base v l) (hl : l.length ≤ 1000000) (hs : l.Pairwise (· ≤ ·)) (x : Int) :
    Calls Tryz.prog 89 #[v, .int .i64 x] w fun e w' => e = .returned (.tuple #[.int .i64 (l.countP (· < x) : Nat), .bool (l.contains x)]) ∧ ∃ q, w' = w.drewN q := by
  rcases h.cases with ⟨rfl, rfl⟩ | ⟨g, cap, cur, rfl, hb, hg, h1, h2, h3, h4⟩
  · refine (Tryz.slices_BinarySearch_int_empty none 0 x w).mono ?_
    rintro e w' ⟨rfl, rfl⟩
    exact ⟨rfl, 0, rfl⟩
  · have := Tryz.slices_BinarySearch_int g 0 l.length cap l x w (Nat.le_refl _) (by omega) (fun j hj => h.cellAt j hj) (by rw [List.take_length]; exact hs)
    rwa [List.take_length] at this
theorem contains_calls {base : Nat} {v : Value} {l : List Int} {w : World} (h : Ints w base v l) (hl : l.length ≤ 1000000) (x : Int) :
    Calls Tryz.prog 57 #[v, .int .i64 x] w fun e w' => e = .returned (.bool (l.contains x)) ∧ w' = w := by
  rcases h.cases with ⟨rfl, rfl⟩ | ⟨g, cap, cur, rfl, hb, hg, h1, h2, h3, h4⟩
  · exact Tryz.slices_Contains_int_empty none 0 x w
  · have := Tryz.slices_Contains_int g 0 l.length cap l x w (Nat.le_refl _) (by omega) (fun j hj => h.cellAt j hj)
    rwa [List.take_length] at this
end Go.Proofs.YtbfedeedicnedaaGreat
end
section
namespace Go.Proofs.YtbfedeedicnedaaGreat
open Go.RowKit
open Go.Proofs.YtbfedeedicnedaaGreatW.PrintWords
theorem add_zero' (g j : Nat) : (⟨g, 0, none⟩ : Addr).add j = ⟨g, j, none⟩ := by
  rcases Nat.eq_zero_or_pos j with rfl | h
  · rfl
  · rw [add_pos _ _ h]
    simp
theorem made_ints (n : Nat) : madeCells (Value.int .i64 0).cells n = Array.replicate n (.int .i64 0) := by
  apply Array.toList_inj.1
  rw [Array.toList_replicate]
  exact toList_madeCells_one _ _
theorem make_ints (W : World) (n : Nat) (hn : n ≤ 1000000) : (Instr.makeSlice 28 (.int .i64 n) (.int .i64 n)).run Tryz.prog W = .ok (.slice (some ⟨W.heap.size, 0, none⟩) n n) (W.alloc (.cells (Array.replicate n (.int .i64 0)) 3)) := by
  obtain ⟨i, hi, hz⟩ := Option.map_eq_some_iff.1 PAll.info3
  simp only [Prod.mk.injEq] at hz
  have := run_make (P := Tryz.prog) W 28 3 i _ Tryz.underlying28 hi hz.1 .i64 .i64 n n (by omega) (Int.le_refl _) (by rw [hz.2.2]; omega) (by omega)
  rw [hz.2.1, Int.toNat_natCast, Nat.mul_one, made_ints] at this
  exact this
def halfRow (x : Int) (n c : Nat) : List Value := List.replicate n (.int .i64 x) ++ List.replicate (c - n) (.int .i64 0)
theorem half_get (x : Int) (n c j : Nat) (h : j < n) : (halfRow x n c)[j]? = some (.int .i64 x) := by
  unfold halfRow
  rw [List.getElem?_append_left (by rw [List.length_replicate]; exact h), List.getElem?_replicate, if_pos h]
theorem half_more (x : Int) (n c m : Nat) (h : n + m ≤ c) : (halfRow x n c).take n ++ List.replicate m (.int .i64 x) ++ (halfRow x n c).drop (n + (List.replicate m (Value.int .i64 x)).length) = halfRow x (n + m) c := by
  unfold halfRow
  rw [List.length_replicate, List.take_append_of_le_length (by rw [List.length_replicate]; exact Nat.le_refl _), List.take_of_length_le (by rw [List.length_replicate]; exact Nat.le_refl _), List.drop_append, List.length_replicate, List.drop_of_length_le (by rw [List.length_replicate]; omega), List.nil_append, List.drop_replicate, List.replicate_append_replicate]
  congr 2
  omega
theorem half_len (x : Int) (n c : Nat) (h : n ≤ c) : (halfRow x n c).length = c := by
  unfold halfRow
  rw [List.length_append, List.length_replicate, List.length_replicate]
  omega
theorem copy_half {w : World} {g n c : Nat} {x : Int} (hg : w.heap[g]? = some (.cells (halfRow x n c).toArray 3 (0, 0))) (hn : n ≤ c) (h0 : 0 < n) :
    (Builtin.copy_ #[28, 28] 3 #[.slice (some ⟨g, n, none⟩) (c - n) (c - n), .slice (some ⟨g, 0, none⟩) n c]).run Tryz.prog w = .ok (.int .i64 ((Nat.min n (c - n) : Nat) : Int)) (w.setRow g (halfRow x (n + Nat.min n (c - n)) c).toArray) := by
  have hi : (Tryz.prog.info? 3).map (·.size) = some 1 := by
    obtain ⟨i, hi, hz⟩ := Option.map_eq_some_iff.1 PAll.info3
    simp only [Prod.mk.injEq] at hz
    rw [hi]
    exact congrArg some hz.2.1
  have hmin : Nat.min n (c - n) ≤ n ∧ Nat.min n (c - n) ≤ c - n := ⟨Nat.min_le_left _ _, Nat.min_le_right _ _⟩
  have := run_copy_row Tryz.prog w 28 28 3 3 g n (c - n) (c - n) ⟨g, 0, none⟩ n c _ 3 (List.replicate (Nat.min n (c - n)) (.int .i64 x)) Tryz.underlying28 hi hg (by rw [List.length_replicate]) (fun j v hj => by
    rw [List.getElem?_replicate] at hj
    split at hj
    · rename_i h
      rw [add_zero' g j, blk_cell hg]
      rw [List.getElem?_toArray, half_get x n c j (by omega)]
      exact hj
    · cases hj) (by rw [List.length_replicate, List.size_toArray, half_len x n c hn]; omega) (fun v hv => by rw [List.eq_of_mem_replicate hv]; rfl)
  rw [List.toList_toArray, half_more x n c _ (by omega), List.length_replicate] at this
  exact this
theorem copy_first {w : World} {g gx c : Nat} {x : Int} (hg : w.heap[g]? = some (.cells (Array.replicate c (.int .i64 0)) 3 (0, 0))) (hx : w.cell? ⟨gx, 0, none⟩ = some (.int .i64 x)) (h0 : 0 < c) :
    (Builtin.copy_ #[28, 28] 3 #[.slice (some ⟨g, 0, none⟩) c c, .slice (some ⟨gx, 0, none⟩) 1 1]).run Tryz.prog w = .ok (.int .i64 1) (w.setRow g (halfRow x 1 c).toArray) := by
  have hi : (Tryz.prog.info? 3).map (·.size) = some 1 := by
    obtain ⟨i, hi, hz⟩ := Option.map_eq_some_iff.1 PAll.info3
    simp only [Prod.mk.injEq] at hz
    rw [hi]
    exact congrArg some hz.2.1
  have e0 : Array.replicate c (Value.int .i64 0) = (halfRow x 0 c).toArray := by
    apply Array.toList_inj.1
    rw [Array.toList_replicate, List.toList_toArray]
    unfold halfRow
    simp
  rw [e0] at hg
  have := run_copy_row Tryz.prog w 28 28 3 3 g 0 c c ⟨gx, 0, none⟩ 1 1 _ 3 (List.replicate 1 (.int .i64 x)) Tryz.underlying28 hi hg (by rw [List.length_replicate]; show 1 = min 1 c; omega) (fun j v hj => by
    rw [List.getElem?_replicate] at hj
    split at hj
    · rename_i h
      obtain rfl : j = 0 := by omega
      rw [← hj]
      exact hx
    · cases hj) (by rw [List.length_replicate, List.size_toArray, half_len x 0 c (by omega)]; omega) (fun v hv => by rw [List.eq_of_mem_replicate hv]; rfl)
  rw [List.toList_toArray, half_more x 0 c 1 (by omega), List.length_replicate, Nat.zero_add] at this
  exact this
theorem repeat_calls (gx c : Nat) (x : Int) (w : World) (hx : w.cell? ⟨gx, 0, none⟩ = some (.int .i64 x)) (h0 : 0 < c) (hc : c ≤ 100000) :
    Calls Tryz.prog 171 #[.slice (some ⟨gx, 0, none⟩) 1 1, .int .i64 c] w fun e w' => ∃ g, e = .returned (.slice (some ⟨g, 0, none⟩) c c) ∧ w'.heap[g]? = some (.cells (List.replicate c (.int .i64 x)).toArray 3 (0, 0)) ∧ w.heap.size ≤ g ∧ Below w.heap.size w w' := by
  have hml : Hid (∀ W, Calls Tryz.prog 173 #[.int .u64 1, .int .u64 c] W fun e w' => e = .returned (.tuple #[.int .u64 0, .int .u64 c]) ∧ w' = W) := Lib.hid (fun W => by
    have := Tryz.bits_Mul 1 c (by omega) (by omega) W
    rw [Nat.one_mul, Nat.div_eq_of_lt (by omega), Nat.mod_eq_of_lt (by omega)] at this
    exact this)
  have hms := fun W => make_ints W c (by omega)
  obtain ⟨W1, hW1⟩ : ∃ W1, W1 = w.alloc (.cells (Array.replicate c (.int .i64 0)) 3) := ⟨_, rfl⟩
  have hg1 : W1.heap[w.heap.size]? = some (.cells (Array.replicate c (.int .i64 0)) 3 (0, 0)) := by rw [hW1]; exact heap_alloc_new w _
  have hx1 : W1.cell? ⟨gx, 0, none⟩ = some (.int .i64 x) := by rw [hW1]; exact pw_cell_below ((Below.refl _ _).alloc (Nat.le_refl _) _) hx
  have hcf := copy_first hg1 hx1 h0
  rw [hW1] at hcf
  have hz0 : ((c : Int) == 0) = false := by rw [beq_eq_false_iff_ne]; omega
  obtain ⟨W2, hW2⟩ : ∃ W2, W2 = W1.setRow w.heap.size (halfRow x 1 c).toArray := ⟨_, rfl⟩
  have hB2 := Lib.hid (show Below w.heap.size w W2 by rw [hW2, hW1]; exact below_setRow ((Below.refl _ _).alloc (Nat.le_refl _) _) (Nat.le_refl _) _)
  have hg2 := Lib.hid (show W2.heap[w.heap.size]? = some (.cells (halfRow x 1 c).toArray 3 (0, 0)) by rw [hW2]; exact setRow_heap W1 _ _ _ _ _ hg1)
  rw [← hW1, ← hW2] at hcf
  rw [hW1] at hcf
  clear hg1 hx1 hW2 hx
  go_enter Tryz.func171, Tryz.ntmps171
  go_wp2_with fail
  refine (hml.out _).mono ?_
  rintro e w1 ⟨rfl, rfl⟩
  go_wp2
  go_loopg [8] c (fun gg v8 wr => ∃ n : Nat, v8 = .int .i64 n ∧ 1 ≤ n ∧ n ≤ c ∧ Hid (gg + n = c + 1) ∧ Hid (Below w1.heap.size w1 wr) ∧ Hid (wr.heap[w1.heap.size]? = some (.cells (halfRow x n c).toArray 3 (0, 0))))
  case atStart => exact ⟨1, rfl, Nat.le_refl _, h0, Lib.hid rfl, hB2, hg2⟩
  case round =>
    obtain ⟨n, rfl, hn1, hn, hg, hB, hrow⟩ := hrel
    by_cases hlt : n < c
    · have hcp := copy_half (w := wr.drew) (g := w1.heap.size) hrow.out hn (by omega)
      have hm1 : 1 ≤ Nat.min n (c - n) := Nat.le_min.2 ⟨hn1, by omega⟩
      have hm2 : n + Nat.min n (c - n) ≤ c := by have := Nat.min_le_right n (c - n); show n + min n (c - n) ≤ c; omega
      generalize Nat.min n (c - n) = m at *
      obtain ⟨W3, hW3⟩ : ∃ W3, W3 = wr.drew.setRow w1.heap.size (halfRow x (n + m) c).toArray := ⟨_, rfl⟩
      have hB3 := Lib.hid (show Below w1.heap.size w1 W3 by rw [hW3]; exact below_setRow hB.out.drew (Nat.le_refl _) _)
      have hg3 := Lib.hid (show W3.heap[w1.heap.size]? = some (.cells (halfRow x (n + m) c).toArray 3 (0, 0)) by rw [hW3]; exact setRow_heap wr.drew _ _ _ _ _ hrow.out)
      rw [← hW3] at hcp
      have hwm : IntKind.i64.wrap ((n : Int) + (m : Int)) = ((n + m : Nat) : Int) := by rw [IntWalk.i64_in _ (by omega)]; omega
      have hcb : ((c : Int) - (n : Int)) = ((c - n : Nat) : Int) := by omega
      clear hW3
      go_wp2
      go_region_held3 (fun W' => True)
        (first
          | exact trivial
          | fail)
        (first
          | fail)
      all_goals
        go_wp2
        go_roundg (c + 1 - (n + m))
        case measure => have := hg.out; omega
        case rel => exact ⟨n + m, by go_num, by omega, hm2, Lib.hid (by omega), hB3, hg3⟩
    · have hnc : n = c := by omega
      subst hnc
      go_wp2
      go_ret
      refine ⟨_, rfl, ?_, Nat.le_refl _, hB.out⟩
      have := hrow.out
      unfold halfRow at this
      rw [Nat.sub_self, List.replicate_zero, List.append_nil] at this
      exact this
end Go.Proofs.YtbfedeedicnedaaGreat
end
section
namespace Go.Proofs.YtbfedeedicnedaaGreat
open Go.RowKit
open Go.Proofs.YtbfedeedicnedaaGreatW.PrintWords
theorem seg_set {l : List Value} {i j : Nat} {a b : Value} (h : i * 2 + 2 ≤ l.length) : (((l.set (i * 2) a).set (i * 2 + 1) b).drop (j * 2)).take 2 = if j = i then [a, b] else (l.drop (j * 2)).take 2 := by
  apply List.ext_getElem?
  intro k
  rcases Nat.lt_or_ge k 2 with hk | hk
  · rw [List.getElem?_take_of_lt hk, List.getElem?_drop, List.getElem?_set, List.getElem?_set]
    by_cases hj : j = i
    · subst hj
      rw [if_pos rfl]
      rcases (by omega : k = 0 ∨ k = 1) with rfl | rfl
      · rw [if_neg (by omega), if_pos (by omega), if_pos (by omega)]
        rfl
      · rw [if_pos (by omega), if_pos (by rw [List.length_set]; omega)]
        rfl
    · rw [if_neg hj, if_neg (by omega), if_neg (by omega), List.getElem?_take_of_lt hk, List.getElem?_drop]
  · rw [List.getElem?_eq_none (by rw [List.length_take]; omega), List.getElem?_eq_none]
    split
    · exact hk
    · rw [List.length_take]; omega
theorem R_elem {w : World} {base g n cap : Nat} {xs : List SN} (h : Kd.R kSN 95 w base (fun _ => True) (.slice (some ⟨g, 0, none⟩) n cap) xs) (i : Nat) (hi : i < xs.length) (x : SN) (v0 v1 : Value)
    (h0 : Kd.R kI 3 w base (fun k => k ≠ g) v0 x.f0) (h1 : Kd.R kI 3 w base (fun k => k ≠ g) v1 x.f1) :
    Kd.R kSN 95 ((w.setCell ⟨g, i * 2, none⟩ v0).setCell ⟨g, i * 2 + 1, none⟩ v1) base (fun _ => True) (.slice (some ⟨g, 0, none⟩) n cap) (xs.set i x) := by
  obtain ⟨hok, inner, ho, hr⟩ := h
  have hsz : kSN.sz = 2 := rfl
  rw [hsz] at ho hr
  have hmv : ∀ k, k ≠ g → ((w.setCell ⟨g, i * 2, none⟩ v0).setCell ⟨g, i * 2 + 1, none⟩ v1).heap[k]? = w.heap[k]? := fun k hk => by
    rw [Below.heap_setCell _ _ _ _ (by exact hk), Below.heap_setCell _ _ _ _ (by exact hk)]
  refine ⟨fun _ _ => trivial, (inner.set (i * 2) v0).set (i * 2 + 1) v1, ⟨by rw [List.length_set, List.length_set, List.length_set, ho.1]; rfl, ?_⟩, ?_⟩
  · rcases ho.2 with ⟨h2, _⟩ | ⟨g', cap', cur, h2, h3, h4, h5, h6, h7, h8⟩
    · cases h2
    · simp only [Value.slice.injEq, Option.some.injEq, Addr.mk.injEq] at h2
      obtain ⟨⟨rfl, _⟩, rfl, rfl⟩ := h2
      refine .inr ⟨g, cap, _, by rw [List.length_set], h3, blk_set (blk_set h4 (i * 2) v0) (i * 2 + 1) v1, by rw [List.length_set]; exact h5, h6, by rw [Array.size_setIfInBounds, Array.size_setIfInBounds]; exact h7, ?_⟩
      rw [Array.toList_setIfInBounds, Array.toList_setIfInBounds, List.length_set, List.take_set, List.take_set, hsz, h8]
  · rw [hsz]
    refine ⟨by rw [List.length_set, List.length_set, List.length_set, hr.1], fun j p hj => ?_⟩
    have hlen : i * 2 + 2 ≤ inner.length := by rw [hr.1]; omega
    rw [seg_set hlen]
    have hown : ∀ k, (True ∧ some k ≠ (Value.slice (some ⟨g, 0, none⟩) n cap).ownBlock) → k ≠ g := fun k hk he => hk.2 (by rw [he]; rfl)
    by_cases hji : j = i
    · subst hji
      rw [if_pos rfl]
      rw [List.getElem?_set, if_pos rfl, if_pos hi] at hj
      obtain rfl := Option.some.inj hj
      have hM : kSN.M w base (fun k => k ≠ g) x [v0, v1] := PAll.k95_mkM w base _ x h0 h1
      exact kSN.M_mono (fun k hk => ⟨trivial, fun he => hk (by simpa [Value.ownBlock] using he)⟩) (kSN.M_move hmv hM)
    · rw [if_neg hji]
      rw [List.getElem?_set, if_neg (fun e => hji e.symm)] at hj
      exact kSN.M_move (fun k hk => hmv k (hown k hk)) (hr.2 j p hj)
theorem made_nodes (n : Nat) : madeCells (Value.agg #[.slice none 0 0, .slice none 0 0]).cells n = Array.replicate n (.slice none 0 0) := by
  have h : (Value.agg #[.slice none 0 0, .slice none 0 0]).cells = #[.slice none 0 0, .slice none 0 0] := by simp [Value.cells]
  rw [h]
  unfold madeCells
  apply Array.ext
  · simp
  · intro i h1 h2
    simp
    rcases (by omega : i % 2 = 0 ∨ i % 2 = 1) with e | e <;> rw [e] <;> rfl
theorem make_nodes (W : World) (n : Nat) (hn : n ≤ 1000000) : (Instr.makeSlice 22 (.int .i64 n) (.int .i64 n)).run Tryz.prog W = .ok (.slice (some ⟨W.heap.size, 0, none⟩) n n) (W.alloc (.cells (Array.replicate (n * 2) (.slice none 0 0)) 95)) := by
  obtain ⟨i, hi, hz⟩ := Option.map_eq_some_iff.1 nd_info
  simp only [Prod.mk.injEq] at hz
  have := run_make (P := Tryz.prog) W 22 95 i _ Tryz.underlying22 hi hz.1 .i64 .i64 n n (by omega) (Int.le_refl _) (by rw [hz.2.2]; omega) (by omega)
  rw [hz.2.1, Int.toNat_natCast, made_nodes] at this
  exact this
theorem R_start (w : World) (base n : Nat) (hb : base ≤ w.heap.size) (hn : n ≤ 1000000) : Kd.R kSN 95 (w.alloc (.cells (Array.replicate (n * 2) (.slice none 0 0)) 95)) base (fun _ => True) (.slice (some ⟨w.heap.size, 0, none⟩) n n) (List.replicate n ⟨[], []⟩) := by
  refine ⟨fun _ _ => trivial, List.replicate (n * 2) (.slice none 0 0), ⟨by simp; rfl, .inr ⟨w.heap.size, n, _, by rw [List.length_replicate], hb, heap_alloc_new w _, by rw [List.length_replicate]; exact Nat.le_refl _, by simp [maxLen]; omega, by simp; rfl, ?_⟩⟩, ⟨by simp; rfl, fun j p hj => ?_⟩⟩
  · rw [List.length_replicate]
    simp
    rfl
  · have hsz : kSN.sz = 2 := rfl
    have hp : p = ⟨[], []⟩ ∧ j < n := by
      rw [List.getElem?_replicate] at hj
      split at hj
      · rename_i h; exact ⟨(Option.some.inj hj).symm, h⟩
      · cases hj
    obtain ⟨rfl, hjn⟩ := hp
    have : (((List.replicate (n * 2) (Value.slice none 0 0)).drop (j * kSN.sz)).take kSN.sz) = [.slice none 0 0, .slice none 0 0] := by
      rw [hsz, List.drop_replicate, List.take_replicate, show min 2 (n * 2 - j * 2) = 2 by omega]
      rfl
    rw [this]
    exact PAll.k95_mkM _ _ _ _ (Kd.R_nil _ _ _ _ _) (Kd.R_nil _ _ _ _ _)
namespace Sh
def part (H : Hp) (i : Nat) : Hp := H.take i ++ List.replicate (H.length - i) ([], [])
theorem part_zero (H : Hp) : sn (part H 0) = List.replicate H.length ⟨[], []⟩ := by unfold part sn; simp
theorem part_all (H : Hp) : part H H.length = H := by unfold part; simp
theorem part_len (H : Hp) (i : Nat) (h : i ≤ H.length) : (part H i).length = H.length := by unfold part; rw [List.length_append, List.length_take, List.length_replicate]; omega
theorem part_next (H : Hp) (i : Nat) (h : i < H.length) : (sn (part H i)).set i ⟨(nd H i).1, (nd H i).2⟩ = sn (part H (i + 1)) := by
  have e : sn (part H (i + 1)) = (sn (part H i)).set i ⟨(nd H i).1, (nd H i).2⟩ := by
    unfold sn
    rw [← List.map_set (f := fun p : Nd => (⟨p.1, p.2⟩ : SN)) (a := nd H i)]
    congr 1
    unfold part
    apply List.ext_getElem?
    intro j
    rw [List.getElem?_set]
    by_cases hj : i = j
    · subst hj
      rw [if_pos rfl, if_pos (by rw [List.length_append, List.length_take, List.length_replicate]; omega), List.getElem?_append_left (by rw [List.length_take]; omega), List.getElem?_take_of_lt (by omega)]
      have := nd_there (h := H) (n := (i : Int)) (there_iff.2 ⟨by omega, by omega⟩)
      rw [Int.toNat_natCast] at this
      exact this
    · rw [if_neg hj]
      rcases Nat.lt_or_ge j i with h1 | h1
      · rw [List.getElem?_append_left (by rw [List.length_take]; omega), List.getElem?_append_left (by rw [List.length_take]; omega), List.getElem?_take_of_lt (by omega), List.getElem?_take_of_lt (by omega)]
      · rw [List.getElem?_append_right (by rw [List.length_take]; omega), List.getElem?_append_right (by rw [List.length_take]; omega), List.getElem?_replicate, List.getElem?_replicate, List.length_take, List.length_take]
        split <;> split <;> first | rfl | omega
  exact e.symm
end Sh
def heldAt (g j : Nat) (W : World) : Value := (W.cell? ⟨g, j, none⟩).getD undef
theorem heldAt_eq {g j : Nat} {W : World} {q : Value} (h : W.cell? ⟨g, j, none⟩ = some q) : W.cell? ⟨g, j, none⟩ = some (heldAt g j W) := by
  unfold heldAt
  rw [h]
  rfl
theorem add_of (g j : Nat) : (⟨g, 0, none⟩ : Addr).add j = ⟨g, j, none⟩ := by
  rcases Nat.eq_zero_or_pos j with rfl | h
  · rfl
  · rw [add_pos _ _ h]
    simp
theorem row_cells {w : World} {base g n : Nat} {xs : List SN} (h : Kd.R kSN 95 w base (fun _ => True) (.slice (some ⟨g, 0, none⟩) n n) xs) (i : Nat) (hi : i < xs.length) : ∃ q0 q1, w.cell? ⟨g, i * 2, none⟩ = some q0 ∧ w.cell? ⟨g, i * 2 + 1, none⟩ = some q1 := by
  obtain ⟨A, c, e, _, hC⟩ := Kd.R_reads h
  simp only [Value.slice.injEq] at e
  obtain ⟨ad, A0, c0, A1, c1, e1, d0, d1, _⟩ := PAll.at_T95 hC i (by omega) (by omega)
  rw [← e.1] at e1
  cases e1
  rw [Int.toNat_natCast, add_of] at d0 d1
  exact ⟨_, _, d0, d1⟩
theorem grown_calls (A : Option Addr) (c : Nat) (H : Sh.Hp) (w : World) (hC : Nodes w A H) (hl : H.length ≤ 100000) (hbig : ∀ p ∈ H, p.1.length ≤ 1000000 ∧ p.2.length ≤ 1000000) :
    Calls Tryz.prog 87 #[.slice A H.length c] w fun e w' => ∃ hb, e = .returned (.pointer (some ⟨hb, 0, none⟩)) ∧ HeapAt w' w.heap.size hb H ∧ Below w.heap.size w w' := by
  have hms := fun W => make_nodes W H.length (by omega)
  have hR0 := Lib.hid (R_start w w.heap.size H.length (Nat.le_refl _) (by omega))
  rw [← Sh.part_zero] at hR0
  obtain ⟨W1, hW1⟩ : ∃ W1, W1 = (w.alloc (.cells (Array.replicate (H.length * 2) (.slice none 0 0)) 95)).alloc (.cells #[.slice (some ⟨w.heap.size, 0, none⟩) H.length H.length] 124) := ⟨_, rfl⟩
  have hB1 := Lib.hid (show Below w.heap.size w W1 by rw [hW1]; exact ((Below.refl _ _).alloc (Nat.le_refl _) _).alloc (by rw [World.size_alloc]; omega) _)
  have hb1 := Lib.hid (show W1.heap[w.heap.size + 1]? = some (.cells #[.slice (some ⟨w.heap.size, 0, none⟩) H.length H.length] 124 (0, 0)) by
    rw [hW1]
    have := heap_alloc_new (w.alloc (.cells (Array.replicate (H.length * 2) (.slice none 0 0)) 95)) (.cells #[.slice (some ⟨w.heap.size, 0, none⟩) H.length H.length] 124)
    rwa [World.size_alloc] at this)
  have hR1 := Lib.hid (show Kd.R kSN 95 W1 w.heap.size (fun _ => True) (.slice (some ⟨w.heap.size, 0, none⟩) H.length H.length) (sn (Sh.part H 0)) by rw [hW1]; exact Kd.R_alloc hR0.out _)
  have hs1 := Lib.hid (show W1.heap.size = w.heap.size + 2 by rw [hW1, World.size_alloc, World.size_alloc])
  have hCh := Lib.hid hC
  have hbh := Lib.hid hbig
  clear hR0 hC hbig
  go_enter Tryz.func87, Tryz.ntmps87
  go_wp2
  rw [← hW1]
  clear hW1
  go_loopg [13] H.length (fun gg v13 wr => ∃ i : Nat, v13 = .int .i64 i ∧ i ≤ H.length ∧ Hid (gg + i = H.length) ∧ Hid (Below w.heap.size w wr) ∧ Hid (w.heap.size + 2 ≤ wr.heap.size) ∧ Hid (wr.heap[w.heap.size + 1]? = some (.cells #[.slice (some ⟨w.heap.size, 0, none⟩) H.length H.length] 124 (0, 0))) ∧ Hid (Kd.R kSN 95 wr w.heap.size (fun _ => True) (.slice (some ⟨w.heap.size, 0, none⟩) H.length H.length) (sn (Sh.part H i))))
  case atStart => exact ⟨0, rfl, Nat.zero_le _, Lib.hid rfl, hB1, Lib.hid (by have := hs1.out; omega), hb1, hR1⟩
  case round =>
    obtain ⟨i, rfl, hi, hg, hB, hsz, hbx, hR⟩ := hrel
    by_cases hlt : i < H.length
    · obtain ⟨ad, A0, c0, A1, c1, rfl, d0, d1, l0, g0, l1, g1⟩ := hCh.out.at i (by omega) (by omega)
      simp only [Int.toNat_natCast] at d0 d1
      have hsm := hbh.out _ (List.mem_of_getElem? (Sh.nd_there (Sh.there_iff.2 ⟨show (0 : Int) ≤ (i : Int) by omega, by omega⟩)))
      replace d0 := pw_cell_below hB.out d0
      replace d1 := pw_cell_below hB.out d1
      have hc0 := Lib.hid (fun W (hW : Below w.heap.size w W) => clone_calls A0 c0 _ W (Kd.C_below g0 hW) hsm.1)
      have hc1 := Lib.hid (fun W (hW : Below w.heap.size w W) => clone_calls A1 c1 _ W (Kd.C_below g1 hW) hsm.2)
      have hpn := Lib.hid (Sh.part_next H i hlt)
      generalize (Sh.nd H (i : Int)).1 = xs at *
      generalize (Sh.nd H (i : Int)).2 = ys at *
      obtain ⟨W2, hW2⟩ : ∃ W2, W2 = wr.alloc (.cells #[.slice A0 xs.length c0, .slice A1 ys.length c1] 95) := ⟨_, rfl⟩
      have hs2 := Lib.hid (show W2.heap.size = wr.heap.size + 1 by rw [hW2, World.size_alloc])
      have hB2 := Lib.hid (show Below wr.heap.size wr W2 by rw [hW2]; exact (Below.refl _ _).alloc (Nat.le_refl _) _)
      have hb2 := Lib.hid (show W2.heap[wr.heap.size]? = some (.cells #[.slice A0 xs.length c0, .slice A1 ys.length c1] 95 (0, 0)) by rw [hW2]; exact heap_alloc_new wr _)
      have hbx2 := Lib.hid (blk_below hbx.out hB2.out)
      have hR2 := Lib.hid (Kd.R_below hR.out hB2.out)
      obtain ⟨cs, hrow⟩ : ∃ cs, W2.heap[w.heap.size]? = some (.cells cs 95 (0, 0)) := own_typed (Kd.R_own hR2.out).choose_spec w.heap.size rfl
      obtain ⟨q0, q1, hq0, hq1⟩ := row_cells hR2.out i (by rw [sn_len, Sh.part_len H i hi]; exact hlt)
      have hglt := Lib.hid (show w.heap.size < W2.heap.size from blk_lt hrow)
      have hw2 := Lib.hid (show Below w.heap.size w W2 from Below.trans hB.out (hB2.out.mono (by have := hsz.out; omega)))
      have hk := Lib.hid (fun W (hW : Below W2.heap.size W2 W) => by
        have h1 : W.cell? ⟨w.heap.size + 1, 0, none⟩ = some (.slice (some ⟨w.heap.size, 0, none⟩) H.length H.length) := by rw [blk_cell (blk_below hbx2.out hW)]; rfl
        have h2 : W.cell? ⟨wr.heap.size, 0, none⟩ = some (.slice A0 xs.length c0) := by rw [blk_cell (blk_below hb2.out hW)]; rfl
        have h3 : W.cell? ⟨wr.heap.size, 1, none⟩ = some (.slice A1 ys.length c1) := by rw [blk_cell (blk_below hb2.out hW)]; rfl
        have h4 : W.frozen? ⟨w.heap.size, i * 2, none⟩ = false := blk_frozen (blk_below hrow hW) _
        have h5 : W.frozen? ⟨w.heap.size, i * 2 + 1, none⟩ = false := blk_frozen (blk_below hrow hW) _
        have h6 := heldAt_eq ((hW.cell (p := ⟨w.heap.size, i * 2, none⟩) hglt.out).trans hq0)
        have h7 := heldAt_eq ((hW.cell (p := ⟨w.heap.size, i * 2 + 1, none⟩) hglt.out).trans hq1)
        exact (⟨hw2.out.trans (hW.mono (by have := hs2.out; have := hsz.out; omega)), h1, h2, h3, h4, h5, h6, h7⟩ : _ ∧ _ ∧ _ ∧ _ ∧ _ ∧ _ ∧ _ ∧ _))
      have hst := Lib.hid (fun W (hW : Below W2.heap.size W2 W) (u0 u1 : Value) => by
        obtain ⟨k0, k1, k2, k3, _, _, _, _⟩ := hk.out W hW
        obtain ⟨c0', hc0'⟩ : ∃ cs', W.heap[w.heap.size]? = some (.cells cs' 95 (0, 0)) := ⟨_, blk_below hrow hW⟩
        have hn1 : w.heap.size + 1 ≠ w.heap.size := by omega
        have hn2 : wr.heap.size ≠ w.heap.size := by have := hsz.out; omega
        have hbk := blk_set (blk_set hc0' (i * 2) u0) (i * 2 + 1) u1
        obtain ⟨p0, p1, hp0, hp1⟩ := row_cells (Kd.R_below hR2.out hW) i (by rw [sn_len, Sh.part_len H i hi]; exact hlt)
        have hz : ∀ j, i * 2 ≤ j → j ≤ i * 2 + 1 → ∃ q, ((W.setCell ⟨w.heap.size, i * 2, none⟩ u0).setCell ⟨w.heap.size, i * 2 + 1, none⟩ u1).cell? ⟨w.heap.size, j, none⟩ = some q := fun j h1 h2 => by
          rw [blk_cell hc0'] at hp0 hp1
          rw [blk_cell hbk]
          have e0 : i * 2 < c0'.size := (Array.getElem?_eq_some_iff.1 hp0).1
          have e1 : i * 2 + 1 < c0'.size := (Array.getElem?_eq_some_iff.1 hp1).1
          exact ⟨_, Array.getElem?_eq_getElem (by rw [Array.size_setIfInBounds, Array.size_setIfInBounds]; omega)⟩
        obtain ⟨z0, hz0⟩ := hz (i * 2) (Nat.le_refl _) (by omega)
        obtain ⟨z1, hz1⟩ := hz (i * 2 + 1) (by omega) (Nat.le_refl _)
        have h1 : ((W.setCell ⟨w.heap.size, i * 2, none⟩ u0).setCell ⟨w.heap.size, i * 2 + 1, none⟩ u1).cell? ⟨w.heap.size + 1, 0, none⟩ = some (.slice (some ⟨w.heap.size, 0, none⟩) H.length H.length) := by
          rw [World.cell?_of_block (w := W) (by rw [Below.heap_setCell _ _ _ _ (by exact hn1), Below.heap_setCell _ _ _ _ (by exact hn1)])]
          exact k1
        have h2 : ((W.setCell ⟨w.heap.size, i * 2, none⟩ u0).setCell ⟨w.heap.size, i * 2 + 1, none⟩ u1).cell? ⟨wr.heap.size, 0, none⟩ = some (.slice A0 xs.length c0) := by
          rw [World.cell?_of_block (w := W) (by rw [Below.heap_setCell _ _ _ _ (by exact hn2), Below.heap_setCell _ _ _ _ (by exact hn2)])]
          exact k2
        have h3 : ((W.setCell ⟨w.heap.size, i * 2, none⟩ u0).setCell ⟨w.heap.size, i * 2 + 1, none⟩ u1).cell? ⟨wr.heap.size, 1, none⟩ = some (.slice A1 ys.length c1) := by
          rw [World.cell?_of_block (w := W) (by rw [Below.heap_setCell _ _ _ _ (by exact hn2), Below.heap_setCell _ _ _ _ (by exact hn2)])]
          exact k3
        exact (⟨(k0.setCell (p := ⟨w.heap.size, i * 2, none⟩) (Nat.le_refl _) u0).setCell (p := ⟨w.heap.size, i * 2 + 1, none⟩) (Nat.le_refl _) u1, h1, h2, h3, blk_frozen hbk (i * 2), blk_frozen hbk (i * 2 + 1), heldAt_eq hz0, heldAt_eq hz1⟩ : _ ∧ _ ∧ _ ∧ _ ∧ _ ∧ _ ∧ _ ∧ _))
      have hd2 := Lib.hid (show Below W2.heap.size W2 W2.drew from (Below.refl _ _).drew)
      have hbb := Lib.hid (fun W (hW : Below W2.heap.size W2 W) => blk_below hbx2.out hW)
      clear hR hbx hb2 hbx2 g0 g1 hsm hrow hq0 hq1
      go_wp2
      rw [← hW2]
      clear hW2
      go_region_held3 (fun W' => Below w.heap.size w W' ∧ W'.cell? ⟨w.heap.size + 1, 0, none⟩ = some (.slice (some ⟨w.heap.size, 0, none⟩) H.length H.length) ∧ W'.cell? ⟨wr.heap.size, 0, none⟩ = some (.slice A0 xs.length c0) ∧ W'.cell? ⟨wr.heap.size, 1, none⟩ = some (.slice A1 ys.length c1) ∧ W'.frozen? ⟨w.heap.size, i * 2, none⟩ = false ∧ W'.frozen? ⟨w.heap.size, i * 2 + 1, none⟩ = false ∧ W'.cell? ⟨w.heap.size, i * 2, none⟩ = some (heldAt w.heap.size (i * 2) W') ∧ W'.cell? ⟨w.heap.size, i * 2 + 1, none⟩ = some (heldAt w.heap.size (i * 2 + 1) W'))
        (first
          | exact hk.out _ (by assumption)
          | exact hk.out _ hd2.out
          | exact hst.out _ (by assumption) _ _
          | fail)
        (first
          | (go_at_call 76; refine (hc0.out _ (by first | exact (hk.out _ (by assumption)).1 | exact (hk.out _ hd2.out).1)).mono ?_; rintro e w3 ⟨v0, rfl, o0, hb3⟩; obtain ⟨A5, c5, rfl⟩ := Kd.R_slice o0; have hB3 : Below W2.heap.size W2 w3 := Below.trans hd2.out hb3; replace o0 := Lib.hid o0; replace hb3 := Lib.hid hb3)
          | (go_at_call 76; refine (hc1.out _ (by first | exact (hk.out _ (by assumption)).1 | exact (hk.out _ hd2.out).1)).mono ?_; rintro e w4 ⟨v1, rfl, o1, hb4⟩; obtain ⟨A6, c6, rfl⟩ := Kd.R_slice o1; have hB4 : Below W2.heap.size W2 w4 := Below.trans (show Below W2.heap.size W2 w3 from by assumption) (hb4.mono (Below.size (show Below W2.heap.size W2 w3 from by assumption))); replace o1 := Lib.hid o1; replace hb4 := Lib.hid hb4))
      replace hB4 := Lib.hid (show Below W2.heap.size W2 w4 from by assumption)
      have hg2 : w.heap.size + 1 ≤ W2.heap.size := by have := hglt.out; omega
      have p0 : Kd.R kI 3 w4 w.heap.size (fun k => k ≠ w.heap.size) (.slice A5 xs.length c5) xs := by
        have := Kd.R_mono (Kd.R_bound o0.out) (ok' := fun k => k ≠ w.heap.size) (fun k hk he => by have h9 : W2.drew.heap.size ≤ k := hk.2.1; have h8 : W2.drew.heap.size = W2.heap.size := rfl; omega)
        exact Kd.R_lower (Kd.R_below this hb4.out) (by show w.heap.size ≤ W2.heap.size; omega)
      have p1 : Kd.R kI 3 w4 w.heap.size (fun k => k ≠ w.heap.size) (.slice A6 ys.length c6) ys := by
        have h7 : W2.heap.size ≤ w3.heap.size := hb3.out.size
        have := Kd.R_mono (Kd.R_bound o1.out) (ok' := fun k => k ≠ w.heap.size) (fun k hk he => by have h9 : w3.heap.size ≤ k := hk.2.1; omega)
        exact Kd.R_lower this (by omega)
      have hRn := Lib.hid (R_elem (Kd.R_below hR2.out hB4.out) i (by rw [sn_len, Sh.part_len H i hi]; exact hlt) ⟨xs, ys⟩ _ _ p0 p1)
      rw [hpn.out] at hRn
      have hBn := Lib.hid (((hw2.out.trans (hB4.out.mono (by omega))).setCell (p := ⟨w.heap.size, i * 2, none⟩) (Nat.le_refl _) (.slice A5 xs.length c5)).setCell (p := ⟨w.heap.size, i * 2 + 1, none⟩) (Nat.le_refl _) (.slice A6 ys.length c6))
      have hszn := Lib.hid (show w.heap.size + 2 ≤ ((w4.setCell ⟨w.heap.size, i * 2, none⟩ (.slice A5 xs.length c5)).setCell ⟨w.heap.size, i * 2 + 1, none⟩ (.slice A6 ys.length c6)).heap.size by
        have h5 := hB4.out.size
        have h6 := hs2.out
        have h7 := hsz.out
        rw [World.size_setCell, World.size_setCell]
        omega)
      have hbn := Lib.hid (show ((w4.setCell ⟨w.heap.size, i * 2, none⟩ (.slice A5 xs.length c5)).setCell ⟨w.heap.size, i * 2 + 1, none⟩ (.slice A6 ys.length c6)).heap[w.heap.size + 1]? = some (.cells #[.slice (some ⟨w.heap.size, 0, none⟩) H.length H.length] 124 (0, 0)) from
        blk_far (blk_far (hbb.out _ hB4.out) (by show w.heap.size + 1 ≠ w.heap.size; omega) _) (by show w.heap.size + 1 ≠ w.heap.size; omega) _)
      clear p0 p1
      go_wp2
      go_roundg (H.length - (i + 1))
      case measure => have := hg.out; omega
      case rel => exact ⟨i + 1, by go_num, by omega, Lib.hid (by omega), hBn, hszn, hbn, hRn⟩
    · have hi2 : i = H.length := by omega
      subst hi2
      go_wp2
      go_ret
      refine ⟨_, rfl, ⟨by omega, _, hbx.out, ?_⟩, hB.out⟩
      have := hR.out
      rwa [Sh.part_all] at this
end Go.Proofs.YtbfedeedicnedaaGreat
end
