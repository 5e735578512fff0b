/-
  Texts of this claim: ShX, ShAD.
-/
import Derived.Test.YtbfedeedicnedaaGreatSx19
import Derived.Test.YtbfedeedicnedaaGreatSx20
set_option linter.unusedVariables false
set_option linter.unusedSimpArgs false
section
namespace Go.Proofs.YtbfedeedicnedaaGreat
open Go.RowKit
open Go.Proofs.YtbfedeedicnedaaGreatW.PrintWords
theorem seg_set {l : List Value} {i j : Nat} {a b : Value} (h : i * 2 + 2 ≤ l.length) : (((l.set (i * 2) a).set (i * 2 + 1) b).drop (j * 2)).take 2 = if j = i then [a, b] else (l.drop (j * 2)).take 2 := by
  apply List.ext_getElem?
  intro k
  rcases Nat.lt_or_ge k 2 with hk | hk
  · rw [List.getElem?_take_of_lt hk, List.getElem?_drop, List.getElem?_set, List.getElem?_set]
    by_cases hj : j = i
    · subst hj
      rw [if_pos rfl]
      rcases (by omega : k = 0 ∨ k = 1) with rfl | rfl
      · rw [if_neg (by omega), if_pos (by omega), if_pos (by omega)]
        rfl
      · rw [if_pos (by omega), if_pos (by rw [List.length_set]; omega)]
        rfl
    · rw [if_neg hj, if_neg (by omega), if_neg (by omega), List.getElem?_take_of_lt hk, List.getElem?_drop]
  · rw [List.getElem?_eq_none (by rw [List.length_take]; omega), List.getElem?_eq_none]
    split
    · exact hk
    · rw [List.length_take]; omega
theorem R_elem {w : World} {base g n cap : Nat} {xs : List SN} (h : Kd.R kSN 95 w base (fun _ => True) (.slice (some ⟨g, 0, none⟩) n cap) xs) (i : Nat) (hi : i < xs.length) (x : SN) (v0 v1 : Value)
    (h0 : Kd.R kI 3 w base (fun k => k ≠ g) v0 x.f0) (h1 : Kd.R kI 3 w base (fun k => k ≠ g) v1 x.f1) :
    Kd.R kSN 95 ((w.setCell ⟨g, i * 2, none⟩ v0).setCell ⟨g, i * 2 + 1, none⟩ v1) base (fun _ => True) (.slice (some ⟨g, 0, none⟩) n cap) (xs.set i x) := by
  obtain ⟨hok, inner, ho, hr⟩ := h
  have hsz : kSN.sz = 2 := rfl
  rw [hsz] at ho hr
  have hmv : ∀ k, k ≠ g → ((w.setCell ⟨g, i * 2, none⟩ v0).setCell ⟨g, i * 2 + 1, none⟩ v1).heap[k]? = w.heap[k]? := fun k hk => by
    rw [Below.heap_setCell _ _ _ _ (by exact hk), Below.heap_setCell _ _ _ _ (by exact hk)]
  refine ⟨fun _ _ => trivial, (inner.set (i * 2) v0).set (i * 2 + 1) v1, ⟨by rw [List.length_set, List.length_set, List.length_set, ho.1]; rfl, ?_⟩, ?_⟩
  · rcases ho.2 with ⟨h2, _⟩ | ⟨g', cap', cur, h2, h3, h4, h5, h6, h7, h8⟩
    · cases h2
    · simp only [Value.slice.injEq, Option.some.injEq, Addr.mk.injEq] at h2
      obtain ⟨⟨rfl, _⟩, rfl, rfl⟩ := h2
      refine .inr ⟨g, cap, _, by rw [List.length_set], h3, blk_set (blk_set h4 (i * 2) v0) (i * 2 + 1) v1, by rw [List.length_set]; exact h5, h6, by rw [Array.size_setIfInBounds, Array.size_setIfInBounds]; exact h7, ?_⟩
      rw [Array.toList_setIfInBounds, Array.toList_setIfInBounds, List.length_set, List.take_set, List.take_set, hsz, h8]
  · rw [hsz]
    refine ⟨by rw [List.length_set, List.length_set, List.length_set, hr.1], fun j p hj => ?_⟩
    have hlen : i * 2 + 2 ≤ inner.length := by rw [hr.1]; omega
    rw [seg_set hlen]
    have hown : ∀ k, (True ∧ some k ≠ (Value.slice (some ⟨g, 0, none⟩) n cap).ownBlock) → k ≠ g := fun k hk he => hk.2 (by rw [he]; rfl)
    by_cases hji : j = i
    · subst hji
      rw [if_pos rfl]
      rw [List.getElem?_set, if_pos rfl, if_pos hi] at hj
      obtain rfl := Option.some.inj hj
      have hM : kSN.M w base (fun k => k ≠ g) x [v0, v1] := PAll.k95_mkM w base _ x h0 h1
      exact kSN.M_mono (fun k hk => ⟨trivial, fun he => hk (by simpa [Value.ownBlock] using he)⟩) (kSN.M_move hmv hM)
    · rw [if_neg hji]
      rw [List.getElem?_set, if_neg (fun e => hji e.symm)] at hj
      exact kSN.M_move (fun k hk => hmv k (hown k hk)) (hr.2 j p hj)
theorem made_nodes (n : Nat) : madeCells (Value.agg #[.slice none 0 0, .slice none 0 0]).cells n = Array.replicate n (.slice none 0 0) := by
  have h : (Value.agg #[.slice none 0 0, .slice none 0 0]).cells = #[.slice none 0 0, .slice none 0 0] := by simp [Value.cells]
  rw [h]
  unfold madeCells
  apply Array.ext
  · simp
  · intro i h1 h2
    simp
    rcases (by omega : i % 2 = 0 ∨ i % 2 = 1) with e | e <;> rw [e] <;> rfl
theorem make_nodes (W : World) (n : Nat) (hn : n ≤ 1000000) : (Instr.makeSlice 22 (.int .i64 n) (.int .i64 n)).run Tryz.prog W = .ok (.slice (some ⟨W.heap.size, 0, none⟩) n n) (W.alloc (.cells (Array.replicate (n * 2) (.slice none 0 0)) 95)) := by
  obtain ⟨i, hi, hz⟩ := Option.map_eq_some_iff.1 nd_info
  simp only [Prod.mk.injEq] at hz
  have := run_make (P := Tryz.prog) W 22 95 i _ Tryz.underlying22 hi hz.1 .i64 .i64 n n (by omega) (Int.le_refl _) (by rw [hz.2.2]; omega) (by omega)
  rw [hz.2.1, Int.toNat_natCast, made_nodes] at this
  exact this
theorem R_start (w : World) (base n : Nat) (hb : base ≤ w.heap.size) (hn : n ≤ 1000000) : Kd.R kSN 95 (w.alloc (.cells (Array.replicate (n * 2) (.slice none 0 0)) 95)) base (fun _ => True) (.slice (some ⟨w.heap.size, 0, none⟩) n n) (List.replicate n ⟨[], []⟩) := by
  refine ⟨fun _ _ => trivial, List.replicate (n * 2) (.slice none 0 0), ⟨by simp; rfl, .inr ⟨w.heap.size, n, _, by rw [List.length_replicate], hb, heap_alloc_new w _, by rw [List.length_replicate]; exact Nat.le_refl _, by simp [maxLen]; omega, by simp; rfl, ?_⟩⟩, ⟨by simp; rfl, fun j p hj => ?_⟩⟩
  · rw [List.length_replicate]
    simp
    rfl
  · have hsz : kSN.sz = 2 := rfl
    have hp : p = ⟨[], []⟩ ∧ j < n := by
      rw [List.getElem?_replicate] at hj
      split at hj
      · rename_i h; exact ⟨(Option.some.inj hj).symm, h⟩
      · cases hj
    obtain ⟨rfl, hjn⟩ := hp
    have : (((List.replicate (n * 2) (Value.slice none 0 0)).drop (j * kSN.sz)).take kSN.sz) = [.slice none 0 0, .slice none 0 0] := by
      rw [hsz, List.drop_replicate, List.take_replicate, show min 2 (n * 2 - j * 2) = 2 by omega]
      rfl
    rw [this]
    exact PAll.k95_mkM _ _ _ _ (Kd.R_nil _ _ _ _ _) (Kd.R_nil _ _ _ _ _)
namespace Sh
def part (H : Hp) (i : Nat) : Hp := H.take i ++ List.replicate (H.length - i) ([], [])
theorem part_zero (H : Hp) : sn (part H 0) = List.replicate H.length ⟨[], []⟩ := by unfold part sn; simp
theorem part_all (H : Hp) : part H H.length = H := by unfold part; simp
theorem part_len (H : Hp) (i : Nat) (h : i ≤ H.length) : (part H i).length = H.length := by unfold part; rw [List.length_append, List.length_take, List.length_replicate]; omega
theorem part_next (H : Hp) (i : Nat) (h : i < H.length) : (sn (part H i)).set i ⟨(nd H i).1, (nd H i).2⟩ = sn (part H (i + 1)) := by
  have e : sn (part H (i + 1)) = (sn (part H i)).set i ⟨(nd H i).1, (nd H i).2⟩ := by
    unfold sn
    rw [← List.map_set (f := fun p : Nd => (⟨p.1, p.2⟩ : SN)) (a := nd H i)]
    congr 1
    unfold part
    apply List.ext_getElem?
    intro j
    rw [List.getElem?_set]
    by_cases hj : i = j
    · subst hj
      rw [if_pos rfl, if_pos (by rw [List.length_append, List.length_take, List.length_replicate]; omega), List.getElem?_append_left (by rw [List.length_take]; omega), List.getElem?_take_of_lt (by omega)]
      have := nd_there (h := H) (n := (i : Int)) (there_iff.2 ⟨by omega, by omega⟩)
      rw [Int.toNat_natCast] at this
      exact this
    · rw [if_neg hj]
      rcases Nat.lt_or_ge j i with h1 | h1
      · rw [List.getElem?_append_left (by rw [List.length_take]; omega), List.getElem?_append_left (by rw [List.length_take]; omega), List.getElem?_take_of_lt (by omega), List.getElem?_take_of_lt (by omega)]
      · rw [List.getElem?_append_right (by rw [List.length_take]; omega), List.getElem?_append_right (by rw [List.length_take]; omega), List.getElem?_replicate, List.getElem?_replicate, List.length_take, List.length_take]
        split <;> split <;> first | rfl | omega
  exact e.symm
end Sh
def heldAt (g j : Nat) (W : World) : Value := (W.cell? ⟨g, j, none⟩).getD undef
theorem heldAt_eq {g j : Nat} {W : World} {q : Value} (h : W.cell? ⟨g, j, none⟩ = some q) : W.cell? ⟨g, j, none⟩ = some (heldAt g j W) := by
  unfold heldAt
  rw [h]
  rfl
theorem add_of (g j : Nat) : (⟨g, 0, none⟩ : Addr).add j = ⟨g, j, none⟩ := by
  rcases Nat.eq_zero_or_pos j with rfl | h
  · rfl
  · rw [add_pos _ _ h]
    simp
theorem row_cells {w : World} {base g n : Nat} {xs : List SN} (h : Kd.R kSN 95 w base (fun _ => True) (.slice (some ⟨g, 0, none⟩) n n) xs) (i : Nat) (hi : i < xs.length) : ∃ q0 q1, w.cell? ⟨g, i * 2, none⟩ = some q0 ∧ w.cell? ⟨g, i * 2 + 1, none⟩ = some q1 := by
  obtain ⟨A, c, e, _, hC⟩ := Kd.R_reads h
  simp only [Value.slice.injEq] at e
  obtain ⟨ad, A0, c0, A1, c1, e1, d0, d1, _⟩ := PAll.at_T95 hC i (by omega) (by omega)
  rw [← e.1] at e1
  cases e1
  rw [Int.toNat_natCast, add_of] at d0 d1
  exact ⟨_, _, d0, d1⟩
set_option maxRecDepth 100000 in
set_option maxHeartbeats 1000000 in
theorem grown_calls (A : Option Addr) (c : Nat) (H : Sh.Hp) (w : World) (hC : Nodes w A H) (hl : H.length ≤ 100000) (hbig : ∀ p ∈ H, p.1.length ≤ 1000000 ∧ p.2.length ≤ 1000000) :
    Calls Tryz.prog 87 #[.slice A H.length c] w fun e w' => ∃ hb, e = .returned (.pointer (some ⟨hb, 0, none⟩)) ∧ HeapAt w' w.heap.size hb H ∧ Below w.heap.size w w' := by
  have hms := fun W => make_nodes W H.length (by omega)
  have hR0 := Lib.hid (R_start w w.heap.size H.length (Nat.le_refl _) (by omega))
  rw [← Sh.part_zero] at hR0
  obtain ⟨W1, hW1⟩ : ∃ W1, W1 = (w.alloc (.cells (Array.replicate (H.length * 2) (.slice none 0 0)) 95)).alloc (.cells #[.slice (some ⟨w.heap.size, 0, none⟩) H.length H.length] 124) := ⟨_, rfl⟩
  have hB1 := Lib.hid (show Below w.heap.size w W1 by rw [hW1]; exact ((Below.refl _ _).alloc (Nat.le_refl _) _).alloc (by rw [World.size_alloc]; omega) _)
  have hb1 := Lib.hid (show W1.heap[w.heap.size + 1]? = some (.cells #[.slice (some ⟨w.heap.size, 0, none⟩) H.length H.length] 124 (0, 0)) by
    rw [hW1]
    have := heap_alloc_new (w.alloc (.cells (Array.replicate (H.length * 2) (.slice none 0 0)) 95)) (.cells #[.slice (some ⟨w.heap.size, 0, none⟩) H.length H.length] 124)
    rwa [World.size_alloc] at this)
  have hR1 := Lib.hid (show Kd.R kSN 95 W1 w.heap.size (fun _ => True) (.slice (some ⟨w.heap.size, 0, none⟩) H.length H.length) (sn (Sh.part H 0)) by rw [hW1]; exact Kd.R_alloc hR0.out _)
  have hs1 := Lib.hid (show W1.heap.size = w.heap.size + 2 by rw [hW1, World.size_alloc, World.size_alloc])
  have hCh := Lib.hid hC
  have hbh := Lib.hid hbig
  clear hR0 hC hbig
  go_enter Tryz.func87, Tryz.ntmps87
  go_wp2
  rw [← hW1]
  clear hW1
  go_loopg [13] H.length (fun gg v13 wr => ∃ i : Nat, v13 = .int .i64 i ∧ i ≤ H.length ∧ Hid (gg + i = H.length) ∧ Hid (Below w.heap.size w wr) ∧ Hid (w.heap.size + 2 ≤ wr.heap.size) ∧ Hid (wr.heap[w.heap.size + 1]? = some (.cells #[.slice (some ⟨w.heap.size, 0, none⟩) H.length H.length] 124 (0, 0))) ∧ Hid (Kd.R kSN 95 wr w.heap.size (fun _ => True) (.slice (some ⟨w.heap.size, 0, none⟩) H.length H.length) (sn (Sh.part H i))))
  case atStart => exact ⟨0, rfl, Nat.zero_le _, Lib.hid rfl, hB1, Lib.hid (by have := hs1.out; omega), hb1, hR1⟩
  case round =>
    obtain ⟨i, rfl, hi, hg, hB, hsz, hbx, hR⟩ := hrel
    by_cases hlt : i < H.length
    · obtain ⟨ad, A0, c0, A1, c1, rfl, d0, d1, l0, g0, l1, g1⟩ := hCh.out.at i (by omega) (by omega)
      simp only [Int.toNat_natCast] at d0 d1
      have hsm := hbh.out _ (List.mem_of_getElem? (Sh.nd_there (Sh.there_iff.2 ⟨show (0 : Int) ≤ (i : Int) by omega, by omega⟩)))
      replace d0 := pw_cell_below hB.out d0
      replace d1 := pw_cell_below hB.out d1
      have hc0 := Lib.hid (fun W (hW : Below w.heap.size w W) => clone_calls A0 c0 _ W (Kd.C_below g0 hW) hsm.1)
      have hc1 := Lib.hid (fun W (hW : Below w.heap.size w W) => clone_calls A1 c1 _ W (Kd.C_below g1 hW) hsm.2)
      have hpn := Lib.hid (Sh.part_next H i hlt)
      generalize (Sh.nd H (i : Int)).1 = xs at *
      generalize (Sh.nd H (i : Int)).2 = ys at *
      obtain ⟨W2, hW2⟩ : ∃ W2, W2 = wr.alloc (.cells #[.slice A0 xs.length c0, .slice A1 ys.length c1] 95) := ⟨_, rfl⟩
      have hs2 := Lib.hid (show W2.heap.size = wr.heap.size + 1 by rw [hW2, World.size_alloc])
      have hB2 := Lib.hid (show Below wr.heap.size wr W2 by rw [hW2]; exact (Below.refl _ _).alloc (Nat.le_refl _) _)
      have hb2 := Lib.hid (show W2.heap[wr.heap.size]? = some (.cells #[.slice A0 xs.length c0, .slice A1 ys.length c1] 95 (0, 0)) by rw [hW2]; exact heap_alloc_new wr _)
      have hbx2 := Lib.hid (blk_below hbx.out hB2.out)
      have hR2 := Lib.hid (Kd.R_below hR.out hB2.out)
      obtain ⟨cs, hrow⟩ : ∃ cs, W2.heap[w.heap.size]? = some (.cells cs 95 (0, 0)) := own_typed (Kd.R_own hR2.out).choose_spec w.heap.size rfl
      obtain ⟨q0, q1, hq0, hq1⟩ := row_cells hR2.out i (by rw [sn_len, Sh.part_len H i hi]; exact hlt)
      have hglt := Lib.hid (show w.heap.size < W2.heap.size from blk_lt hrow)
      have hw2 := Lib.hid (show Below w.heap.size w W2 from Below.trans hB.out (hB2.out.mono (by have := hsz.out; omega)))
      have hk := Lib.hid (fun W (hW : Below W2.heap.size W2 W) => by
        have h1 : W.cell? ⟨w.heap.size + 1, 0, none⟩ = some (.slice (some ⟨w.heap.size, 0, none⟩) H.length H.length) := by rw [blk_cell (blk_below hbx2.out hW)]; rfl
        have h2 : W.cell? ⟨wr.heap.size, 0, none⟩ = some (.slice A0 xs.length c0) := by rw [blk_cell (blk_below hb2.out hW)]; rfl
        have h3 : W.cell? ⟨wr.heap.size, 1, none⟩ = some (.slice A1 ys.length c1) := by rw [blk_cell (blk_below hb2.out hW)]; rfl
        have h4 : W.frozen? ⟨w.heap.size, i * 2, none⟩ = false := blk_frozen (blk_below hrow hW) _
        have h5 : W.frozen? ⟨w.heap.size, i * 2 + 1, none⟩ = false := blk_frozen (blk_below hrow hW) _
        have h6 := heldAt_eq ((hW.cell (p := ⟨w.heap.size, i * 2, none⟩) hglt.out).trans hq0)
        have h7 := heldAt_eq ((hW.cell (p := ⟨w.heap.size, i * 2 + 1, none⟩) hglt.out).trans hq1)
        exact (⟨hw2.out.trans (hW.mono (by have := hs2.out; have := hsz.out; omega)), h1, h2, h3, h4, h5, h6, h7⟩ : _ ∧ _ ∧ _ ∧ _ ∧ _ ∧ _ ∧ _ ∧ _))
      have hst := Lib.hid (fun W (hW : Below W2.heap.size W2 W) (u0 u1 : Value) => by
        obtain ⟨k0, k1, k2, k3, _, _, _, _⟩ := hk.out W hW
        obtain ⟨c0', hc0'⟩ : ∃ cs', W.heap[w.heap.size]? = some (.cells cs' 95 (0, 0)) := ⟨_, blk_below hrow hW⟩
        have hn1 : w.heap.size + 1 ≠ w.heap.size := by omega
        have hn2 : wr.heap.size ≠ w.heap.size := by have := hsz.out; omega
        have hbk := blk_set (blk_set hc0' (i * 2) u0) (i * 2 + 1) u1
        obtain ⟨p0, p1, hp0, hp1⟩ := row_cells (Kd.R_below hR2.out hW) i (by rw [sn_len, Sh.part_len H i hi]; exact hlt)
        have hz : ∀ j, i * 2 ≤ j → j ≤ i * 2 + 1 → ∃ q, ((W.setCell ⟨w.heap.size, i * 2, none⟩ u0).setCell ⟨w.heap.size, i * 2 + 1, none⟩ u1).cell? ⟨w.heap.size, j, none⟩ = some q := fun j h1 h2 => by
          rw [blk_cell hc0'] at hp0 hp1
          rw [blk_cell hbk]
          have e0 : i * 2 < c0'.size := (Array.getElem?_eq_some_iff.1 hp0).1
          have e1 : i * 2 + 1 < c0'.size := (Array.getElem?_eq_some_iff.1 hp1).1
          exact ⟨_, Array.getElem?_eq_getElem (by rw [Array.size_setIfInBounds, Array.size_setIfInBounds]; omega)⟩
        obtain ⟨z0, hz0⟩ := hz (i * 2) (Nat.le_refl _) (by omega)
        obtain ⟨z1, hz1⟩ := hz (i * 2 + 1) (by omega) (Nat.le_refl _)
        have h1 : ((W.setCell ⟨w.heap.size, i * 2, none⟩ u0).setCell ⟨w.heap.size, i * 2 + 1, none⟩ u1).cell? ⟨w.heap.size + 1, 0, none⟩ = some (.slice (some ⟨w.heap.size, 0, none⟩) H.length H.length) := by
          rw [World.cell?_of_block (w := W) (by rw [Below.heap_setCell _ _ _ _ (by exact hn1), Below.heap_setCell _ _ _ _ (by exact hn1)])]
          exact k1
        have h2 : ((W.setCell ⟨w.heap.size, i * 2, none⟩ u0).setCell ⟨w.heap.size, i * 2 + 1, none⟩ u1).cell? ⟨wr.heap.size, 0, none⟩ = some (.slice A0 xs.length c0) := by
          rw [World.cell?_of_block (w := W) (by rw [Below.heap_setCell _ _ _ _ (by exact hn2), Below.heap_setCell _ _ _ _ (by exact hn2)])]
          exact k2
        have h3 : ((W.setCell ⟨w.heap.size, i * 2, none⟩ u0).setCell ⟨w.heap.size, i * 2 + 1, none⟩ u1).cell? ⟨wr.heap.size, 1, none⟩ = some (.slice A1 ys.length c1) := by
          rw [World.cell?_of_block (w := W) (by rw [Below.heap_setCell _ _ _ _ (by exact hn2), Below.heap_setCell _ _ _ _ (by exact hn2)])]
          exact k3
        exact (⟨(k0.setCell (p := ⟨w.heap.size, i * 2, none⟩) (Nat.le_refl _) u0).setCell (p := ⟨w.heap.size, i * 2 + 1, none⟩) (Nat.le_refl _) u1, h1, h2, h3, blk_frozen hbk (i * 2), blk_frozen hbk (i * 2 + 1), heldAt_eq hz0, heldAt_eq hz1⟩ : _ ∧ _ ∧ _ ∧ _ ∧ _ ∧ _ ∧ _ ∧ _))
      have hd2 := Lib.hid (show Below W2.heap.size W2 W2.drew from (Below.refl _ _).drew)
      have hbb := Lib.hid (fun W (hW : Below W2.heap.size W2 W) => blk_below hbx2.out hW)
      clear hR hbx hb2 hbx2 g0 g1 hsm hrow hq0 hq1
      go_wp2
      rw [← hW2]
      clear hW2
      go_region_held3 (fun W' => Below w.heap.size w W' ∧ W'.cell? ⟨w.heap.size + 1, 0, none⟩ = some (.slice (some ⟨w.heap.size, 0, none⟩) H.length H.length) ∧ W'.cell? ⟨wr.heap.size, 0, none⟩ = some (.slice A0 xs.length c0) ∧ W'.cell? ⟨wr.heap.size, 1, none⟩ = some (.slice A1 ys.length c1) ∧ W'.frozen? ⟨w.heap.size, i * 2, none⟩ = false ∧ W'.frozen? ⟨w.heap.size, i * 2 + 1, none⟩ = false ∧ W'.cell? ⟨w.heap.size, i * 2, none⟩ = some (heldAt w.heap.size (i * 2) W') ∧ W'.cell? ⟨w.heap.size, i * 2 + 1, none⟩ = some (heldAt w.heap.size (i * 2 + 1) W'))
        (first
          | exact hk.out _ (by assumption)
          | exact hk.out _ hd2.out
          | exact hst.out _ (by assumption) _ _
          | fail)
        (first
          | (go_at_call 76; refine (hc0.out _ (by first | exact (hk.out _ (by assumption)).1 | exact (hk.out _ hd2.out).1)).mono ?_; rintro e w3 ⟨v0, rfl, o0, hb3⟩; obtain ⟨A5, c5, rfl⟩ := Kd.R_slice o0; have hB3 : Below W2.heap.size W2 w3 := Below.trans hd2.out hb3; replace o0 := Lib.hid o0; replace hb3 := Lib.hid hb3)
          | (go_at_call 76; refine (hc1.out _ (by first | exact (hk.out _ (by assumption)).1 | exact (hk.out _ hd2.out).1)).mono ?_; rintro e w4 ⟨v1, rfl, o1, hb4⟩; obtain ⟨A6, c6, rfl⟩ := Kd.R_slice o1; have hB4 : Below W2.heap.size W2 w4 := Below.trans (show Below W2.heap.size W2 w3 from by assumption) (hb4.mono (Below.size (show Below W2.heap.size W2 w3 from by assumption))); replace o1 := Lib.hid o1; replace hb4 := Lib.hid hb4))
      replace hB4 := Lib.hid (show Below W2.heap.size W2 w4 from by assumption)
      have hg2 : w.heap.size + 1 ≤ W2.heap.size := by have := hglt.out; omega
      have p0 : Kd.R kI 3 w4 w.heap.size (fun k => k ≠ w.heap.size) (.slice A5 xs.length c5) xs := by
        have := Kd.R_mono (Kd.R_bound o0.out) (ok' := fun k => k ≠ w.heap.size) (fun k hk he => by have h9 : W2.drew.heap.size ≤ k := hk.2.1; have h8 : W2.drew.heap.size = W2.heap.size := rfl; omega)
        exact Kd.R_lower (Kd.R_below this hb4.out) (by show w.heap.size ≤ W2.heap.size; omega)
      have p1 : Kd.R kI 3 w4 w.heap.size (fun k => k ≠ w.heap.size) (.slice A6 ys.length c6) ys := by
        have h7 : W2.heap.size ≤ w3.heap.size := hb3.out.size
        have := Kd.R_mono (Kd.R_bound o1.out) (ok' := fun k => k ≠ w.heap.size) (fun k hk he => by have h9 : w3.heap.size ≤ k := hk.2.1; omega)
        exact Kd.R_lower this (by omega)
      have hRn := Lib.hid (R_elem (Kd.R_below hR2.out hB4.out) i (by rw [sn_len, Sh.part_len H i hi]; exact hlt) ⟨xs, ys⟩ _ _ p0 p1)
      rw [hpn.out] at hRn
      have hBn := Lib.hid (((hw2.out.trans (hB4.out.mono (by omega))).setCell (p := ⟨w.heap.size, i * 2, none⟩) (Nat.le_refl _) (.slice A5 xs.length c5)).setCell (p := ⟨w.heap.size, i * 2 + 1, none⟩) (Nat.le_refl _) (.slice A6 ys.length c6))
      have hszn := Lib.hid (show w.heap.size + 2 ≤ ((w4.setCell ⟨w.heap.size, i * 2, none⟩ (.slice A5 xs.length c5)).setCell ⟨w.heap.size, i * 2 + 1, none⟩ (.slice A6 ys.length c6)).heap.size by
        have h5 := hB4.out.size
        have h6 := hs2.out
        have h7 := hsz.out
        rw [World.size_setCell, World.size_setCell]
        omega)
      have hbn := Lib.hid (show ((w4.setCell ⟨w.heap.size, i * 2, none⟩ (.slice A5 xs.length c5)).setCell ⟨w.heap.size, i * 2 + 1, none⟩ (.slice A6 ys.length c6)).heap[w.heap.size + 1]? = some (.cells #[.slice (some ⟨w.heap.size, 0, none⟩) H.length H.length] 124 (0, 0)) from
        blk_far (blk_far (hbb.out _ hB4.out) (by show w.heap.size + 1 ≠ w.heap.size; omega) _) (by show w.heap.size + 1 ≠ w.heap.size; omega) _)
      clear p0 p1
      go_wp2
      go_roundg (H.length - (i + 1))
      case measure => have := hg.out; omega
      case rel => exact ⟨i + 1, by go_num, by omega, Lib.hid (by omega), hBn, hszn, hbn, hRn⟩
    · have hi2 : i = H.length := by omega
      subst hi2
      go_wp2
      go_ret
      refine ⟨_, rfl, ⟨by omega, _, hbx.out, ?_⟩, hB.out⟩
      have := hR.out
      rwa [Sh.part_all] at this
end Go.Proofs.YtbfedeedicnedaaGreat
end
section
namespace Go.Proofs.YtbfedeedicnedaaGreat
open Go.RowKit
open Go.Proofs.YtbfedeedicnedaaGreatW.PrintWords
namespace Sh
def wordP (ws : List Nat) (x : Nat) : List Nat := ws.set (x / 32) (ws.getD (x / 32) 0 ||| 2 ^ (x % 32))
def wordsP (l : List Int) : List Nat := l.foldl (fun ws x => wordP ws x.toNat) (List.replicate 32 0)
def pageP : Nat → Hp → List Int → List Nat → Hp × List Int
  | _, H, ks, [] => (H, ks)
  | i, H, ks, w :: ws => if w = 0 then pageP (i + 1) H ks ws else pageP (i + 1) (H ++ [([(w : Int)], [])]) (ks.set i H.length) ws
def layP (H : Hp) (l : List Int) : Hp × Int :=
  ((pageP 0 H (List.replicate 32 (-1)) (wordsP l)).1 ++ [([], (pageP 0 H (List.replicate 32 (-1)) (wordsP l)).2)], (pageP 0 H (List.replicate 32 (-1)) (wordsP l)).1.length)
theorem words_at (l : List Int) (k : Nat) (h : k < l.length) : wordsP (l.take (k + 1)) = wordP (wordsP (l.take k)) (gi l k).toNat := by
  unfold wordsP
  rw [List.take_succ_eq_append_getElem h, List.foldl_append]
  unfold gi
  rw [List.getD_eq_getElem?_getD, List.getElem?_eq_getElem h]
  rfl
theorem wordP_len (ws : List Nat) (x : Nat) : (wordP ws x).length = ws.length := by unfold wordP; rw [List.length_set]
theorem wordP_lt (ws : List Nat) (x : Nat) (h : ∀ w ∈ ws, w < 2 ^ 32) : ∀ w ∈ wordP ws x, w < 2 ^ 32 := by
  intro w hw
  unfold wordP at hw
  rcases List.mem_or_eq_of_mem_set hw with h1 | h1
  · exact h w h1
  · rw [h1]
    refine Nat.or_lt_two_pow ?_ (Nat.pow_lt_pow_right (by omega) (by omega))
    rw [List.getD_eq_getElem?_getD]
    rcases hq : ws[x / 32]? with _ | q
    · exact Nat.two_pow_pos 32
    · exact h q (List.mem_of_getElem? hq)
theorem words_ok (l : List Int) : (wordsP l).length = 32 ∧ ∀ w ∈ wordsP l, w < 2 ^ 32 := by
  unfold wordsP
  suffices h : ∀ (l : List Int) (ws : List Nat), ws.length = 32 ∧ (∀ w ∈ ws, w < 2 ^ 32) → (l.foldl (fun ws x => wordP ws x.toNat) ws).length = 32 ∧ ∀ w ∈ l.foldl (fun ws x => wordP ws x.toNat) ws, w < 2 ^ 32 from
    h l _ ⟨by simp, fun w hw => by rw [List.eq_of_mem_replicate hw]; exact Nat.two_pow_pos 32⟩
  intro l
  induction l with
  | nil => intro ws h; exact h
  | cons x l ih => intro ws h; exact ih _ ⟨by rw [wordP_len]; exact h.1, wordP_lt ws _ h.2⟩
end Sh
def wordCells (ws : List Nat) : Array Value := (ws.map fun (w : Nat) => Value.int .i64 (w : Int)).toArray
theorem wordCells_get (ws : List Nat) (j : Nat) (h : j < ws.length) : (wordCells ws)[j]? = some (.int .i64 (ws.getD j 0 : Nat)) := by
  unfold wordCells
  simp [List.getD_eq_getElem?_getD, List.getElem?_eq_getElem h]
theorem wordCells_set (ws : List Nat) (j v : Nat) : (wordCells ws).setIfInBounds j (.int .i64 (v : Int)) = wordCells (ws.set j v) := by
  unfold wordCells
  simp [List.map_set]
theorem HeapOk.far {w : World} {base hb g : Nat} {H : Sh.Hp} {ok : Nat → Prop} {cs : Array Value} (h : HeapOk w base hb H ok) (hg : w.heap[g]? = some (.cells cs 3 (0, 0))) (hok : ∀ k, ok k → k ≠ g) (j : Nat) (u : Value) : HeapOk (w.setCell ⟨g, j, none⟩ u) base hb H ok := by
  obtain ⟨h0, v, hv, hr⟩ := h
  have hne : hb ≠ g := fun e => by rw [e, hg] at hv; simp at hv
  exact ⟨h0, v, blk_far hv hne u, Kd.R_far hr hok u⟩
theorem ints_cell {w : World} {g : Nat} {l : List Int} (h : w.heap[g]? = some (.cells (l.map fun (x : Int) => Value.int .i64 x).toArray 3 (0, 0))) (i : Nat) (hi : i < l.length) : w.cell? ⟨g, i, none⟩ = some (.int .i64 (Sh.gi l i)) := by
  rw [blk_cell h]
  unfold Sh.gi
  simp [List.getD_eq_getElem?_getD, List.getElem?_eq_getElem hi]
theorem ints_set {w : World} {g : Nat} {l : List Int} (h : w.heap[g]? = some (.cells (l.map fun (x : Int) => Value.int .i64 x).toArray 3 (0, 0))) (i : Nat) (x : Int) : (w.setCell ⟨g, i, none⟩ (.int .i64 x)).heap[g]? = some (.cells ((l.set i x).map fun (x : Int) => Value.int .i64 x).toArray 3 (0, 0)) := by
  rw [blk_set h]
  congr 2
  simp [List.map_set]
theorem pageP_at (i : Nat) (H : Sh.Hp) (ks : List Int) (ws : List Nat) (h : i < ws.length) : Sh.pageP i H ks (ws.drop i) = if ws.getD i 0 = 0 then Sh.pageP (i + 1) H ks (ws.drop (i + 1)) else Sh.pageP (i + 1) (H ++ [([((ws.getD i 0 : Nat) : Int)], [])]) (ks.set i H.length) (ws.drop (i + 1)) := by
  rw [List.drop_eq_getElem_cons h, List.getD_eq_getElem?_getD, List.getElem?_eq_getElem h]
  rfl
theorem index_words {ws : List Nat} (hl : ws.length = 32) (i : Nat) (hi : i < 32) (W : World) : (Instr.index 197 (.agg (wordCells ws)) (.int .i64 i)).run Tryz.prog W = .ok (.int .i64 (ws.getD i 0 : Nat)) W := by
  have hg := wordCells_get ws i (by omega)
  have h1 : ¬ ((i : Int) < 0 ∨ 32 ≤ (i : Int)) := by omega
  simp [Instr.index, run_underlying Tryz.underlying197, asIntOf, go_sem]
  rw [if_pos hi, hg, List.getD_eq_getElem?_getD]
  rfl
theorem ints_row {w : World} {base g n : Nat} {l : List Int} (h : w.heap[g]? = some (.cells (l.map fun (x : Int) => Value.int .i64 x).toArray 3 (0, 0))) (hb : base ≤ g) (hn : l.length = n) (hs : n ≤ 1000000) : Ints w base (.slice (some ⟨g, 0, none⟩) n n) l := by
  subst hn
  refine Ints.mk ⟨by simp [nums], .inr ⟨g, l.length, _, rfl, hb, h, Nat.le_refl _, by simp [maxLen]; omega, by simp, ?_⟩⟩
  rw [Nat.mul_one, List.toList_toArray, List.take_of_length_le (by rw [List.length_map]; exact Nat.le_refl _)]
  rfl
set_option maxRecDepth 100000 in
set_option maxHeartbeats 1000000 in
theorem play_calls (base hb : Nat) (H : Sh.Hp) (w : World) (hH : HeapAt w base hb H) (l : List Int) (A : Option Addr) (c : Nat) (hL : Low w base A l) (hn : l.length ≤ 5000) (hx : ∀ x ∈ l, 0 ≤ x ∧ x ≤ 1023) (hl : H.length ≤ 500000) :
    Calls Tryz.prog 167 #[.agg #[], .pointer (some ⟨hb, 0, none⟩), .slice A l.length c] w fun e w' => e = .returned (.int .i64 (Sh.layP H l).2) ∧ HeapAt w' base hb (Sh.layP H l).1 ∧ Below base w w' := by
  have hsz : base ≤ w.heap.size := by have := hH.1; have := hH.lt; omega
  obtain ⟨W1, hW1⟩ : ∃ W1, W1 = (w.alloc (.cells #[] 155)).alloc (.cells (wordCells (List.replicate 32 0)) 197) := ⟨_, rfl⟩
  have hB1 := Lib.hid (show Below w.heap.size w W1 by rw [hW1]; exact ((Below.refl _ _).alloc (Nat.le_refl _) _).alloc (by rw [World.size_alloc]; omega) _)
  have hr1 := Lib.hid (show W1.heap[w.heap.size + 1]? = some (.cells (wordCells (List.replicate 32 0)) 197 (0, 0)) by
    rw [hW1]
    have := heap_alloc_new (w.alloc (.cells #[] 155)) (.cells (wordCells (List.replicate 32 0)) 197)
    rwa [World.size_alloc] at this)
  have hs1 := Lib.hid (show W1.heap.size = w.heap.size + 2 by rw [hW1, World.size_alloc, World.size_alloc])
  have hLh := Lib.hid hL
  have hxh := Lib.hid (fun k (h : k < l.length) => hx (Sh.gi l k) (by unfold Sh.gi; rw [List.getD_eq_getElem?_getD, List.getElem?_eq_getElem h]; exact List.getElem_mem h))
  have hHh := Lib.hid hH
  obtain ⟨RS, hRS⟩ : ∃ RS, RS = Sh.layP H l := ⟨_, rfl⟩
  rw [← hRS]
  replace hRS := Lib.hid hRS
  obtain ⟨n, hn'⟩ : ∃ n, n = l.length := ⟨_, rfl⟩
  rw [← hn'] at hn ⊢
  replace hn' := Lib.hid hn'
  clear hH hL hx
  go_enter Tryz.func167, Tryz.ntmps167
  go_wp2
  rw [show ((w.alloc (.cells #[] 155)).alloc (.cells #[.int .i64 0, .int .i64 0, .int .i64 0, .int .i64 0, .int .i64 0, .int .i64 0, .int .i64 0, .int .i64 0, .int .i64 0, .int .i64 0, .int .i64 0, .int .i64 0, .int .i64 0, .int .i64 0, .int .i64 0, .int .i64 0, .int .i64 0, .int .i64 0, .int .i64 0, .int .i64 0, .int .i64 0, .int .i64 0, .int .i64 0, .int .i64 0, .int .i64 0, .int .i64 0, .int .i64 0, .int .i64 0, .int .i64 0, .int .i64 0, .int .i64 0, .int .i64 0] 197)) = W1 by rw [hW1]; rfl]
  clear hW1
  go_loopg [15] n (fun gg v15 wr => ∃ k : Nat, v15 = .int .i64 k ∧ k ≤ n ∧ Hid (gg + k = n) ∧ Hid (Below w.heap.size w wr) ∧ Hid (w.heap.size + 2 ≤ wr.heap.size) ∧ Hid (wr.heap[w.heap.size + 1]? = some (.cells (wordCells (Sh.wordsP (l.take k))) 197 (0, 0))))
  case atStart => exact ⟨0, rfl, Nat.zero_le _, Lib.hid rfl, hB1, Lib.hid (by have := hs1.out; omega), hr1⟩
  case round =>
    obtain ⟨k, rfl, hk, hg, hB, hsr, hrow⟩ := hrel
    by_cases hlt : k < n
    · obtain ⟨ad0, rfl, e0⟩ := at_int (hLh.out wr (hB.out.mono hsz)) k (by omega) (by have := hn'.out; omega)
      rw [Int.toNat_natCast] at e0
      obtain ⟨x0, x1⟩ := hxh.out k (by have := hn'.out; omega)
      have hnx := Sh.words_at l k (by have := hn'.out; omega)
      obtain ⟨x, hxx⟩ : ∃ x, x = Sh.gi l k := ⟨_, rfl⟩
      rw [← hxx] at e0 hnx x0 x1
      obtain ⟨xn, rfl⟩ := Int.eq_ofNat_of_zero_le x0
      rw [Int.toNat_natCast] at hnx
      obtain ⟨hwl, hwb⟩ := Sh.words_ok (l.take k)
      replace hxx := Lib.hid hxx
      generalize Sh.wordsP (l.take k) = ws at *
      have hq32 : xn / 32 < 32 := by omega
      have hcq : wr.cell? ⟨w.heap.size + 1, xn / 32, none⟩ = some (.int .i64 (ws.getD (xn / 32) 0 : Nat)) := by rw [blk_cell hrow.out]; exact wordCells_get ws _ (by omega)
      have hfz : wr.frozen? ⟨w.heap.size + 1, xn / 32, none⟩ = false := blk_frozen hrow.out _
      have hbd : ws.getD (xn / 32) 0 < 2 ^ 32 := by
        rw [List.getD_eq_getElem?_getD]
        rcases hq : ws[xn / 32]? with _ | q
        · exact Nat.two_pow_pos 32
        · exact hwb q (List.mem_of_getElem? hq)
      obtain ⟨q, hq⟩ : ∃ q, q = xn / 32 := ⟨_, rfl⟩
      obtain ⟨r, hr⟩ : ∃ r, r = xn % 32 := ⟨_, rfl⟩
      have hq1 : ((xn : Int)).tdiv 32 = (q : Int) := by rw [Int.tdiv_eq_ediv_of_nonneg (by omega)]; omega
      have hq2 : ((xn : Int)) / 32 = (q : Int) := by omega
      have hr1 : ((xn : Int)).tmod 32 = (r : Int) := by rw [Int.tmod_eq_emod_of_nonneg (by omega)]; omega
      have hr2 : ((xn : Int)) % 32 = (r : Int) := by omega
      have hr32 : r < 32 := by omega
      have hqi : (0 : Int) ≤ (q : Int) := by omega
      have hqj : (q : Int) < 32 := by omega
      have hri : (0 : Int) ≤ (r : Int) := by omega
      have hrj : (r : Int) < 32 := by omega
      have hxi : (0 : Int) ≤ (xn : Int) / 32 := by omega
      have hxj : (xn : Int) / 32 < 32 := by omega
      unfold Sh.wordP at hnx
      rw [← hq] at hq32 hcq hfz hbd hnx
      rw [← hr] at hnx
      obtain ⟨v, hv⟩ : ∃ v, v = ws.getD q 0 := ⟨_, rfl⟩
      rw [← hv] at hcq hbd hnx
      have hfd : wr.drew.frozen? ⟨w.heap.size + 1, q, none⟩ = false := hfz
      have hwq : IntKind.i64.wrap (q : Int) = (q : Int) := IntWalk.i64_in _ (by omega)
      have hwr : IntKind.i64.wrap (r : Int) = (r : Int) := IntWalk.i64_in _ (by omega)
      obtain ⟨pw, hpw⟩ : ∃ pw, pw = 2 ^ r := ⟨_, rfl⟩
      have hpb : pw < 4294967296 := by
        have h9 : 2 ^ r < 2 ^ 32 := Nat.pow_lt_pow_right (by omega) hr32
        rw [← hpw] at h9
        exact h9
      have hvb : v < 4294967296 := hbd
      have hpi : (2 : Int) ^ r = (pw : Int) := by rw [hpw]; exact (Int.natCast_pow 2 r).symm
      rw [← hpw] at hnx
      replace hpw := Lib.hid hpw
      have hw64 : wrap64 (pw : Int) = (pw : Int) := by unfold wrap64; omega
      obtain ⟨u, hu⟩ : ∃ u, u = v ||| pw := ⟨_, rfl⟩
      have hor : bits BinOp.or IntKind.i64 (v : Int) (pw : Int) = (u : Int) := by
        rw [hu]
        exact (bits_nat .i64 62 (by decide) (fun m h0 h1 => IntWalk.i64_in _ (by omega)) v pw (Nat.lt_trans hvb (by decide)) (Nat.lt_trans hpb (by decide))).2
      replace hpi := Lib.hid hpi
      replace hw64 := Lib.hid hw64
      replace hor := Lib.hid (show bits BinOp.or IntKind.i64 (v : Int) (wrap64 (2 ^ r)) = (u : Int) by rw [hpi.out, hw64.out]; exact hor)
      rw [← hu] at hnx
      have hrn := Lib.hid (blk_set (w := wr.drew) hrow.out q (.int .i64 (u : Int)))
      rw [wordCells_set, ← hnx] at hrn
      have hBn := Lib.hid ((hB.out.drew).setCell (p := ⟨w.heap.size + 1, q, none⟩) (by show w.heap.size ≤ w.heap.size + 1; omega) (.int .i64 (u : Int)))
      have hsn := Lib.hid (show w.heap.size + 2 ≤ (wr.drew.setCell ⟨w.heap.size + 1, q, none⟩ (.int .i64 (u : Int))).heap.size by rw [World.size_setCell]; exact hsr.out)
      rw [← hor.out] at hrn hBn hsn
      clear hu hbd hwr hpb hvb
      have hcd : wr.drew.cell? ⟨w.heap.size + 1, q, none⟩ = some (.int .i64 v) := hcq
      replace hnx := Lib.hid hnx
      replace hwb := Lib.hid hwb
      replace hwl := Lib.hid hwl
      replace hv := Lib.hid hv
      clear hq hr hfz hcq
      go_wp2
      go_still_tail 8, (by kernel_rfl)
      change wpList _ _ _ _ _ wr.drew
      go_wp2
      go_roundg (n - (k + 1))
      case measure => have := hg.out; omega
      case rel => exact ⟨k + 1, by go_num, by omega, Lib.hid (by omega), hBn, hsn, hrn⟩
    · have hkn : k = n := by omega
      subst hkn
      have hws : l.take k = l := List.take_of_length_le (by have := hn'.out; omega)
      rw [hws] at hrow
      obtain ⟨hwl, hwb⟩ := Sh.words_ok l
      obtain ⟨FI, hFI⟩ : ∃ FI, FI = Sh.pageP 0 H (List.replicate 32 (-1)) (Sh.wordsP l) := ⟨_, rfl⟩
      have hres : Sh.layP H l = (FI.1 ++ [([], FI.2)], ((FI.1.length : Nat) : Int)) := by rw [hFI]; rfl
      obtain rfl : RS = (FI.1 ++ [([], FI.2)], ((FI.1.length : Nat) : Int)) := by rw [hRS.out, hres]
      clear hres
      generalize Sh.wordsP l = ws at *
      replace hFI := Lib.hid hFI
      have hix := fun i hi W => index_words hwl i hi W
      obtain ⟨W2, hW2⟩ : ∃ W2, W2 = wr.alloc (.cells #[.int .i64 (-1)] 3) := ⟨_, rfl⟩
      have hs2 := Lib.hid (show W2.heap.size = wr.heap.size + 1 by rw [hW2, World.size_alloc])
      have hB2 := Lib.hid (show Below wr.heap.size wr W2 by rw [hW2]; exact (Below.refl _ _).alloc (Nat.le_refl _) _)
      have hrp := Lib.hid (repeat_calls wr.heap.size 32 (-1) W2 (by rw [hW2]; simp) (by omega) (by omega))
      clear hws
      go_wp2_with fail
      rw [← hW2]
      clear hW2
      refine (hrp.out).mono ?_
      rintro e w3 ⟨gq, rfl, hrk, hgk, hbk⟩
      have hwr3 := Lib.hid (Below.trans hB2.out (hbk.mono (by have := hs2.out; omega)))
      have hl3 := Lib.hid (blk_below hrow.out hwr3.out)
      have hwsz : (wordCells ws).size = 32 := by unfold wordCells; simp [hwl]
      replace hwsz := Lib.hid hwsz
      have hB3 := Lib.hid (show Below w.heap.size w w3 from hB.out.trans (hwr3.out.mono (by have := hsr.out; omega)))
      have hgb := Lib.hid (show w.heap.size + 2 ≤ gq by have := hsr.out; have := hs2.out; omega)
      have hH3 := Lib.hid (show HeapOk w3 base hb H (fun k => k ≠ gq) from (HeapAt.ok (hHh.out.step hB3.out)).mono (fun k _ _ => trivial) |>.mono (fun k _ _ => trivial) |> fun h => (show HeapOk w3 base hb H (fun k => k ≠ gq) from by
        obtain ⟨h0, v, hv, hr⟩ := hHh.out
        have hr2 := Kd.R_mono (Kd.R_bound hr) (ok' := fun k => k ≠ gq) (fun k hk he => by have := hk.2.2.1; have := hgb.out; omega)
        exact ⟨h0, v, (hB3.out.block hb (blk_lt hv)).trans hv, Kd.R_below hr2 hB3.out⟩))
      have hrk2 := Lib.hid (show w3.heap[gq]? = some (.cells ((List.replicate 32 (-1 : Int)).map fun (x : Int) => Value.int .i64 x).toArray 3 (0, 0)) by rw [hrk]; rfl)
      clear hrk hbk hrow
      go_wp2_with (refine wpList_load_row rfl 197 _ rfl (w.heap.size + 1) rfl 197 (wordCells ws) (0, 0) _ hl3.out Tryz.underlying197 rfl (by rw [hwsz.out]; kernel_rfl) ?_)
      go_loopg [32] 32 (fun gg v32 w4 => ∃ (i : Nat) (H2 : Sh.Hp) (ks : List Int), v32 = .int .i64 i ∧ i ≤ 32 ∧ Hid (gg + i = 32) ∧ Hid (HeapOk w4 base hb H2 (fun k => k ≠ gq)) ∧ Hid (w4.heap[gq]? = some (.cells (ks.map fun (x : Int) => Value.int .i64 x).toArray 3 (0, 0))) ∧ Hid (ks.length = 32) ∧ Hid (Below base w w4) ∧ Hid (gq < w4.heap.size) ∧ H2.length ≤ 500000 + i ∧ Hid (FI = Sh.pageP i H2 ks (ws.drop i)))
      case atStart => exact ⟨0, H, _, rfl, by omega, Lib.hid rfl, hH3, hrk2, Lib.hid (by simp), Lib.hid (hB3.out.mono hsz), Lib.hid (blk_lt hrk2.out), by omega, hFI⟩
      case round =>
        obtain ⟨i, H2, ks, rfl, hi, hg5, hH5, hk5, hkl, hB5, hgs, hl5, hF5⟩ := hrel
        by_cases hlt5 : i < 32
        · have hst := pageP_at i H2 ks ws (by omega)
          have hixi := hix i hlt5
          have hwv : ws.getD i 0 < 4294967296 := by
            have h9 : ws.getD i 0 < 2 ^ 32 := by
              rw [List.getD_eq_getElem?_getD, List.getElem?_eq_getElem (by omega)]
              exact hwb _ (List.getElem_mem _)
            exact h9
          generalize ws.getD i 0 = wv at *
          rw [hst] at hF5
          replace hF5 := hF5.out
          by_cases hz : wv = 0
          · rw [if_pos hz] at hF5
            replace hF5 := Lib.hid hF5
            have hzb : ((wv : Int) != 0) = false := bne_eq_false_iff_eq.mpr (by omega)
            replace hst := Lib.hid hst
            clear hz hix
            go_wp2
            go_roundg (32 - (i + 1))
            case measure => have := hg5.out; omega
            case rel => exact ⟨i + 1, H2, ks, by go_num, by omega, Lib.hid (by omega), hH5, hk5, hkl, hB5, hgs, by omega, hF5⟩
          · rw [if_neg hz] at hF5
            replace hF5 := Lib.hid hF5
            replace hst := Lib.hid hst
            have hzb : ((wv : Int) != 0) = true := bne_iff_ne.mpr (by omega)
            have hbs : base ≤ wr.heap.size := by have := (hH5.out).1; have := hH5.out.lt; omega
            have hBa := Lib.hid (hB5.out.alloc hbs (.cells #[.int .i64 wv] 3))
            have hka := Lib.hid (blk_alloc hk5.out (.cells #[.int .i64 wv] 3))
            have hli := Lib.hid (show Kd.R kI 3 (wr.alloc (.cells #[.int .i64 wv] 3)) base (fun k => k ≠ gq) (.slice (some ⟨wr.heap.size, 0, none⟩) 1 1) [(wv : Int)] from
              Kd.R_reok rfl (lit_ints wr base [(wv : Int)] #[.int .i64 wv] 1 hbs (by simp) rfl rfl) (fun k hk => by cases hk; have := hgs.out; show wr.heap.size ≠ gq; omega))
            have hadd := Lib.hid (add_ok base hb H2 [(wv : Int)] [] (.slice (some ⟨wr.heap.size, 0, none⟩) 1 1) (.slice none 0 0) (wr.alloc (.cells #[.int .i64 wv] 3)) (fun k => k ≠ gq) (fun k hk => by rw [World.size_alloc] at hk; have := hgs.out; omega) (hH5.out.step ((Below.refl _ _).alloc (Nat.le_refl _) _)) hli.out (Kd.R_nil _ _ _ _ _) (by omega))
            clear hz hix hbs
            go_wp2_with fail
            refine (hadd.out).mono ?_
            rintro e w5 ⟨rfl, hH6, hB6, hK6⟩
            have hk6 := hK6 gq _ hka.out
            have u1 := ints_cell hk6 i (by have := hkl.out; omega)
            have u2 := blk_frozen hk6 i
            have hB7 := Lib.hid ((hBa.out.trans hB6).setCell (p := ⟨gq, i, none⟩) (by have := hgb.out; show base ≤ gq; omega) (.int .i64 (H2.length : Int)))
            have hH7 := Lib.hid (hH6.far hk6 (fun k hk => hk) i (.int .i64 (H2.length : Int)))
            have hk7 := Lib.hid (ints_set hk6 i (H2.length : Int))
            have hg7 := Lib.hid (show gq < (w5.setCell ⟨gq, i, none⟩ (.int .i64 (H2.length : Int))).heap.size by rw [World.size_setCell]; exact blk_lt hk6)
            generalize Sh.gi ks i = yy at u1
            clear hH6 hB6 hK6 hk6
            go_wp2
            go_roundg (32 - (i + 1))
            case measure => have := hg5.out; omega
            case rel => exact ⟨i + 1, _, _, by go_num, by omega, Lib.hid (by omega), hH7, hk7, Lib.hid (by rw [List.length_set]; exact hkl.out), hB7, hg7, by simp; omega, hF5⟩
        · have hF6 : FI = (H2, ks) := by
            rw [hF5.out, List.drop_of_length_le (by omega)]
            unfold Sh.pageP
            rfl
          replace hF6 := Lib.hid hF6
          have hadd := Lib.hid (add_ok base hb H2 [] ks (.slice none 0 0) (.slice (some ⟨gq, 0, none⟩) 32 32) wr (fun _ => True) (fun _ _ => trivial) (hH5.out.mono (fun _ _ _ => trivial)) (Kd.R_nil _ _ _ _ _) (ints_row hk5.out (by have := hgb.out; omega) hkl.out (by omega)) (by omega))
          clear hix
          go_wp2_with fail
          refine (hadd.out).mono ?_
          rintro e w5 ⟨rfl, hH6, hB6, _⟩
          have hH7 := Lib.hid hH6.at
          have hB7 := Lib.hid (hB5.out.trans hB6)
          clear hH6 hB6
          obtain rfl := hF6.out
          go_wp2
          go_ret
          exact ⟨rfl, hH7.out, hB7.out⟩
end Go.Proofs.YtbfedeedicnedaaGreat
end
