/-
  Texts of this claim: ShS, ShL, ShM, ShP.
-/
import Derived.Test.YtbfedeedicnedaaGreatSe08
import Derived.Test.YtbfedeedicnedaaGreatSe09
import Derived.Sort.OwnSortedInts
set_option linter.unusedVariables false
set_option linter.unusedSimpArgs false
section
namespace Go.Proofs.YtbfedeedicnedaaGreat
open Go.RowKit Go.Sort
open Go.Proofs.YtbfedeedicnedaaGreatW.PrintWords
theorem Ints.cases {w : World} {base : Nat} {v : Value} {l : List Int} (h : Ints w base v l) :
    (v = .slice none 0 0 ∧ l = []) ∨ ∃ g cap cur, v = .slice (some ⟨g, 0, none⟩) l.length cap ∧ base ≤ g ∧ w.heap[g]? = some (.cells cur 3 (0, 0)) ∧ l.length ≤ cap ∧ cap ≤ maxLen ∧ cur.size = cap * 1 ∧ cur.toList.take l.length = l.map (Value.int .i64) := by
  rcases h.own.2 with ⟨h0, h1⟩ | ⟨g, cap, cur, h0, h1, h2, h3, h4, h5, h6⟩
  · exact .inl ⟨h0, List.length_eq_zero_iff.1 h1⟩
  · refine .inr ⟨g, cap, cur, h0, h1, h2, h3, h4, h5, ?_⟩
    rw [Nat.mul_one] at h6
    exact h6
theorem grown_below {w w' : World} {base g : Nat} (hg : w.grownBy w' (some g)) (h : base ≤ g) (hs : g < w.heap.size) : Below base w w' :=
  ⟨hg.os, hg.tape, hg.output, hg.size, fun k hk => hg.block k (by omega) (by simp; omega)⟩
theorem sort_calls {base : Nat} {v : Value} {l : List Int} {w : World} (h : Ints w base v l) (hl : l.length ≤ 1000000) :
    Calls Tryz.prog 77 #[v] w fun e w' => e = .returned (.tuple #[]) ∧ Ints w' base v l.mergeSort ∧ Below base w w' := by
  rcases h.cases with ⟨rfl, rfl⟩ | ⟨g, cap, cur, rfl, hb, hg, h1, h2, h3, h4⟩
  · refine (Tryz.slices_Sort_int_none none 0 w).mono ?_
    rintro e w' ⟨rfl, rfl⟩
    exact ⟨rfl, by simpa using h, Below.refl _ _⟩
  · refine (Tryz.slices_Sort_int g 0 cap l w (holds_of_blockI hg h4) (blk_lt hg) (by omega)).mono ?_
    rintro e w' ⟨rfl, n, os, rfl⟩
    refine ⟨rfl, ?_, grown_below (grownBy_sortedI _) hb (blk_lt hg)⟩
    have := ownsRow_sortedI (n := n) (os := os) (ss := l) (ts := l.mergeSort) (List.length_mergeSort _) hb hg h1 h2 h3
    have h5 : (grow (putRow (Value.int .i64) (Sort.ahead w n) g 0 l.mergeSort.toArray) os).ownsRow base 3 1 (.slice (some ⟨g, 0, none⟩) l.length cap) l.mergeSort.length (nums .i64 l.mergeSort) := by
      rw [List.length_mergeSort]
      exact this
    exact Ints.mk h5
theorem compact_le (l : List Int) : (Lib.compact l).length ≤ l.length := by
  unfold Lib.compact Lib.compactUpTo
  rw [List.length_map]
  exact Nat.le_trans (List.length_filter_le _ _) (by simp)
theorem compact_calls {base : Nat} {v : Value} {l : List Int} {w : World} (h : Ints w base v l) (hl : l.length ≤ 1000000) :
    Calls Tryz.prog 79 #[v] w fun e w' => ∃ v', e = .returned v' ∧ Ints w' base v' (Lib.compact l) ∧ Below base w w' := by
  rcases h.cases with ⟨rfl, rfl⟩ | ⟨g, cap, cur, rfl, hb, hg, h1, h2, h3, h4⟩
  · refine (Tryz.slices_Compact_int_empty none 0 w).mono ?_
    rintro e w' ⟨rfl, rfl⟩
    exact ⟨_, rfl, h, Below.refl _ _⟩
  · refine (Tryz.slices_Compact_int g 0 cap l w (holds_of_blockI hg h4) (by omega) h1).mono ?_
    rintro e w' ⟨rfl, q, hw⟩
    have hle := compact_le l
    obtain ⟨ts, hts⟩ : ∃ ts, ts = Lib.compact l ++ List.replicate (l.length - (Lib.compact l).length) 0 := ⟨_, rfl⟩
    rw [← hts] at hw
    have hlen : ts.length = l.length := by rw [hts, List.length_append, List.length_replicate]; omega
    have e0 : w' = grow (putRow (Value.int .i64) (Sort.ahead w q) g 0 ts.toArray) #[] := by rw [hw]; unfold grow; rw [Array.append_empty]
    have h5 := ownsRow_sortedI (n := q) (os := #[]) (ss := l) (ts := ts) hlen hb hg h1 h2 h3
    have h6 := grownBy_sortedI (w := w) (g := g) (n := q) (os := #[]) ts.toArray
    rw [← e0] at h5 h6
    refine ⟨_, rfl, Ints.mk ⟨by simp [nums], .inr ?_⟩, grown_below h6 hb (blk_lt hg)⟩
    rcases h5.2 with ⟨h7, _⟩ | ⟨g', cap', cur', h7, h8, h9, h10, h11, h12, h13⟩
    · cases h7
    · simp only [Value.slice.injEq, Option.some.injEq, Addr.mk.injEq] at h7
      obtain ⟨⟨rfl, _⟩, _, rfl⟩ := h7
      refine ⟨g, cap, cur', rfl, hb, h9, by omega, h11, h12, ?_⟩
      rw [Nat.mul_one] at h13 ⊢
      have : cur'.toList.take (Lib.compact l).length = (cur'.toList.take l.length).take (Lib.compact l).length := by rw [List.take_take]; congr 1; omega
      rw [this, h13, hts, List.map_append, List.take_append_of_le_length (by simp), List.take_of_length_le (by simp)]
      rfl
theorem Ints.cellAt {w : World} {base g cap : Nat} {l : List Int} (h : Ints w base (.slice (some ⟨g, 0, none⟩) l.length cap) l) (j : Nat) (hj : j < l.length) : w.cell? ⟨g, 0 + j, none⟩ = some (.int .i64 (l.getD j 0)) := by
  obtain ⟨A, c, e, _, hC⟩ := Kd.R_reads h
  simp only [Value.slice.injEq] at e
  obtain ⟨ad, e1, h1⟩ := at_int hC j (by omega) (by omega)
  rw [← e.1] at e1
  cases e1
  rw [Int.toNat_natCast] at h1
  unfold Sh.gi at h1
  rcases Nat.eq_zero_or_pos j with rfl | hp
  · exact h1
  · rw [add_pos _ _ hp] at h1
    exact h1
theorem bsearch_calls {base : Nat} {v : Value} {l : List Int} {w : World} (h : Ints w base v l) (hl : l.length ≤ 1000000) (hs : l.Pairwise (· ≤ ·)) (x : Int) :
    Calls Tryz.prog 89 #[v, .int .i64 x] w fun e w' => e = .returned (.tuple #[.int .i64 (l.countP (· < x) : Nat), .bool (l.contains x)]) ∧ ∃ q, w' = w.drewN q := by
  rcases h.cases with ⟨rfl, rfl⟩ | ⟨g, cap, cur, rfl, hb, hg, h1, h2, h3, h4⟩
  · refine (Tryz.slices_BinarySearch_int_empty none 0 x w).mono ?_
    rintro e w' ⟨rfl, rfl⟩
    exact ⟨rfl, 0, rfl⟩
  · have := Tryz.slices_BinarySearch_int g 0 l.length cap l x w (Nat.le_refl _) (by omega) (fun j hj => h.cellAt j hj) (by rw [List.take_length]; exact hs)
    rwa [List.take_length] at this
theorem contains_calls {base : Nat} {v : Value} {l : List Int} {w : World} (h : Ints w base v l) (hl : l.length ≤ 1000000) (x : Int) :
    Calls Tryz.prog 57 #[v, .int .i64 x] w fun e w' => e = .returned (.bool (l.contains x)) ∧ w' = w := by
  rcases h.cases with ⟨rfl, rfl⟩ | ⟨g, cap, cur, rfl, hb, hg, h1, h2, h3, h4⟩
  · exact Tryz.slices_Contains_int_empty none 0 x w
  · have := Tryz.slices_Contains_int g 0 l.length cap l x w (Nat.le_refl _) (by omega) (fun j hj => h.cellAt j hj)
    rwa [List.take_length] at this
end Go.Proofs.YtbfedeedicnedaaGreat
end
section
namespace Go.Proofs.YtbfedeedicnedaaGreat
open Go.RowKit
open Go.Proofs.YtbfedeedicnedaaGreatW.PrintWords
namespace Sh
def prev (l : List Int) (i : Nat) : Int := if i = 0 then -1 else gi l (i - 1)
theorem drop_at' (l : List Int) (i : Nat) (h : i < l.length) : l.drop i = gi l i :: l.drop (i + 1) := by
  rw [List.drop_eq_getElem_cons h]
  unfold gi
  rw [List.getD_eq_getElem?_getD, List.getElem?_eq_getElem h]
  rfl
theorem rising_at (l : List Int) (i : Nat) (h : i < l.length) : risingFrom (prev l i) (l.drop i) = (el (gi l i) && (decide (prev l i < gi l i) && risingFrom (prev l (i + 1)) (l.drop (i + 1)))) := by
  rw [drop_at' l i h]
  rfl
theorem el_lt {x : Int} (h : el x = true) : -1 < x := by
  unfold el at h
  simp only [Bool.and_eq_true, decide_eq_true_eq] at h
  omega
end Sh
theorem element_at {w : World} (x : Int) {b : Bool} (h : Sh.el x = b) : Calls Tryz.prog 75 #[.int .i64 x] w fun e w' => e = .returned (.bool b) ∧ w' = w := by
  subst h
  exact element_calls x w
theorem back_one (k j : Nat) (h : k ≤ 1000000) (hj : j + 1 = k) : IntKind.i64.wrap ((k : Int) - 1) = (j : Int) := by
  rw [IntWalk.i64_in _ (by omega)]
  omega
set_option maxRecDepth 100000 in
set_option maxHeartbeats 4000000 in
theorem alist_calls (H : Sh.Hp) (root : Int) (A : Option Addr) (c : Nat) (w : World) (hC : Nodes w A H) (hbig : ∀ p ∈ H, p.1.length ≤ 1000000) :
    Calls Tryz.prog 163 #[.agg #[], .slice A H.length c, .int .i64 root] w fun e w' => Got w.heap.size w' e (Sh.listArray H root) ∧ Below w.heap.size w w' := by
  have hB0 := Lib.hid (show Below w.heap.size w (w.alloc (.cells #[] 154)) from (Below.refl _ _).alloc (Nat.le_refl _) _)
  unfold Sh.listArray
  by_cases ht : Sh.there H root = true
  case neg =>
    have ht' : Sh.there H root = false := by simpa using ht
    have hth := Lib.hid (fun W => there_at (w := W) (A := A) (c := c) ht')
    rw [ht']
    simp only [Bool.false_and, Bool.false_eq_true, if_false]
    clear ht ht'
    go_enter Tryz.func163, Tryz.ntmps163
    go_wp2_with fail
    refine (hth.out _).mono ?_
    rintro e w1 ⟨rfl, rfl⟩
    go_wp2
    go_ret2
    exact ⟨⟨_, rfl, Kd.R_nil _ _ _ _ _⟩, hB0.out⟩
  case pos =>
    have hth := Lib.hid (fun W => there_at (w := W) (A := A) (c := c) ht)
    obtain ⟨hr0, hr1⟩ := Sh.there_iff.1 ht
    have hmem : Sh.nd H root ∈ H := List.mem_of_getElem? (Sh.nd_there ht)
    have hsm := hbig _ hmem
    rw [ht, Bool.true_and]
    have hC1 := Kd.C_alloc hC (.cells #[] 154)
    obtain ⟨ad, A0, c0, A1, c1, rfl, d0, d1, l0, g0, l1, g1⟩ := Nodes.at hC1 root hr0 hr1
    obtain ⟨i, rfl⟩ := Int.eq_ofNat_of_zero_le hr0
    simp only [Int.toNat_natCast] at d0 d1
    generalize (Sh.nd H (i : Int)).2.length = n1 at *
    generalize (Sh.nd H (i : Int)).1 = l at *
    by_cases h1 : n1 = 0
    case neg =>
      have hb : (n1 == 0) = false := by rw [beq_eq_false_iff_ne]; exact h1
      rw [hb]
      simp only [Bool.false_and, Bool.false_eq_true, if_false]
      clear hb hC hC1 g0 g1 ht
      go_enter Tryz.func163, Tryz.ntmps163
      go_wp2_with fail
      refine (hth.out _).mono ?_
      rintro e w1 ⟨rfl, rfl⟩
      go_wp2
      go_ret2
      exact ⟨⟨_, rfl, Kd.R_nil _ _ _ _ _⟩, hB0.out⟩
    case pos =>
      subst h1
      simp only [BEq.rfl, Bool.true_and]
      have hg0 := Lib.hid g0
      obtain ⟨T, hT⟩ : ∃ T, T = Sh.rising l := ⟨_, rfl⟩
      rw [← hT]
      obtain ⟨R, hR⟩ : ∃ R, R = (if T = true then some l else none) := ⟨_, rfl⟩
      rw [← hR]
      replace hR := Lib.hid hR
      have hTh := Lib.hid hT
      obtain ⟨n, hn⟩ : ∃ n, n = l.length := ⟨_, rfl⟩
      rw [← hn] at d0 hg0 hsm
      have hnh := Lib.hid hn
      clear hC hC1 g0 g1 ht hT hn
      go_enter Tryz.func163, Tryz.ntmps163
      go_wp2_with fail
      refine (hth.out _).mono ?_
      rintro e w1 ⟨rfl, rfl⟩
      go_wp2
      go_loopg [31] n (fun g v31 wr => ∃ k : Nat, v31 = .int .i64 k ∧ k ≤ n ∧ Hid (g + k = n) ∧ wr = w.alloc (.cells #[] 154) ∧ Hid (T = Sh.risingFrom (Sh.prev l k) (l.drop k)))
      case atStart => exact ⟨0, rfl, Nat.zero_le _, Lib.hid rfl, rfl, Lib.hid hTh.out⟩
      case round =>
        obtain ⟨k, rfl, hk, hg, rfl, hTk⟩ := hrel
        by_cases hlt : k < n
        · obtain ⟨ad0, rfl, e0⟩ := at_int hg0.out k (by omega) (by omega)
          rw [Int.toNat_natCast] at e0
          have hst := Lib.hid (Sh.rising_at l k (by have := hnh.out; omega))
          obtain ⟨x, hx⟩ : ∃ x, x = Sh.gi l k := ⟨_, rfl⟩
          rw [← hx] at e0 hst
          cases he : Sh.el x
          · have hel := Lib.hid (fun W => element_at (w := W) x he)
            have hF : Hid (T = false) := Lib.hid (by rw [hTk.out, hst.out, he]; rfl)
            clear hx he
            go_wp2_with fail
            refine (hel.out _).mono ?_
            rintro e w1 ⟨rfl, rfl⟩
            go_wp2
            obtain rfl : R = none := by rw [hR.out, hF.out]; rfl
            go_ret2
            exact ⟨⟨_, rfl, Kd.R_nil _ _ _ _ _⟩, hB0.out⟩
          · have hel := Lib.hid (fun W => element_at (w := W) x he)
            by_cases hk0 : k = 0
            · subst hk0
              have e0' : (w.alloc (.cells #[] 154)).cell? ad0 = some (.int .i64 x) := e0
              have hst2 : Hid (T = Sh.risingFrom (Sh.prev l 1) (l.drop 1)) := Lib.hid (by rw [hTk.out, hst.out, he, decide_eq_true (show Sh.prev l 0 < x from Sh.el_lt he)]; rfl)
              clear hx he
              go_wp2_with fail
              refine (hel.out _).mono ?_
              rintro e w1 ⟨rfl, rfl⟩
              go_wp2
              go_roundg (n - 1)
              case measure => have := hg.out; omega
              case rel => exact ⟨1, by go_num, by omega, Lib.hid (by omega), rfl, hst2⟩
            · obtain ⟨j, hj⟩ : ∃ j, j + 1 = k := ⟨k - 1, by omega⟩
              have hkp : 0 < k := by omega
              obtain ⟨ad0', e', e1⟩ := at_int hg0.out j (by omega) (by omega)
              cases e'
              rw [Int.toNat_natCast] at e1
              have hp : Sh.prev l k = Sh.gi l j := by rw [← hj]; rfl
              obtain ⟨y, hy⟩ : ∃ y, y = Sh.gi l j := ⟨_, rfl⟩
              rw [← hy] at e1 hp
              have hbk := back_one k j (by omega) hj
              have hjn : j < n := by omega
              replace hj := Lib.hid hj
              by_cases hxy : x ≤ y
              · have hF : Hid (T = false) := Lib.hid (by rw [hTk.out, hst.out, he, hp, decide_eq_false (by omega)]; rfl)
                clear hx hy he hp
                go_wp2_with fail
                refine (hel.out _).mono ?_
                rintro e w1 ⟨rfl, rfl⟩
                go_wp2
                obtain rfl : R = none := by rw [hR.out, hF.out]; rfl
                go_ret2
                exact ⟨⟨_, rfl, Kd.R_nil _ _ _ _ _⟩, hB0.out⟩
              · have hst2 : Hid (T = Sh.risingFrom (Sh.prev l (k + 1)) (l.drop (k + 1))) := Lib.hid (by rw [hTk.out, hst.out, he, hp, decide_eq_true (show y < x by omega)]; rfl)
                clear hx hy he hp
                go_wp2_with fail
                refine (hel.out _).mono ?_
                rintro e w1 ⟨rfl, rfl⟩
                go_wp2
                go_roundg (n - (k + 1))
                case measure => have := hg.out; omega
                case rel => exact ⟨k + 1, by go_num, by omega, Lib.hid (by omega), rfl, hst2⟩
        · have hTt : Hid (T = true) := Lib.hid (by rw [hTk.out, List.drop_of_length_le (by have := hnh.out; omega)]; rfl)
          have hcl := Lib.hid (clone_calls A0 c0 l (w.alloc (.cells #[] 154)) (by have := hg0.out; rwa [hnh.out] at this) (by have := hnh.out; omega))
          rw [← hnh.out] at hcl
          go_wp2_with fail
          refine (hcl.out).mono ?_
          rintro e w1 ⟨v, rfl, ho, hb⟩
          have hB1 := Lib.hid (Below.trans hB0.out (hb.mono (by rw [World.size_alloc]; omega)))
          have ho1 := Lib.hid (Kd.R_lower ho (show w.heap.size ≤ _ by rw [World.size_alloc]; omega))
          clear ho hb
          go_wp2
          obtain rfl : R = some l := by rw [hR.out, hTt.out]; rfl
          go_ret2
          exact ⟨⟨_, rfl, ho1.out⟩, hB1.out⟩
end Go.Proofs.YtbfedeedicnedaaGreat
end
section
namespace Go.Proofs.YtbfedeedicnedaaGreat
open Go.RowKit
open Go.Proofs.YtbfedeedicnedaaGreatW.PrintWords
namespace Sh
theorem placeF_step (t : List Int) (x : Int) (g j : Nat) : placeF t x (g + 1) j = if gi t (slot t x j) = -1 ∨ gi t (slot t x j) = x then j else placeF t x g (j + 1) := rfl
end Sh
theorem home_at {w : World} (x : Int) (c : Nat) (hx : 0 ≤ x) (hx1 : x ≤ 1000000) (hc : 0 < c) (hc1 : c ≤ 1000000) {b : Int} (h : Sh.home x c = b) : Calls Tryz.prog 195 #[.int .i64 x, .int .i64 c] w fun e w' => e = .returned (.int .i64 b) ∧ w' = w := by
  subst h
  exact home_calls x c hx hx1 hc hc1 w
set_option maxRecDepth 100000 in
set_option maxHeartbeats 4000000 in
theorem place_calls (t : List Int) (x : Int) (A : Option Addr) (c : Nat) (w : World) (hC : Kd.C kI w A t.length t) (hx : 0 ≤ x) (hx1 : x ≤ 1000000) (hc : 0 < t.length) (hc1 : t.length ≤ 100000) :
    Calls Tryz.prog 194 #[.slice A t.length c, .int .i64 x] w fun e w' => e = .returned (.tuple #[.int .i64 (Sh.slot t x (Sh.place t x)), .int .i64 ((Sh.place t x + 1 : Nat) : Int)]) ∧ w' = w := by
  have hhs := Sh.home_slot hx hc
  have hhn : 0 ≤ Sh.home x t.length := by unfold Sh.home; exact Int.tmod_nonneg _ (by omega)
  have hho := Lib.hid (fun W => home_at (w := W) x t.length hx hx1 hc (by omega) (b := (Sh.slot t x 0 : Nat)) (by omega))
  have hCh := Lib.hid hC
  obtain ⟨P, hP⟩ : ∃ P, P = Sh.place t x := ⟨_, rfl⟩
  rw [← hP]
  unfold Sh.place at hP
  replace hP := Lib.hid hP
  obtain ⟨n, hn⟩ : ∃ n, n = t.length := ⟨_, rfl⟩
  have hsl : ∀ j, Sh.slot t x j < n := fun j => by rw [hn]; exact Sh.slot_lt x j hc
  rw [← hn] at hho hc hc1 ⊢
  replace hn := Lib.hid hn
  clear hhs hhn hC
  go_enter Tryz.func194, Tryz.ntmps194
  go_wp2_with fail
  refine (hho.out _).mono ?_
  rintro e w1 ⟨rfl, rfl⟩
  go_wp2
  go_loopg [4, 5] n (fun g v4 v5 wr => ∃ (j a : Nat), v4 = .int .i64 a ∧ v5 = .int .i64 (j + 1 : Nat) ∧ j < n ∧ Hid (g + j = n) ∧ wr = w1 ∧ Hid (a = Sh.slot t x j) ∧ Hid (P = Sh.placeF t x (n - 1 - j) j))
  case atStart => exact ⟨0, _, rfl, rfl, hc, Lib.hid rfl, rfl, Lib.hid rfl, Lib.hid (by rw [hP.out, hn.out]; rfl)⟩
  case round =>
    obtain ⟨j, a, rfl, rfl, hj, hg, rfl, ha, hPj⟩ := hrel
    have han : a < n := by rw [ha.out]; exact hsl j
    obtain ⟨ad, rfl, e0⟩ := at_int hCh.out a (by omega) (by have := hn.out; omega)
    rw [Int.toNat_natCast] at e0
    by_cases hlast : j + 1 < n
    · obtain ⟨g', hg'⟩ : ∃ g', n - 1 - j = g' + 1 := ⟨n - 1 - j - 1, by omega⟩
      have hst := Sh.placeF_step t x g' j
      rw [← hg', ← ha.out, ← hPj.out] at hst
      obtain ⟨y, hy⟩ : ∃ y, y = Sh.gi t a := ⟨_, rfl⟩
      rw [← hy] at e0 hst
      have hex : ∃ k, k = Sh.slot t x (j + 1) := ⟨_, rfl⟩
      obtain ⟨k, hk⟩ := hex
      have hmod : ((a : Int) + 1) % (n : Int) = (k : Int) := by
        rw [hk, ← Sh.slot_next, ← ha.out, ← hn.out]
        rfl
      have hw1 : IntKind.i64.wrap ((a : Int) + 1) = (a : Int) + 1 := IntWalk.i64_in _ (by omega)
      have hne : ¬ (n : Int) = 0 := by omega
      have hpos : ((n : Int) == 0) = false := by rw [beq_eq_false_iff_ne]; omega
      by_cases hq : y ≠ -1 ∧ y ≠ x
      · rw [if_neg (by omega)] at hst
        have q1 : (y != -1) = true := bne_iff_ne.mpr hq.1
        have q2 : (y != x) = true := bne_iff_ne.mpr hq.2
        clear hq
        replace hst := Lib.hid hst
        replace hk := Lib.hid hk
        replace hy := Lib.hid hy
        go_wp2
        go_roundg (n - (j + 1))
        case measure => have := hg.out; omega
        case rel => exact ⟨j + 1, k, by rw [hmod], by go_num, by omega, Lib.hid (by omega), rfl, hk, Lib.hid (by rw [hst.out]; congr 1; omega)⟩
      · rw [if_pos (by omega)] at hst
        by_cases q1 : y = -1
        · have q1b : (y != -1) = false := bne_eq_false_iff_eq.mpr q1
          replace hst := Lib.hid hst
          replace hy := Lib.hid hy
          clear hq q1
          go_wp2
          go_ret2
          obtain rfl := hst.out
          exact ⟨by rw [ha.out]; rfl, rfl⟩
        · have q2 : y = x := by omega
          have q1b : (y != -1) = true := bne_iff_ne.mpr q1
          have q2b : (y != x) = false := bne_eq_false_iff_eq.mpr q2
          replace hst := Lib.hid hst
          replace hy := Lib.hid hy
          clear hq q1 q2
          go_wp2
          go_ret2
          obtain rfl := hst.out
          exact ⟨by rw [ha.out]; rfl, rfl⟩
    · have hst : P = j := by rw [hPj.out, show n - 1 - j = 0 by omega]; rfl
      replace hst := Lib.hid hst
      go_wp2
      go_ret2
      obtain rfl := hst.out
      exact ⟨by rw [ha.out]; rfl, rfl⟩
end Go.Proofs.YtbfedeedicnedaaGreat
end
section
namespace Go.Proofs.YtbfedeedicnedaaGreat
open Go.RowKit
open Go.Proofs.YtbfedeedicnedaaGreatW.PrintWords
namespace Sh
theorem full_take (t : List Int) (k : Nat) (h : k < t.length) : full (t.take (k + 1)) = if gi t k = -1 then full (t.take k) else full (t.take k) ++ [gi t k] := by
  unfold full gi
  rw [List.take_succ_eq_append_getElem h, List.filter_append, List.getD_eq_getElem?_getD, List.getElem?_eq_getElem h]
  simp only [Option.getD_some]
  split
  · rename_i h1
    simp [h1]
  · rename_i h1
    simp [h1]
def okSlot (t : List Int) (i : Nat) : Bool := decide (gi t i = -1) || decide (probe t (gi t i) t.length (home (gi t i) t.length).toNat = some i)
theorem all_at (Q : Nat → Bool) (n k : Nat) (h : k < n) : ((List.range n).drop k).all Q = (Q k && ((List.range n).drop (k + 1)).all Q) := by
  have : (List.range n).drop k = k :: (List.range n).drop (k + 1) := by
    rw [List.drop_eq_getElem_cons (by simpa using h)]
    simp
  rw [this]
  rfl
def okEl (x : Int) : Bool := decide (x = -1) || el x
theorem all_el (t : List Int) (k : Nat) (h : k < t.length) : (t.drop k).all okEl = (okEl (gi t k) && (t.drop (k + 1)).all okEl) := by
  rw [drop_at' t k h]
  rfl
theorem empty_slot {t : List Int} (h0 : 8 ≤ t.length) (h : 2 * (full t).length ≤ t.length) : ∃ i, i < t.length ∧ gi t i = -1 := by
  refine Classical.byContradiction fun hc => ?_
  have : full t = t := by
    unfold full
    rw [List.filter_eq_self]
    intro y hy
    obtain ⟨i, hi, e⟩ := mem_gi.1 hy
    refine decide_eq_true fun h1 => hc ⟨i, hi, by rw [e]; exact h1⟩
  rw [this] at h
  omega
theorem okEl_el {x : Int} (h : okEl x = true) (h1 : x ≠ -1) : 0 ≤ x ∧ x ≤ 1023 := by
  unfold okEl el at h
  rw [decide_eq_false h1, Bool.false_or, Bool.and_eq_true, decide_eq_true_eq, decide_eq_true_eq] at h
  exact h
theorem probe_step (t : List Int) (x : Int) (g a : Nat) : probe t x (g + 1) a = if gi t a = x then some a else if gi t a = -1 then none else probe t x g ((a + 1) % t.length) := rfl
set_option maxRecDepth 100000 in
theorem pow2_all : (List.range 2049).all (fun n => decide (n < 8) || (pow2 n == decide (n &&& (n - 1) = 0))) = true := by decide +kernel
theorem pow2_and {n : Nat} (h0 : 8 ≤ n) (h1 : n ≤ 2048) : pow2 n = decide (n &&& (n - 1) = 0) := by
  have h := List.all_eq_true.1 pow2_all n (List.mem_range.2 (by omega))
  rw [decide_eq_false (show ¬ n < 8 by omega), Bool.false_or] at h
  exact eq_of_beq h
theorem and_at {n : Nat} (h0 : 8 ≤ n) (h1 : n ≤ 2048) : bits BinOp.and IntKind.i64 (n : Int) ((n : Int) - 1) = ((n &&& (n - 1) : Nat) : Int) := by
  have e : ((n : Int) - 1) = ((n - 1 : Nat) : Int) := by omega
  rw [e]
  exact (bits_nat .i64 62 (by decide) (fun m h0 h1 => IntWalk.i64_in _ (by omega)) n (n - 1) (by omega) (by omega)).1
end Sh
set_option maxRecDepth 100000 in
set_option maxHeartbeats 1000000 in
theorem hlist_calls (H : Sh.Hp) (root : Int) (A : Option Addr) (c : Nat) (w : World) (hC : Nodes w A H) (hbig : ∀ p ∈ H, p.1.length ≤ 1000000) :
    Calls Tryz.prog 191 #[.agg #[], .slice A H.length c, .int .i64 root] w fun e w' => Got w.heap.size w' e (Sh.listHash H root) ∧ Below w.heap.size w w' := by
  have hB0 := Lib.hid (show Below w.heap.size w (w.alloc (.cells #[] 157)) from (Below.refl _ _).alloc (Nat.le_refl _) _)
  unfold Sh.listHash
  by_cases ht : Sh.there H root = true
  case neg =>
    have ht' : Sh.there H root = false := by simpa using ht
    have hth := Lib.hid (fun W => there_at (w := W) (A := A) (c := c) ht')
    rw [ht']
    simp only [Bool.false_and, Bool.false_eq_true, if_false]
    clear ht ht'
    go_enter Tryz.func191, Tryz.ntmps191
    go_wp2
    go_step3
    go_wp2_with fail
    refine (hth.out _).mono ?_
    rintro e w1 ⟨rfl, rfl⟩
    go_wp2
    try dsimp only [Exit.noGoto]
    go_ret2
    exact ⟨⟨_, rfl, Kd.R_nil _ _ _ _ _⟩, hB0.out⟩
  case pos =>
    have hth := Lib.hid (fun W => there_at (w := W) (A := A) (c := c) ht)
    obtain ⟨hr0, hr1⟩ := Sh.there_iff.1 ht
    have hmem : Sh.nd H root ∈ H := List.mem_of_getElem? (Sh.nd_there ht)
    have hsm := hbig _ hmem
    rw [ht, Bool.true_and]
    have hC1 := Kd.C_alloc hC (.cells #[] 157)
    obtain ⟨ad, A0, c0, A1, c1, rfl, d0, d1, l0, g0, l1, g1⟩ := Nodes.at hC1 root hr0 hr1
    obtain ⟨i, rfl⟩ := Int.eq_ofNat_of_zero_le hr0
    simp only [Int.toNat_natCast] at d0 d1
    generalize (Sh.nd H (i : Int)).2.length = n1 at *
    generalize (Sh.nd H (i : Int)).1 = t at *
    by_cases h1 : n1 = 0
    case neg =>
      have hb : (n1 == 0) = false := by rw [beq_eq_false_iff_ne]; exact h1
      rw [hb]
      simp only [Bool.false_and, Bool.false_eq_true, if_false]
      clear hb hC hC1 g0 g1 ht
      go_enter Tryz.func191, Tryz.ntmps191
      go_wp2
      go_step3
      go_wp2_with fail
      refine (hth.out _).mono ?_
      rintro e w1 ⟨rfl, rfl⟩
      go_wp2
      try dsimp only [Exit.noGoto]
      go_ret2
      exact ⟨⟨_, rfl, Kd.R_nil _ _ _ _ _⟩, hB0.out⟩
    case pos =>
      subst h1
      simp only [BEq.rfl, Bool.true_and]
      have hg0 := Lib.hid g0
      obtain ⟨n, hn⟩ : ∃ n, n = t.length := ⟨_, rfl⟩
      rw [← hn] at d0 hg0 hsm ⊢
      have hnh := Lib.hid hn
      clear hC hC1 g0 g1 ht hn
      cases hp : Sh.pow2 n
      · simp only [Bool.false_eq_true, if_false]
        by_cases q1 : n < 8
        · clear hp
          go_enter Tryz.func191, Tryz.ntmps191
          go_wp2
          go_step3
          go_wp2_with fail
          refine (hth.out _).mono ?_
          rintro e w1 ⟨rfl, rfl⟩
          go_wp2
          try dsimp only [Exit.noGoto]
          go_ret2
          exact ⟨⟨_, rfl, Kd.R_nil _ _ _ _ _⟩, hB0.out⟩
        by_cases q2 : 2048 < n
        · clear hp
          go_enter Tryz.func191, Tryz.ntmps191
          go_wp2
          go_step3
          go_wp2_with fail
          refine (hth.out _).mono ?_
          rintro e w1 ⟨rfl, rfl⟩
          go_wp2
          try dsimp only [Exit.noGoto]
          go_ret2
          exact ⟨⟨_, rfl, Kd.R_nil _ _ _ _ _⟩, hB0.out⟩
        have q3 : ¬ (n &&& (n - 1) = 0) := by
          have := Sh.pow2_and (n := n) (by omega) (by omega)
          rw [hp] at this
          exact of_decide_eq_false this.symm
        have hand := Sh.and_at (n := n) (by omega) (by omega)
        generalize n &&& (n - 1) = m at *
        have q4 : ((m : Int) != 0) = true := bne_iff_ne.mpr (by omega)
        clear hp q3
        go_enter Tryz.func191, Tryz.ntmps191
        go_wp2
        go_step3
        go_wp2_with fail
        refine (hth.out _).mono ?_
        rintro e w1 ⟨rfl, rfl⟩
        go_wp2
        try dsimp only [Exit.noGoto]
        go_ret2
        exact ⟨⟨_, rfl, Kd.R_nil _ _ _ _ _⟩, hB0.out⟩
      · simp only [if_true]
        obtain ⟨p8, p9⟩ := Sh.pow2_pos hp
        have hand := Sh.and_at (n := n) p8 p9
        have q3 : n &&& (n - 1) = 0 := by
          have := Sh.pow2_and (n := n) p8 p9
          rw [hp] at this
          exact of_decide_eq_true this.symm
        rw [q3] at hand
        obtain ⟨R, hR⟩ : ∃ R, R = (if t.all Sh.okEl then (if 2 * (Sh.full t).length ≤ n then (if (List.range n).all (Sh.okSlot t) then some (Sh.full t).mergeSort else none) else none) else none) := ⟨_, rfl⟩
        have hRw : (if (t.all fun x => decide (x = -1) || Sh.el x) = true then
              if 2 * (t.filter fun x => decide (x ≠ -1)).length ≤ n then
                if ((List.range n).all fun i => decide (Sh.gi t i = -1) || decide (Sh.probe t (Sh.gi t i) n (Sh.home (Sh.gi t i) n).toNat = some i)) = true then
                  some (t.filter fun x => decide (x ≠ -1)).mergeSort
                else none
              else none
            else none) = R := by
          rw [hR]
          have e1 : (fun i => decide (Sh.gi t i = -1) || decide (Sh.probe t (Sh.gi t i) n (Sh.home (Sh.gi t i) n).toNat = some i)) = Sh.okSlot t := by
            rw [hnh.out]
            rfl
          rw [e1]
          rfl
        rw [hRw]
        replace hR := Lib.hid hR
        clear hRw hp q3
        obtain ⟨W1, hW1⟩ : ∃ W1, W1 = w.alloc (.cells #[] 157) := ⟨_, rfl⟩
        have hsz1 := Lib.hid (show w.heap.size ≤ W1.heap.size by rw [hW1, World.size_alloc]; omega)
        have hg1 := Lib.hid (show Kd.C kI W1 A0 n t by rw [hW1]; exact hg0.out)
        have hB1 := Lib.hid (show Below w.heap.size w W1 by rw [hW1]; exact hB0.out)
        clear hg0 hB0
        obtain ⟨AE, hAE⟩ : ∃ AE, AE = t.all Sh.okEl := ⟨_, rfl⟩
        rw [← hAE] at hR
        replace hAE := Lib.hid hAE
        go_enter Tryz.func191, Tryz.ntmps191
        go_wp2
        go_step3
        go_wp2_with fail
        refine (hth.out _).mono ?_
        rintro e w1 ⟨rfl, rfl⟩
        go_wp2
        rw [← hW1]
        clear hW1
        go_loopg [10, 51] n (fun g v10 v51 wr => ∃ (X : Value) (k : Nat), X = v10 ∧ v51 = .int .i64 k ∧ k ≤ n ∧ Hid (g + k = n) ∧ Hid (Ints wr W1.heap.size v10 (Sh.full (t.take k))) ∧ Hid (Below W1.heap.size W1 wr) ∧ Hid (AE = (t.drop k).all Sh.okEl))
        case atStart => exact ⟨_, 0, rfl, rfl, Nat.zero_le _, Lib.hid rfl, Lib.hid (Kd.R_nil _ _ _ _ _), Lib.hid (Below.refl _ _), Lib.hid hAE.out⟩
        case round =>
          obtain ⟨X, k, rfl, rfl, hk, hg, hX, hB, hA⟩ := hrel
          by_cases hlt : k < n
          · obtain ⟨ad0, rfl, e0⟩ := at_int (Kd.C_below hg1.out hB.out) k (by omega) (by omega)
            rw [Int.toNat_natCast] at e0
            have hst := Lib.hid (Sh.all_el t k (by have := hnh.out; omega))
            have hft := Lib.hid (Sh.full_take t k (by have := hnh.out; omega))
            obtain ⟨x, hx⟩ : ∃ x, x = Sh.gi t k := ⟨_, rfl⟩
            rw [← hx] at e0 hst hft
            replace hx := Lib.hid hx
            by_cases c1 : x = -1
            · have hA2 : Hid (AE = (t.drop (k + 1)).all Sh.okEl) := Lib.hid (by rw [hA.out, hst.out, show Sh.okEl x = true by rw [c1]; rfl, Bool.true_and])
              have hX2 : Hid (Ints wr W1.heap.size X (Sh.full (t.take (k + 1)))) := Lib.hid (by rw [hft.out, if_pos c1]; exact hX.out)
              have c1b : (x == -1) = true := beq_iff_eq.mpr c1
              clear c1 hX hA
              go_wp2
              go_roundg (n - (k + 1))
              case measure => have := hg.out; omega
              case rel => exact ⟨_, k + 1, rfl, by go_num, by omega, Lib.hid (by omega), hX2, hB, hA2⟩
            have c1b : (x == -1) = false := beq_eq_false_iff_ne.mpr c1
            cases he : Sh.el x
            · have hel := Lib.hid (fun W => element_at (w := W) x he)
              have hF : Hid (AE = false) := Lib.hid (by rw [hA.out, hst.out, show Sh.okEl x = false by unfold Sh.okEl; rw [decide_eq_false c1, he]; rfl]; rfl)
              clear he c1
              go_wp2_with fail
              refine (hel.out _).mono ?_
              rintro e w1 ⟨rfl, rfl⟩
              go_wp2
              try dsimp only [Exit.noGoto]
              obtain rfl : R = none := by rw [hR.out, hF.out]; rfl
              go_ret2
              exact ⟨⟨_, rfl, Kd.R_nil _ _ _ _ _⟩, Below.trans hB1.out (hB.out.mono hsz1.out)⟩
            · have hel := Lib.hid (fun W => element_at (w := W) x he)
              have hA2 : Hid (AE = (t.drop (k + 1)).all Sh.okEl) := Lib.hid (by rw [hA.out, hst.out, show Sh.okEl x = true by unfold Sh.okEl; rw [he, Bool.or_true], Bool.true_and])
              have hfl := Lib.hid (show (Sh.full (t.take k)).length ≤ n by unfold Sh.full; exact Nat.le_trans (List.length_filter_le _ _) (by rw [List.length_take]; omega))
              have hc1 := Lib.hid c1
              clear he c1
              go_wp2_with fail
              refine (hel.out _).mono ?_
              rintro e w1 ⟨rfl, rfl⟩
              go_wp2_with (at_builtin; refine app_one W1.heap.size rfl _ _ rfl X _ x rfl rfl hX.out hB.out hB.out.size (by have := hfl.out; omega) ?_; intro v3 w6 a1 a2 a3; replace a1 := Lib.hid a1; replace a2 := Lib.hid a2; clear a3)
              go_roundg (n - (k + 1))
              case measure => have := hg.out; omega
              case rel => exact ⟨_, k + 1, rfl, by go_num, by omega, Lib.hid (by omega), Lib.hid (by rw [hft.out, if_neg hc1.out]; exact a1.out), a2, hA2⟩
          · have hAt : Hid (AE = true) := Lib.hid (by rw [hA.out, List.drop_of_length_le (by have := hnh.out; omega)]; rfl)
            have hXf : Hid (Ints wr W1.heap.size X (Sh.full t)) := Lib.hid (by have := hX.out; rwa [List.take_of_length_le (by have := hnh.out; omega)] at this)
            have hml : (Sh.full t).length ≤ n := by unfold Sh.full; exact Nat.le_trans (List.length_filter_le _ _) (by have := hnh.out; omega)
            obtain ⟨m, hm⟩ : ∃ m, m = (Sh.full t).length := ⟨_, rfl⟩
            obtain ⟨A5, c5, e5⟩ := Kd.R_slice hXf.out
            rw [← hm] at hml e5
            replace hm := Lib.hid hm
            subst e5
            by_cases c2 : n < 2 * m
            · obtain rfl : R = none := by rw [hR.out, hAt.out, if_pos rfl, if_neg (by rw [← hm.out]; omega)]
              go_wp2
              try dsimp only [Exit.noGoto]
              go_ret2
              exact ⟨⟨_, rfl, Kd.R_nil _ _ _ _ _⟩, Below.trans hB1.out (hB.out.mono hsz1.out)⟩
            · obtain ⟨ie, hie, hee⟩ := Sh.empty_slot (t := t) (by have := hnh.out; omega) (by have := hm.out; have := hnh.out; omega)
              obtain ⟨OK, hOK⟩ : ∃ OK, OK = (List.range n).all (Sh.okSlot t) := ⟨_, rfl⟩
              have hR2 : Hid (R = if OK then some (Sh.full t).mergeSort else none) := Lib.hid (by rw [hR.out, hAt.out, if_pos rfl, if_pos (by rw [← hm.out]; omega), hOK])
              replace hOK := Lib.hid hOK
              have hall : Hid (∀ j, j < n → Sh.okEl (Sh.gi t j) = true) := Lib.hid fun j hj => by
                have h1 := hAE.out
                rw [hAt.out] at h1
                exact List.all_eq_true.1 h1.symm _ (Sh.mem_gi.2 ⟨j, by have := hnh.out; omega, rfl⟩)
              replace hee := Lib.hid (show ie < t.length ∧ Sh.gi t ie = -1 from ⟨hie, hee⟩)
              clear hie hR hX hA hAt hAE
              have hgr := Lib.hid (Kd.C_below hg1.out hB.out)
              have hBr := Lib.hid (Below.trans hB1.out (hB.out.mono hsz1.out))
              have hXr := Lib.hid (Kd.R_lower hXf.out hsz1.out)
              clear hg1 hB hB1 hsz1 hXf
              go_wp2
              go_step3
              go_wp2
              go_loopg [72] n (fun g v72 wr2 => ∃ (k : Nat), v72 = .int .i64 k ∧ k ≤ n ∧ Hid (g + k = n) ∧ wr2 = wr ∧ Hid (OK = ((List.range n).drop k).all (Sh.okSlot t)))
              case atStart => exact ⟨0, rfl, Nat.zero_le _, Lib.hid rfl, rfl, Lib.hid hOK.out⟩
              case round =>
                obtain ⟨k, rfl, hk, hg, rfl, hA⟩ := hrel
                by_cases hlt : k < n
                · obtain ⟨ad0, rfl, e0⟩ := at_int hgr.out k (by omega) (by omega)
                  rw [Int.toNat_natCast] at e0
                  have hst := Lib.hid (Sh.all_at (Sh.okSlot t) n k hlt)
                  have hok := hall.out k hlt
                  obtain ⟨x, hx⟩ : ∃ x, x = Sh.gi t k := ⟨_, rfl⟩
                  rw [← hx] at e0 hok
                  have hos : Sh.okSlot t k = (decide (x = -1) || decide (Sh.probe t x n (Sh.home x n).toNat = some k)) := by
                    unfold Sh.okSlot
                    rw [← hx, hnh.out]
                  replace hx := Lib.hid hx
                  by_cases c3 : x = -1
                  · have hA2 : Hid (OK = ((List.range n).drop (k + 1)).all (Sh.okSlot t)) := Lib.hid (by rw [hA.out, hst.out, hos, decide_eq_true c3, Bool.true_or, Bool.true_and])
                    have c3b : (x == -1) = true := beq_iff_eq.mpr c3
                    clear c3 hos hok
                    go_wp2
                    go_roundg (n - (k + 1))
                    case measure => have := hg.out; omega
                    case rel => exact ⟨k + 1, by go_num, by omega, Lib.hid (by omega), rfl, hA2⟩
                  have c3b : (x == -1) = false := beq_eq_false_iff_ne.mpr c3
                  obtain ⟨x0, x1⟩ := Sh.okEl_el hok c3
                  rw [decide_eq_false c3, Bool.false_or] at hos
                  have hhs := Sh.home_slot (t := t) x0 (by have := hnh.out; omega)
                  rw [← hnh.out] at hhs
                  have hhn : 0 ≤ Sh.home x n := by unfold Sh.home; exact Int.tmod_nonneg _ (by omega)
                  have hho := Lib.hid (fun W => home_at (w := W) x n x0 (by omega) (by omega) (by omega) (b := (Sh.slot t x 0 : Nat)) (by omega))
                  rw [hhs] at hos
                  obtain ⟨je, hje, hsl⟩ := Sh.slot_all (t := t) x x0 hee.out.1
                  have hslt : ∀ j, Sh.slot t x j < n := fun j => by rw [hnh.out]; exact Sh.slot_lt x j (by have := hnh.out; omega)
                  replace hje : je < n := by have := hnh.out; omega
                  have hgie := Lib.hid (show Sh.gi t (Sh.slot t x je) = -1 by rw [hsl]; exact hee.out.2)
                  replace hos := Lib.hid hos
                  clear hhs hhn hsl hok
                  replace c3 := Lib.hid c3
                  go_wp2_with fail
                  refine (hho.out _).mono ?_
                  rintro e w1 ⟨rfl, rfl⟩
                  go_wp2
                  go_loopg [15] n (fun g2 v15 wr2 => ∃ (j a : Nat), v15 = .int .i64 a ∧ a < n ∧ Hid (a = Sh.slot t x j) ∧ j ≤ je ∧ Hid (g2 + j = n) ∧ wr2 = w1 ∧ Hid (Sh.okSlot t k = decide (Sh.probe t x (n - j) a = some k)))
                  case atStart => exact ⟨0, _, rfl, hslt 0, Lib.hid rfl, Nat.zero_le _, Lib.hid rfl, rfl, hos⟩
                  case round =>
                    obtain ⟨j, a, rfl, ha, has, hj, hg2, rfl, hpr⟩ := hrel
                    obtain ⟨ad1, e9, f0⟩ := at_int hgr.out a (by omega) (by omega)
                    rw [Int.toNat_natCast] at f0
                    cases e9
                    obtain ⟨g', hg'⟩ : ∃ g', n - j = g' + 1 := ⟨n - j - 1, by omega⟩
                    have hps := Sh.probe_step t x g' a
                    have hpr2 := hpr.out
                    rw [hg', hps] at hpr2
                    obtain ⟨y, hy⟩ : ∃ y, y = Sh.gi t a := ⟨_, rfl⟩
                    rw [← hy] at f0 hpr2
                    have hyl : ¬ y = -1 → j ≠ je := fun h1 h2 => h1 (by rw [hy, has.out, h2]; exact hgie.out)
                    clear hps hpr
                    replace hy := Lib.hid hy
                    by_cases c4 : y = -1
                    · rw [if_neg (by rw [c4]; exact fun h => c3.out h.symm), if_pos c4] at hpr2
                      have hF : Hid (OK = false) := Lib.hid (by rw [hA.out, hst.out, hpr2]; rfl)
                      have c4b : (y == -1) = true := beq_iff_eq.mpr c4
                      clear hpr2 c4 hyl
                      obtain rfl : R = none := by rw [hR2.out, hF.out]; rfl
                      go_wp2
                      try dsimp only [Exit.noGoto]
                      go_ret2
                      exact ⟨⟨_, rfl, Kd.R_nil _ _ _ _ _⟩, hBr.out⟩
                    have c4b : (y == -1) = false := beq_eq_false_iff_ne.mpr c4
                    have hjl := hyl c4
                    by_cases c5 : y = x
                    · rw [if_pos c5] at hpr2
                      have c5b : (y == x) = true := beq_iff_eq.mpr c5
                      by_cases c6 : a = k
                      · have hA2 : Hid (OK = ((List.range n).drop (k + 1)).all (Sh.okSlot t)) := Lib.hid (by rw [hA.out, hst.out, hpr2, c6, decide_eq_true rfl, Bool.true_and])
                        have c6b : ((a : Int) != (k : Int)) = false := bne_eq_false_iff_eq.mpr (by omega)
                        clear hpr2 c4 hyl c5
                        subst c6
                        go_wp2
                        go_roundg (n - (a + 1))
                        case measure => have := hg.out; omega
                        case rel => exact ⟨a + 1, by go_num, by omega, Lib.hid (by omega), rfl, hA2⟩
                      · have hF : Hid (OK = false) := Lib.hid (by rw [hA.out, hst.out, hpr2, decide_eq_false (fun h => c6 (Option.some.inj h))]; rfl)
                        have c6b : ((a : Int) != (k : Int)) = true := bne_iff_ne.mpr (by omega)
                        clear hpr2 c4 hyl c5 c6
                        obtain rfl : R = none := by rw [hR2.out, hF.out]; rfl
                        go_wp2
                        try dsimp only [Exit.noGoto]
                        go_ret2
                        exact ⟨⟨_, rfl, Kd.R_nil _ _ _ _ _⟩, hBr.out⟩
                    · rw [if_neg c5, if_neg c4] at hpr2
                      have c5b : (y == x) = false := beq_eq_false_iff_ne.mpr c5
                      obtain ⟨b, hb⟩ : ∃ b, b = (a + 1) % t.length := ⟨_, rfl⟩
                      rw [← hb] at hpr2
                      have hbs := Lib.hid (show b = Sh.slot t x (j + 1) by rw [hb, has.out, Sh.slot_next])
                      have hmod : ((a : Int) + 1) % (n : Int) = (b : Int) := by rw [hb, ← hnh.out]; rfl
                      have hbn : b < n := by rw [hb, ← hnh.out]; exact Nat.mod_lt _ (by omega)
                      have hne : ¬ (n : Int) = 0 := by omega
                      have hpos : ((n : Int) == 0) = false := by rw [beq_eq_false_iff_ne]; omega
                      replace hpr2 := Lib.hid hpr2
                      clear c4 c5 hyl hb
                      go_wp2
                      go_roundg (n - (j + 1))
                      case measure => have := hg2.out; omega
                      case rel => exact ⟨j + 1, b, by rw [hmod], hbn, hbs, by omega, Lib.hid (by omega), rfl, Lib.hid (by rw [hpr2.out]; congr 3; omega)⟩
                · have hT : Hid (R = some (Sh.full t).mergeSort) := Lib.hid (by rw [hR2.out, hA.out, List.drop_of_length_le (by simp; omega)]; rfl)
                  have hsc := Lib.hid (sort_calls hXr.out (by rw [← hm.out]; omega))
                  obtain rfl := hT.out
                  go_wp2_with fail
                  refine (hsc.out).mono ?_
                  rintro e w1 ⟨rfl, ho, hb⟩
                  have ho1 := Lib.hid ho
                  have hb1 := Lib.hid (Below.trans hBr.out hb)
                  clear ho hb
                  go_wp2
                  try dsimp only [Exit.noGoto]
                  go_ret2
                  exact ⟨⟨_, rfl, ho1.out⟩, hb1.out⟩
end Go.Proofs.YtbfedeedicnedaaGreat
end
