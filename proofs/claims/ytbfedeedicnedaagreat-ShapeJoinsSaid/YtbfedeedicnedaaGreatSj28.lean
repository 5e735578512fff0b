/-
  Texts of this claim: ShBH, ShBI, ShAK.
-/
import Derived.Test.YtbfedeedicnedaaGreatSj27
set_option linter.unusedVariables false
set_option linter.unusedSimpArgs false
set_option maxHeartbeats 8000000
set_option maxRecDepth 100000
section
namespace Go.Proofs.YtbfedeedicnedaaGreat
open Go.RowKit
open Go.Proofs.YtbfedeedicnedaaGreatW.PrintWords
namespace Sh
def elems (H : Hp) (f root n : Int) : Option (List Int) := (list f H root).bind fun l => if (l.length : Int) = n then some l else none
theorem listed_elems (H : Hp) (f root n : Int) (hl : H.length ≤ 3000) : listed H f root n = match elems H f root n with
    | some l => (l, 0)
    | none => ([], 2) := by
  unfold listed elems
  rw [if_neg (by omega)]
  rcases list f H root with _ | l
  · rfl
  · simp only [Option.bind_some]
    by_cases h : (l.length : Int) = n
    · simp only [h, if_true]
    · simp only [h, if_false]
theorem elems_root {H : Hp} {f root n : Int} {l : List Int} (h : elems H f root n = some l) (hl : l.length ≤ 1000000) (ht : there H root = true) : (nd H root).1.length ≤ 1000000 := by
  have hne : root ≠ -1 := by have := (there_iff.1 ht).1; omega
  unfold elems list at h
  obtain ⟨m, hm, h2⟩ := Option.bind_eq_some_iff.1 h
  have hml : m.length ≤ 1000000 := by
    split at h2
    · cases h2; exact hl
    · cases h2
  split at hm
  · unfold listArray at hm
    split at hm
    · cases hm; exact hml
    · cases hm
  split at hm
  · unfold listPages at hm
    split at hm
    · rename_i c
      simp only [Bool.and_eq_true, beq_iff_eq] at c
      omega
    · cases hm
  split at hm
  · obtain ⟨t, T⟩ := listTree_iff.1 hm
    obtain ⟨x, a, b, la, lb, ha, hb, hnd, _⟩ := T.parts hne
    rw [hnd]
    show 2 ≤ 1000000
    omega
  split at hm
  · unfold listTrie at hm
    rw [if_neg hne] at hm
    unfold walkTrie at hm
    split at hm
    · rename_i c
      simp only [Bool.and_eq_true, beq_iff_eq] at c
      omega
    · cases hm
  split at hm
  · obtain ⟨_, _, T, _⟩ := listHash_iff.1 hm
    have := (pow2_pos T.size).2
    omega
  · cases hm
end Sh
theorem rarray_calls (H : Sh.Hp) (root : Int) (A : Option Addr) (c : Nat) (w : World) (hC : Nodes w A H) (hc : H.length ≤ c) (hl : H.length ≤ 1000000) (hroot : Sh.there H root = true → (Sh.nd H root).1.length ≤ 1000000) :
    Calls Tryz.prog 64 #[.slice A H.length c, .int .i64 root] w fun e w' => ElGot w' e (Sh.listArray H root) ∧ Below w.heap.size w w' := by
  obtain ⟨l, hev, hm⟩ := PAll.ev_array H root hl hroot
  obtain ⟨k, hk⟩ := hev.rounds
  have hV : Kd.V PAll.k95 95 w w.heap.size (fun k_ => k_ < w.heap.size) (.slice A (sn H).length c) (sn H) := by
    refine Kd.V_mk (by rw [sn_len]; exact hc) (Kd.C_F PAll.k95_heap ?_)
    rw [sn_len]
    exact hC
  have hcl := PAll.swardref12_array.calls k _ A c (sn H) root l _ w hV hk
  rw [sn_len] at hcl
  refine hcl.mono ?_
  rintro e w' ⟨v, rfl, h0, hB⟩
  obtain ⟨A0, c0, rfl⟩ := Kd.V_slice h0
  exact ⟨⟨A0, c0, l, rfl, (Kd.V_reads' h0).2.1, (Kd.V_reads' h0).2.2, hm⟩, hB⟩
theorem two_got {base : Nat} {w' : World} {v : Value} {r : Option (List Int)} (h : Ints w' base v (PAll.two r).1) : ElGot w' (.returned (.tuple #[v, .bool (PAll.two r).2])) r := by
  obtain ⟨A, c, rfl, hc, hC⟩ := Kd.R_reads h
  exact ⟨A, c, _, rfl, hc, hC, fun m hm => by rw [hm]; rfl⟩
theorem rbits_calls (H : Sh.Hp) (root : Int) (A : Option Addr) (c : Nat) (w : World) (hC : Nodes w A H) (hc : H.length ≤ c) (hl : H.length ≤ 1000000) :
    Calls Tryz.prog 65 #[.slice A H.length c, .int .i64 root] w fun e w' => ElGot w' e (Sh.listPages H root) ∧ Below w.heap.size w w' := by
  obtain ⟨k, hk⟩ := (PAll.ev_bitset H root hl).rounds
  have hC' : Kd.C PAll.k95 w A (sn H).length (sn H) := by rw [sn_len]; exact hC
  have hcl := PAll.swardref12_bitset.calls k A c (sn H) root _ _ w hC' (by rw [sn_len]; exact hc) hk
  rw [sn_len] at hcl
  refine hcl.mono ?_
  rintro e w' ⟨v, rfl, h0, hB⟩
  exact ⟨two_got h0, hB⟩
theorem rtrie_calls (H : Sh.Hp) (root : Int) (A : Option Addr) (c : Nat) (w : World) (hC : Nodes w A H) (hc : H.length ≤ c) (hl : H.length ≤ 1000000) :
    Calls Tryz.prog 67 #[.slice A H.length c, .int .i64 root, .int .i64 1, .int .i64 0] w fun e w' => ElGot w' e (Sh.walkTrie H 4 root 0) ∧ Below w.heap.size w w' := by
  obtain ⟨k, hk⟩ := (PAll.ev_trie_top H hl root).rounds
  have hC' : Kd.C PAll.k95 w A (sn H).length (sn H) := by rw [sn_len]; exact hC
  have hcl := PAll.swardref12_trie.calls k A c (sn H) root 1 0 _ _ w hC' (by rw [sn_len]; exact hc) hk
  rw [sn_len] at hcl
  refine hcl.mono ?_
  rintro e w' ⟨v, rfl, h0, hB⟩
  exact ⟨two_got h0, hB⟩
theorem relements_calls (H : Sh.Hp) (f root n : Int) (A : Option Addr) (c : Nat) (w : World) (hC : Nodes w A H) (hc : H.length ≤ c) (hl : H.length ≤ 1000000) (hbig : Sh.there H root = true → (Sh.nd H root).1.length ≤ 1000000) :
    Calls Tryz.prog 23 #[.slice A H.length c, shV f root n] w fun e w' => ElGot w' e (Sh.elems H f root n) ∧ Below w.heap.size w w' := by
  obtain ⟨R, hR⟩ : ∃ R, R = Sh.elems H f root n := ⟨_, rfl⟩
  rw [← hR]
  unfold Sh.elems Sh.list at hR
  obtain ⟨W1, hW1⟩ : ∃ W1, W1 = w.alloc (.cells #[.int .i64 f, .int .i64 root, .int .i64 n] 25) := ⟨_, rfl⟩
  have hB1 := Lib.hid (show Below w.heap.size w W1 by rw [hW1]; exact shape_box w f root n)
  have hblk := Lib.hid (show W1.heap[w.heap.size]? = some (.cells #[.int .i64 f, .int .i64 root, .int .i64 n] 25 (0, 0)) by rw [hW1]; exact heap_alloc_new w _)
  have hCW := Lib.hid (Kd.C_below hC hB1.out)
  have hBf := Lib.hid (fun W (hW : Below W1.heap.size W1 W) => (hB1.out.trans (hW.mono hB1.out.size) : Below w.heap.size w W))
  have hcells := Lib.hid (fun W (hW : Below W1.heap.size W1 W) => (⟨by rw [blk_cell (blk_below hblk.out hW)]; rfl, by rw [blk_cell (blk_below hblk.out hW)]; rfl⟩ : W.cell? ⟨w.heap.size, 1, none⟩ = some (.int .i64 root) ∧ W.cell? ⟨w.heap.size, 2, none⟩ = some (.int .i64 n)))
  clear hC
  by_cases h1 : f = 1
  · subst h1
    rw [if_pos rfl] at hR
    have hcl := Lib.hid (rarray_calls H root A c W1 hCW.out hc hl hbig)
    obtain ⟨r, hr⟩ : ∃ r, r = Sh.listArray H root := ⟨_, rfl⟩
    rw [← hr] at hcl hR
    replace hR := Lib.hid hR
    replace hr := Lib.hid hr
    clear hblk hCW
    go_enter Tryz.func23, Tryz.ntmps23
    go_wp2_with fail
    rw [← hW1]
    refine (hcl.out).mono ?_
    rintro e w1 ⟨⟨A1, c1, l, rfl, hc1, hC1, hm⟩, hB⟩
    obtain ⟨d1, d2⟩ := hcells.out _ hB
    have hBw := Lib.hid (hBf.out _ hB)
    clear hW1 hB hcells hBf
    rcases r with _ | m
    · obtain rfl : R = none := hR.out
      replace hC1 := Lib.hid hC1
      replace hc1 := Lib.hid hc1
      clear hm
      go_wp2
      go_quiet (fail)
      go_wp2
      go_ret2
      exact ⟨⟨A1, c1, l, rfl, hc1.out, Kd.C_drewN hC1.out _, fun m hm => by cases hm⟩, pw_below_drewN hBw.out _⟩
    · obtain rfl : l = m := hm m rfl
      replace hR := Lib.hid (show R = if (l.length : Int) = n then some l else none from hR.out)
      replace hC1 := Lib.hid hC1
      replace hc1 := Lib.hid hc1
      clear hm
      obtain ⟨q, hq⟩ : ∃ q, q = l.length := ⟨_, rfl⟩
      rw [← hq] at hR hc1 hC1 ⊢
      replace hq := Lib.hid hq
      by_cases hqn : (q : Int) = n
      · obtain rfl : R = some l := by rw [hR.out]; exact if_pos hqn
        have hqb : ((q : Int) == n) = true := beq_iff_eq.mpr hqn
        clear hqn
        go_wp2
        go_quiet (fail)
        go_wp2
        go_ret2
        exact ⟨⟨A1, c1, l, by rw [← hq.out]; rfl, by rw [← hq.out]; exact hc1.out, by rw [← hq.out]; exact Kd.C_drewN hC1.out _, fun m hm => Option.some.inj hm⟩, pw_below_drewN hBw.out _⟩
      · obtain rfl : R = none := by rw [hR.out]; exact if_neg hqn
        have hqb : ((q : Int) == n) = false := beq_eq_false_iff_ne.mpr hqn
        clear hqn
        go_wp2
        go_quiet (fail)
        go_wp2
        go_ret2
        exact ⟨⟨A1, c1, l, by rw [← hq.out]; rfl, by rw [← hq.out]; exact hc1.out, by rw [← hq.out]; exact Kd.C_drewN hC1.out _, fun m hm => by cases hm⟩, pw_below_drewN hBw.out _⟩
  by_cases h2 : f = 2
  · subst h2
    rw [if_neg h1, if_pos rfl] at hR
    have hcl := Lib.hid (rbits_calls H root A c W1 hCW.out hc hl)
    obtain ⟨r, hr⟩ : ∃ r, r = Sh.listPages H root := ⟨_, rfl⟩
    rw [← hr] at hcl hR
    replace hR := Lib.hid hR
    replace hr := Lib.hid hr
    clear hblk hCW h1
    go_enter Tryz.func23, Tryz.ntmps23
    go_wp2_with fail
    rw [← hW1]
    refine (hcl.out).mono ?_
    rintro e w1 ⟨⟨A1, c1, l, rfl, hc1, hC1, hm⟩, hB⟩
    obtain ⟨d1, d2⟩ := hcells.out _ hB
    have hBw := Lib.hid (hBf.out _ hB)
    clear hW1 hB hcells hBf
    rcases r with _ | m
    · obtain rfl : R = none := hR.out
      replace hC1 := Lib.hid hC1
      replace hc1 := Lib.hid hc1
      clear hm
      go_wp2
      go_quiet (fail)
      go_wp2
      go_ret2
      exact ⟨⟨A1, c1, l, rfl, hc1.out, Kd.C_drewN hC1.out _, fun m hm => by cases hm⟩, pw_below_drewN hBw.out _⟩
    · obtain rfl : l = m := hm m rfl
      replace hR := Lib.hid (show R = if (l.length : Int) = n then some l else none from hR.out)
      replace hC1 := Lib.hid hC1
      replace hc1 := Lib.hid hc1
      clear hm
      obtain ⟨q, hq⟩ : ∃ q, q = l.length := ⟨_, rfl⟩
      rw [← hq] at hR hc1 hC1 ⊢
      replace hq := Lib.hid hq
      by_cases hqn : (q : Int) = n
      · obtain rfl : R = some l := by rw [hR.out]; exact if_pos hqn
        have hqb : ((q : Int) == n) = true := beq_iff_eq.mpr hqn
        clear hqn
        go_wp2
        go_quiet (fail)
        go_wp2
        go_ret2
        exact ⟨⟨A1, c1, l, by rw [← hq.out]; rfl, by rw [← hq.out]; exact hc1.out, by rw [← hq.out]; exact Kd.C_drewN hC1.out _, fun m hm => Option.some.inj hm⟩, pw_below_drewN hBw.out _⟩
      · obtain rfl : R = none := by rw [hR.out]; exact if_neg hqn
        have hqb : ((q : Int) == n) = false := beq_eq_false_iff_ne.mpr hqn
        clear hqn
        go_wp2
        go_quiet (fail)
        go_wp2
        go_ret2
        exact ⟨⟨A1, c1, l, by rw [← hq.out]; rfl, by rw [← hq.out]; exact hc1.out, by rw [← hq.out]; exact Kd.C_drewN hC1.out _, fun m hm => by cases hm⟩, pw_below_drewN hBw.out _⟩
  by_cases h3 : f = 3
  · subst h3
    rw [if_neg h1, if_neg h2, if_pos rfl] at hR
    have hcl := Lib.hid (rtree_calls 1026 H root 0 1023 A c W1 hCW.out hc (by omega) (by omega) (by omega) (by omega))
    have htl : Sh.listTree H root = Sh.walkTree H 1026 root (0 - 1) (1023 + 1) := rfl
    rw [htl] at hR
    obtain ⟨r, hr⟩ : ∃ r, r = Sh.walkTree H 1026 root (0 - 1) (1023 + 1) := ⟨_, rfl⟩
    rw [← hr] at hcl hR
    obtain ⟨t, ht⟩ : ∃ t, t = Sh.height H root := ⟨_, rfl⟩
    rw [← ht] at hcl
    replace hcl := Lib.hid (Calls.mono hcl.out (fun e w' h => (⟨by
      obtain ⟨⟨v, he, ho⟩, hB⟩ := h
      obtain ⟨A1, c1, hv, hc1, hC1⟩ := Kd.R_reads ho
      exact ⟨(if r.isSome then t else 0), A1, c1, r.getD [], by rw [he, hv], hc1, hC1, fun m hm => by rw [hm]; rfl⟩, h.2⟩ : (∃ t' A1 c1 l, e = .returned (.tuple #[.slice A1 (l : List Int).length c1, .int .i64 t', .bool r.isSome]) ∧ l.length ≤ c1 ∧ Kd.C kI w' A1 l.length l ∧ ∀ m, r = some m → l = m) ∧ Below W1.heap.size W1 w')))
    replace hR := Lib.hid hR
    replace hr := Lib.hid hr
    clear hblk hCW h1 h2 htl ht
    go_enter Tryz.func23, Tryz.ntmps23
    go_wp2_with fail
    rw [← hW1]
    refine (hcl.out).mono ?_
    rintro e w1 ⟨⟨t', A1, c1, l, rfl, hc1, hC1, hm⟩, hB⟩
    obtain ⟨d1, d2⟩ := hcells.out _ hB
    have hBw := Lib.hid (hBf.out _ hB)
    clear hW1 hB hcells hBf
    rcases r with _ | m
    · obtain rfl : R = none := hR.out
      replace hC1 := Lib.hid hC1
      replace hc1 := Lib.hid hc1
      clear hm
      go_wp2
      go_quiet (fail)
      go_wp2
      go_ret2
      exact ⟨⟨A1, c1, l, rfl, hc1.out, Kd.C_drewN hC1.out _, fun m hm => by cases hm⟩, pw_below_drewN hBw.out _⟩
    · obtain rfl : l = m := hm m rfl
      replace hR := Lib.hid (show R = if (l.length : Int) = n then some l else none from hR.out)
      replace hC1 := Lib.hid hC1
      replace hc1 := Lib.hid hc1
      clear hm
      obtain ⟨q, hq⟩ : ∃ q, q = l.length := ⟨_, rfl⟩
      rw [← hq] at hR hc1 hC1 ⊢
      replace hq := Lib.hid hq
      by_cases hqn : (q : Int) = n
      · obtain rfl : R = some l := by rw [hR.out]; exact if_pos hqn
        have hqb : ((q : Int) == n) = true := beq_iff_eq.mpr hqn
        clear hqn
        go_wp2
        go_quiet (fail)
        go_wp2
        go_ret2
        exact ⟨⟨A1, c1, l, by rw [← hq.out]; rfl, by rw [← hq.out]; exact hc1.out, by rw [← hq.out]; exact Kd.C_drewN hC1.out _, fun m hm => Option.some.inj hm⟩, pw_below_drewN hBw.out _⟩
      · obtain rfl : R = none := by rw [hR.out]; exact if_neg hqn
        have hqb : ((q : Int) == n) = false := beq_eq_false_iff_ne.mpr hqn
        clear hqn
        go_wp2
        go_quiet (fail)
        go_wp2
        go_ret2
        exact ⟨⟨A1, c1, l, by rw [← hq.out]; rfl, by rw [← hq.out]; exact hc1.out, by rw [← hq.out]; exact Kd.C_drewN hC1.out _, fun m hm => by cases hm⟩, pw_below_drewN hBw.out _⟩
  by_cases h4 : f = 4
  · subst h4
    rw [if_neg h1, if_neg h2, if_neg h3, if_pos rfl] at hR
    unfold Sh.listTrie at hR
    by_cases hr1 : root = -1
    · subst hr1
      rw [if_pos rfl] at hR
      replace hR := Lib.hid hR
      clear h1 h2 h3 hCW hblk
      have hcl := hcells.out W1 (Below.refl _ _)
      by_cases hn : n = 0
      · subst hn
        obtain rfl : R = some [] := hR.out
        go_enter Tryz.func23, Tryz.ntmps23
        go_wp2
        rw [← hW1]
        clear hW1
        obtain ⟨d1, d2⟩ := hcl
        go_quiet (fail)
        go_wp2
        go_ret2
        exact ⟨⟨none, 0, [], rfl, Nat.le_refl _, C_nil _, fun m hm => Option.some.inj hm⟩, pw_below_drewN hB1.out _⟩
      · obtain rfl : R = none := by rw [hR.out]; exact if_neg (fun h => hn h.symm)
        have hnb : ((0 : Int) == n) = false := beq_eq_false_iff_ne.mpr (fun h => hn h.symm)
        go_enter Tryz.func23, Tryz.ntmps23
        go_wp2
        rw [← hW1]
        clear hW1
        obtain ⟨d1, d2⟩ := hcl
        go_quiet (fail)
        go_wp2
        go_ret2
        exact ⟨⟨none, 0, [], rfl, Nat.le_refl _, C_nil _, fun m hm => by cases hm⟩, pw_below_drewN hB1.out _⟩
    · rw [if_neg hr1] at hR
      have hcl := Lib.hid (rtrie_calls H root A c W1 hCW.out hc hl)
      obtain ⟨r, hr⟩ : ∃ r, r = Sh.walkTrie H 4 root 0 := ⟨_, rfl⟩
      rw [← hr] at hcl hR
      replace hR := Lib.hid hR
      replace hr := Lib.hid hr
      have hr1b : (root == -1) = false := beq_eq_false_iff_ne.mpr hr1
      clear hblk hCW h1 h2 h3 hr1
      go_enter Tryz.func23, Tryz.ntmps23
      go_wp2_with fail
      rw [← hW1]
      refine (hcl.out).mono ?_
      rintro e w1 ⟨⟨A1, c1, l, rfl, hc1, hC1, hm⟩, hB⟩
      obtain ⟨d1, d2⟩ := hcells.out _ hB
      have hBw := Lib.hid (hBf.out _ hB)
      clear hW1 hB hcells hBf
      rcases r with _ | m
      · obtain rfl : R = none := hR.out
        replace hC1 := Lib.hid hC1
        replace hc1 := Lib.hid hc1
        clear hm
        go_wp2
        go_quiet (fail)
        go_wp2
        go_ret2
        exact ⟨⟨A1, c1, l, rfl, hc1.out, Kd.C_drewN hC1.out _, fun m hm => by cases hm⟩, pw_below_drewN hBw.out _⟩
      · obtain rfl : l = m := hm m rfl
        replace hR := Lib.hid (show R = if (l.length : Int) = n then some l else none from hR.out)
        replace hC1 := Lib.hid hC1
        replace hc1 := Lib.hid hc1
        clear hm
        obtain ⟨q, hq⟩ : ∃ q, q = l.length := ⟨_, rfl⟩
        rw [← hq] at hR hc1 hC1 ⊢
        replace hq := Lib.hid hq
        by_cases hqn : (q : Int) = n
        · obtain rfl : R = some l := by rw [hR.out]; exact if_pos hqn
          have hqb : ((q : Int) == n) = true := beq_iff_eq.mpr hqn
          clear hqn
          go_wp2
          go_quiet (fail)
          go_wp2
          go_ret2
          exact ⟨⟨A1, c1, l, by rw [← hq.out]; rfl, by rw [← hq.out]; exact hc1.out, by rw [← hq.out]; exact Kd.C_drewN hC1.out _, fun m hm => Option.some.inj hm⟩, pw_below_drewN hBw.out _⟩
        · obtain rfl : R = none := by rw [hR.out]; exact if_neg hqn
          have hqb : ((q : Int) == n) = false := beq_eq_false_iff_ne.mpr hqn
          clear hqn
          go_wp2
          go_quiet (fail)
          go_wp2
          go_ret2
          exact ⟨⟨A1, c1, l, by rw [← hq.out]; rfl, by rw [← hq.out]; exact hc1.out, by rw [← hq.out]; exact Kd.C_drewN hC1.out _, fun m hm => by cases hm⟩, pw_below_drewN hBw.out _⟩
  by_cases h5 : f = 5
  · subst h5
    rw [if_neg h1, if_neg h2, if_neg h3, if_neg h4, if_pos rfl] at hR
    have hcl := Lib.hid (rhash_calls H root A c W1 hCW.out hc hbig)
    obtain ⟨r, hr⟩ : ∃ r, r = Sh.listHash H root := ⟨_, rfl⟩
    rw [← hr] at hcl hR
    replace hR := Lib.hid hR
    replace hr := Lib.hid hr
    clear hblk hCW h1 h2 h3 h4
    go_enter Tryz.func23, Tryz.ntmps23
    go_wp2_with fail
    rw [← hW1]
    refine (hcl.out).mono ?_
    rintro e w1 ⟨⟨A1, c1, l, rfl, hc1, hC1, hm⟩, hB⟩
    obtain ⟨d1, d2⟩ := hcells.out _ hB
    have hBw := Lib.hid (hBf.out _ hB)
    clear hW1 hB hcells hBf
    rcases r with _ | m
    · obtain rfl : R = none := hR.out
      replace hC1 := Lib.hid hC1
      replace hc1 := Lib.hid hc1
      clear hm
      go_wp2
      go_quiet (fail)
      go_wp2
      go_ret2
      exact ⟨⟨A1, c1, l, rfl, hc1.out, Kd.C_drewN hC1.out _, fun m hm => by cases hm⟩, pw_below_drewN hBw.out _⟩
    · obtain rfl : l = m := hm m rfl
      replace hR := Lib.hid (show R = if (l.length : Int) = n then some l else none from hR.out)
      replace hC1 := Lib.hid hC1
      replace hc1 := Lib.hid hc1
      clear hm
      obtain ⟨q, hq⟩ : ∃ q, q = l.length := ⟨_, rfl⟩
      rw [← hq] at hR hc1 hC1 ⊢
      replace hq := Lib.hid hq
      by_cases hqn : (q : Int) = n
      · obtain rfl : R = some l := by rw [hR.out]; exact if_pos hqn
        have hqb : ((q : Int) == n) = true := beq_iff_eq.mpr hqn
        clear hqn
        go_wp2
        go_quiet (fail)
        go_wp2
        go_ret2
        exact ⟨⟨A1, c1, l, by rw [← hq.out]; rfl, by rw [← hq.out]; exact hc1.out, by rw [← hq.out]; exact Kd.C_drewN hC1.out _, fun m hm => Option.some.inj hm⟩, pw_below_drewN hBw.out _⟩
      · obtain rfl : R = none := by rw [hR.out]; exact if_neg hqn
        have hqb : ((q : Int) == n) = false := beq_eq_false_iff_ne.mpr hqn
        clear hqn
        go_wp2
        go_quiet (fail)
        go_wp2
        go_ret2
        exact ⟨⟨A1, c1, l, by rw [← hq.out]; rfl, by rw [← hq.out]; exact hc1.out, by rw [← hq.out]; exact Kd.C_drewN hC1.out _, fun m hm => by cases hm⟩, pw_below_drewN hBw.out _⟩
  rw [if_neg h1, if_neg h2, if_neg h3, if_neg h4, if_neg h5] at hR
  obtain rfl : R = none := hR
  have e1 : (f == 1) = false := beq_eq_false_iff_ne.mpr h1
  have e2 : (f == 2) = false := beq_eq_false_iff_ne.mpr h2
  have e3 : (f == 3) = false := beq_eq_false_iff_ne.mpr h3
  have e4 : (f == 4) = false := beq_eq_false_iff_ne.mpr h4
  have e5 : (f == 5) = false := beq_eq_false_iff_ne.mpr h5
  have hcl := hcells.out W1 (Below.refl _ _)
  clear h1 h2 h3 h4 h5 hblk hCW
  go_enter Tryz.func23, Tryz.ntmps23
  go_wp2
  rw [← hW1]
  clear hW1
  obtain ⟨d1, d2⟩ := hcl
  go_quiet (fail)
  go_wp2
  go_ret2
  exact ⟨⟨none, 0, [], rfl, Nat.le_refl _, C_nil _, fun m hm => by cases hm⟩, pw_below_drewN hB1.out _⟩
end Go.Proofs.YtbfedeedicnedaaGreat
end
section
namespace Go.Proofs.YtbfedeedicnedaaGreat
open Go.RowKit
open Go.Proofs.YtbfedeedicnedaaGreatW.PrintWords
theorem same_calls (a b : List Int) (A0 : Option Addr) (c0 : Nat) (A1 : Option Addr) (c1 : Nat) (w : World) (h0 : Kd.C kI w A0 a.length a) (hc0 : a.length ≤ c0) (h1 : Kd.C kI w A1 b.length b) (hc1 : b.length ≤ c1) (ha : a.length ≤ 1000000) {r : Bool} (hr : decide (a = b) = r) :
    Calls Tryz.prog 24 #[.slice A0 a.length c0, .slice A1 b.length c1] w fun e w' => e = .returned (.bool r) ∧ Drawn0 w w' := by
  subst hr
  obtain ⟨k, hk⟩ := (PAll.ev_same a b ha).rounds
  exact PAll.swardlaw12_same.calls k A0 c0 a A1 c1 b _ w h0 hc0 h1 hc1 hk
theorem fresh_calls (H E : Sh.Hp) (m : Int) (A : Option Addr) (c : Nat) (AG : Option Addr) (cG : Nat) (w : World) (hC : Nodes w A H) (hc : H.length ≤ c) (hG : Nodes w AG (H ++ E)) (hcG : (H ++ E).length ≤ cG) (hl : H.length + E.length ≤ 1000000) (hm : (E.length : Int) ≤ m) (hbig : ∀ p ∈ H, p.1.length ≤ 1000000 ∧ p.2.length ≤ 1000000) :
    Calls Tryz.prog 58 #[.slice A H.length c, .slice AG (H ++ E).length cG, .int .i64 m] w fun e w' => e = .returned (.bool true) ∧ Drawn0 w w' := by
  obtain ⟨k, hk⟩ := (PAll.ev_fresh H E m hl hm hbig).rounds
  have h1 : Kd.C PAll.k95 w A (sn H).length (sn H) := by rw [sn_len]; exact hC
  have h2 : Kd.C PAll.k95 w AG (sn (H ++ E)).length (sn (H ++ E)) := by rw [sn_len]; exact hG
  have := PAll.swardlaw12_fresh.calls k A c (sn H) AG cG (sn (H ++ E)) m true w h1 (by rw [sn_len]; exact hc) h2 (by rw [sn_len]; exact hcG) hk
  rw [sn_len, sn_len] at this
  exact this
theorem holds_calls (H E : Sh.Hp) (f root n m : Int) (l : List Int) (A : Option Addr) (c : Nat) (AG : Option Addr) (cG : Nat) (A2 : Option Addr) (c2 : Nat) (w : World) (hC : Nodes w A H) (hc : H.length ≤ c) (hG : Nodes w AG (H ++ E)) (hcG : (H ++ E).length ≤ cG) (hL : Kd.C kI w A2 l.length l) (hc2 : l.length ≤ c2) (hl : H.length + E.length ≤ 1000000) (hm : (E.length : Int) ≤ m) (hll : l.length ≤ 1000000) (hbig : ∀ p ∈ H, p.1.length ≤ 1000000 ∧ p.2.length ≤ 1000000) (hel : Sh.elems (H ++ E) f root n = some l) :
    Calls Tryz.prog 32 #[.slice A H.length c, .slice AG (H ++ E).length cG, shV f root n, .int .i64 f, .slice A2 l.length c2, .int .i64 m] w fun e w' => e = .returned (.bool true) ∧ Below w.heap.size w w' := by
  obtain ⟨W1, hW1⟩ : ∃ W1, W1 = w.alloc (.cells #[.int .i64 f, .int .i64 root, .int .i64 n] 25) := ⟨_, rfl⟩
  have hB1 := Lib.hid (show Below w.heap.size w W1 by rw [hW1]; exact shape_box w f root n)
  have hblk := Lib.hid (show W1.heap[w.heap.size]? = some (.cells #[.int .i64 f, .int .i64 root, .int .i64 n] 25 (0, 0)) by rw [hW1]; exact heap_alloc_new w _)
  have hcl := Lib.hid (relements_calls (H ++ E) f root n AG cG W1 (Kd.C_below hG hB1.out) hcG (by rw [List.length_append]; exact hl) (fun ht => Sh.elems_root hel hll ht))
  rw [hel] at hcl
  have hBf := Lib.hid (fun W (hW : Below W1.heap.size W1 W) => (hB1.out.trans (hW.mono hB1.out.size) : Below w.heap.size w W))
  have hcell := Lib.hid (fun W (hW : Below W1.heap.size W1 W) => (by rw [blk_cell (blk_below hblk.out hW)]; rfl : W.cell? ⟨w.heap.size, 0, none⟩ = some (.int .i64 f)))
  have hfr := Lib.hid (fun W (hW : Below W1.heap.size W1 W) => fresh_calls H E m A c AG cG W (Kd.C_below hC (hBf.out W hW)) hc (Kd.C_below hG (hBf.out W hW)) hcG hl hm hbig)
  have hsa := Lib.hid (fun A1 c1 W (hW : Below W1.heap.size W1 W) (h1 : Kd.C kI W A1 l.length l) (hc1 : l.length ≤ c1) => same_calls l l A1 c1 A2 c2 W h1 hc1 (Kd.C_below hL (hBf.out W hW)) hc2 hll (decide_eq_true rfl))
  have hffb : (f == f) = true := beq_self_eq_true f
  obtain ⟨q, hq⟩ : ∃ q, q = (H ++ E).length := ⟨_, rfl⟩
  rw [← hq] at hcl hfr ⊢
  obtain ⟨q2, hq2⟩ : ∃ q2, q2 = l.length := ⟨_, rfl⟩
  have hq2h := Lib.hid hq2
  rw [← hq2] at hsa ⊢
  clear hC hG hL hblk hq hq2 hel hbig
  go_enter Tryz.func32, Tryz.ntmps32
  go_wp2_with fail
  rw [← hW1]
  clear hW1
  refine (hcl.out).mono ?_
  rintro e w1 ⟨⟨A1, c1, l1, rfl, hc1, hC1, hm1⟩, hB⟩
  obtain rfl : l1 = l := hm1 l rfl
  rw [← hq2h.out] at hC1 hc1 ⊢
  replace hC1 := Lib.hid hC1
  have hBh := Lib.hid hB
  clear hm1 hB
  go_wp2_with fail
  refine (hfr.out _ hBh.out).mono ?_
  rintro e w2 ⟨rfl, nq, rfl⟩
  have hB2 := Lib.hid (pw_below_drewN hBh.out nq)
  have hC2 := Lib.hid (Kd.C_drewN hC1.out nq)
  have hk := hcell.out _ hB2.out
  go_wp2_with fail
  refine (hsa.out _ _ _ hB2.out hC2.out hc1).mono ?_
  rintro e w3 ⟨rfl, nr, rfl⟩
  have hB3 := Lib.hid (hBf.out _ (pw_below_drewN hB2.out nr))
  rw [World.drewN_drewN] at hB3
  clear hk
  go_wp2
  go_ret
  exact ⟨rfl, hB3.out⟩
theorem nothing_calls (A : Option Addr) (c : Nat) (w : World) :
    Calls Tryz.prog 31 #[.slice A 0 c, shV 0 0 0] w fun e w' => e = .returned (.bool true) ∧ Below w.heap.size w w' := by
  have hB := Lib.hid (shape_box w 0 0 0)
  go_enter Tryz.func31, Tryz.ntmps31
  go_wp2
  go_ret
  exact ⟨rfl, hB.out⟩
def Small (H : Sh.Hp) : Prop := H.length ≤ 3000 → ∀ p ∈ H, p.1.length ≤ 1000000 ∧ p.2.length ≤ 1000000
theorem rcheck_calls (H : Sh.Hp) (f root n : Int) (A : Option Addr) (c : Nat) (w : World) (hC : Nodes w A H) (hc : H.length ≤ c) (hl : H.length ≤ 1000000) (hbig : Small H) :
    Calls Tryz.prog 19 #[.slice A H.length c, shV f root n] w fun e w' => e = .returned (.int .i64 (Sh.listed H f root n).2) ∧ Below w.heap.size w w' := by
  have hB1 := Lib.hid (shape_box w f root n)
  by_cases h1 : 3000 < H.length
  · have hE : (Sh.listed H f root n).2 = 3 := by unfold Sh.listed; rw [if_pos h1]
    rw [hE]
    have h1b : decide (3000 < (H.length : Int)) = true := decide_eq_true (by omega)
    have h1c : decide (3000 < H.length) = true := decide_eq_true h1
    clear hC hE
    go_enter Tryz.func19, Tryz.ntmps19
    go_wp2
    go_ret
    exact ⟨rfl, hB1.out⟩
  · have hcl := Lib.hid (relements_calls H f root n A c (w.alloc (.cells #[.int .i64 f, .int .i64 root, .int .i64 n] 25)) (Kd.C_alloc hC _) hc hl (fun ht => (hbig (by omega) _ (List.mem_of_getElem? (Sh.nd_there ht))).1))
    have hE := Sh.listed_elems H f root n (by omega)
    obtain ⟨R, hR⟩ : ∃ R, R = Sh.elems H f root n := ⟨_, rfl⟩
    rw [← hR] at hcl hE
    have hBf := Lib.hid (fun W (hW : Below (w.alloc (.cells #[.int .i64 f, .int .i64 root, .int .i64 n] 25)).heap.size (w.alloc (.cells #[.int .i64 f, .int .i64 root, .int .i64 n] 25)) W) => (hB1.out.trans (hW.mono hB1.out.size) : Below w.heap.size w W))
    rw [hE]
    clear hC hE hR
    rcases R with _ | l
    · show Calls _ _ _ _ fun e w' => e = .returned (.int .i64 2) ∧ _
      go_enter Tryz.func19, Tryz.ntmps19
      go_wp2_with fail
      refine (hcl.out).mono ?_
      rintro e w1 ⟨⟨A1, c1, l1, rfl, hc1, hC1, hm1⟩, hB⟩
      have hBw := Lib.hid (hBf.out _ hB)
      clear hc1 hC1 hm1 hB
      go_wp2
      go_ret
      exact ⟨rfl, hBw.out⟩
    · show Calls _ _ _ _ fun e w' => e = .returned (.int .i64 0) ∧ _
      go_enter Tryz.func19, Tryz.ntmps19
      go_wp2_with fail
      refine (hcl.out).mono ?_
      rintro e w1 ⟨⟨A1, c1, l1, rfl, hc1, hC1, hm1⟩, hB⟩
      have hBw := Lib.hid (hBf.out _ hB)
      clear hc1 hC1 hm1 hB
      go_wp2
      go_ret
      exact ⟨rfl, hBw.out⟩
theorem Height_calls {H : Sh.Hp} {r lo hi t : Int} {l : List Int} (T : Sh.Tr H r lo hi l t) (f n : Int) (A : Option Addr) (c : Nat) (w : World) (hC : Nodes w A H) (hc : H.length ≤ c) :
    Calls Tryz.prog 46 #[.slice A H.length c, shV f r n] w fun e w' => e = .returned (.int .i64 t) ∧ Below w.heap.size w w' := by
  have hC' : Kd.C PAll.k95 w A (sn H).length (sn H) := by rw [sn_len]; exact hC
  have := PAll.swardref12_Height.calls A c (sn H) f r n t w hC' (by rw [sn_len]; exact hc) (PAll.Height_f T f n)
  rw [sn_len] at this
  exact this
end Go.Proofs.YtbfedeedicnedaaGreat
end
section
namespace Go.Proofs.YtbfedeedicnedaaGreat
open Go.RowKit
open Go.Proofs.YtbfedeedicnedaaGreatW.PrintWords
theorem below_set2 {w w1 : World} {q : Nat} (j : Nat) (h : Below q w w1) (x y z : Value) : Below q w (((w1.setCell ⟨q + j, 0, none⟩ x).setCell ⟨q + j, 1, none⟩ y).setCell ⟨q + j, 2, none⟩ z) :=
  ((h.setCell (p := ⟨q + j, 0, none⟩) (Nat.le_add_right _ _) x).setCell (p := ⟨q + j, 1, none⟩) (Nat.le_add_right _ _) y).setCell (p := ⟨q + j, 2, none⟩) (Nat.le_add_right _ _) z
theorem Join_bad1 {H : Sh.Hp} {fa ra na fb rb nb x : Int} {A : Option Addr} {c : Nat} {w : World} {l m : List Int} (hC : Nodes w A H) (hLa : ListsF H fa) {ea : Int} (ha : Sh.listed H fa ra na = (l, ea)) (he : ea ≠ 0) :
    Calls Tryz.prog 47 #[.slice A H.length c, shV fa ra na, .int .i64 x, shV fb rb nb] w fun e w' => Out3 w.heap.size w' e [] 0 0 0 ea ∧ Below w.heap.size w w' := by
  obtain ⟨W0, hW0⟩ : ∃ W0, W0 = ((w.alloc (.cells #[.int .i64 fa, .int .i64 ra, .int .i64 na] 25)).alloc (.cells #[.int .i64 fb, .int .i64 rb, .int .i64 nb] 25)).alloc (.cells #[.int .i64 0, .int .i64 0, .int .i64 0] 25) := ⟨_, rfl⟩
  have hsz := Lib.hid (show W0.heap.size = w.heap.size + 3 by rw [hW0, World.size_alloc, World.size_alloc, World.size_alloc])
  have b1 := Lib.hid (show W0.heap[w.heap.size]? = some (.cells #[.int .i64 fa, .int .i64 ra, .int .i64 na] 25 (0, 0)) by
    rw [hW0]
    exact blk_alloc (blk_alloc (heap_alloc_new w _) _) _)
  have b2 := Lib.hid (show W0.heap[w.heap.size + 1]? = some (.cells #[.int .i64 fb, .int .i64 rb, .int .i64 nb] 25 (0, 0)) by
    have := blk_alloc (heap_alloc_new (w.alloc (.cells #[.int .i64 fa, .int .i64 ra, .int .i64 na] 25)) (.cells #[.int .i64 fb, .int .i64 rb, .int .i64 nb] 25)) (.cells #[.int .i64 0, .int .i64 0, .int .i64 0] 25)
    rw [World.size_alloc] at this
    rw [hW0]
    exact this)
  have b3 := Lib.hid (show W0.heap[w.heap.size + 2]? = some (.cells #[.int .i64 0, .int .i64 0, .int .i64 0] 25 (0, 0)) by
    have := heap_alloc_new ((w.alloc (.cells #[.int .i64 fa, .int .i64 ra, .int .i64 na] 25)).alloc (.cells #[.int .i64 fb, .int .i64 rb, .int .i64 nb] 25)) (.cells #[.int .i64 0, .int .i64 0, .int .i64 0] 25)
    rw [World.size_alloc, World.size_alloc] at this
    rw [hW0]
    exact this)
  have hB0 := Lib.hid (show Below w.heap.size w W0 by
    rw [hW0]
    exact (((Below.refl _ _).alloc (Nat.le_refl _) _).alloc (by rw [World.size_alloc]; omega) _).alloc (by rw [World.size_alloc, World.size_alloc]; omega) _)
  have hBw := Lib.hid (fun W (hW : Below W0.heap.size W0 W) => (hB0.out.trans (hW.mono (by have := hsz.out; omega)) : Below w.heap.size w W))
  have hla := Lib.hid (fun W (hW : Below W0.heap.size W0 W) => by have := listed_calls H fa ra na A c W (Kd.C_below hC (hBw.out W hW)) hLa; rw [ha] at this; exact this)
  have heb : (ea != 0) = true := bne_iff_ne.mpr he
  clear hC hLa ha he
  go_enter Tryz.func47, Tryz.ntmps47
  go_wp2_with fail
  rw [← hW0]
  clear hW0
  refine (hla.out _ (Below.refl _ _)).mono ?_
  rintro e w1 ⟨⟨v1, l1, rfl, o1, hx0, hx1⟩, hb1⟩
  have hB1 := Lib.hid hb1
  have hr9 := blk_below b3.out hb1
  have hf9 := blk_frozen hr9
  have c90 : w1.cell? ⟨w.heap.size + 2, 0, none⟩ = some (.int .i64 0) := by rw [blk_cell hr9]; rfl
  have c91 : w1.cell? ⟨w.heap.size + 2, 1, none⟩ = some (.int .i64 0) := by rw [blk_cell hr9]; rfl
  have c92 : w1.cell? ⟨w.heap.size + 2, 2, none⟩ = some (.int .i64 0) := by rw [blk_cell hr9]; rfl
  have hBf := Lib.hid (hBw.out _ hb1)
  replace hr9 := Lib.hid hr9
  clear hb1 o1 hx1 hx0
  go_wp2
  refine bodyPost_ret (results_tct rfl _ _ (w.heap.size + 2) #[.int .i64 0, .int .i64 0, .int .i64 0] rfl (load_set3 hr9.out)) rfl ?_
  exact ⟨⟨_, rfl, Kd.R_nil _ _ _ _ _⟩, below_set2 2 hBf.out _ _ _⟩
theorem Join_bad2 {H : Sh.Hp} {fa ra na fb rb nb x : Int} {A : Option Addr} {c : Nat} {w : World} {l m : List Int} (hC : Nodes w A H) (hLa : ListsF H fa) (hLb : ListsF H fb) {eb : Int} (ha : Sh.listed H fa ra na = (l, 0)) (hb : Sh.sought H fb rb nb x = (m, eb)) (he : eb ≠ 0) :
    Calls Tryz.prog 47 #[.slice A H.length c, shV fa ra na, .int .i64 x, shV fb rb nb] w fun e w' => Out3 w.heap.size w' e [] 0 0 0 eb ∧ Below w.heap.size w w' := by
  obtain ⟨W0, hW0⟩ : ∃ W0, W0 = ((w.alloc (.cells #[.int .i64 fa, .int .i64 ra, .int .i64 na] 25)).alloc (.cells #[.int .i64 fb, .int .i64 rb, .int .i64 nb] 25)).alloc (.cells #[.int .i64 0, .int .i64 0, .int .i64 0] 25) := ⟨_, rfl⟩
  have hsz := Lib.hid (show W0.heap.size = w.heap.size + 3 by rw [hW0, World.size_alloc, World.size_alloc, World.size_alloc])
  have b1 := Lib.hid (show W0.heap[w.heap.size]? = some (.cells #[.int .i64 fa, .int .i64 ra, .int .i64 na] 25 (0, 0)) by
    rw [hW0]
    exact blk_alloc (blk_alloc (heap_alloc_new w _) _) _)
  have b2 := Lib.hid (show W0.heap[w.heap.size + 1]? = some (.cells #[.int .i64 fb, .int .i64 rb, .int .i64 nb] 25 (0, 0)) by
    have := blk_alloc (heap_alloc_new (w.alloc (.cells #[.int .i64 fa, .int .i64 ra, .int .i64 na] 25)) (.cells #[.int .i64 fb, .int .i64 rb, .int .i64 nb] 25)) (.cells #[.int .i64 0, .int .i64 0, .int .i64 0] 25)
    rw [World.size_alloc] at this
    rw [hW0]
    exact this)
  have b3 := Lib.hid (show W0.heap[w.heap.size + 2]? = some (.cells #[.int .i64 0, .int .i64 0, .int .i64 0] 25 (0, 0)) by
    have := heap_alloc_new ((w.alloc (.cells #[.int .i64 fa, .int .i64 ra, .int .i64 na] 25)).alloc (.cells #[.int .i64 fb, .int .i64 rb, .int .i64 nb] 25)) (.cells #[.int .i64 0, .int .i64 0, .int .i64 0] 25)
    rw [World.size_alloc, World.size_alloc] at this
    rw [hW0]
    exact this)
  have hB0 := Lib.hid (show Below w.heap.size w W0 by
    rw [hW0]
    exact (((Below.refl _ _).alloc (Nat.le_refl _) _).alloc (by rw [World.size_alloc]; omega) _).alloc (by rw [World.size_alloc, World.size_alloc]; omega) _)
  have hBw := Lib.hid (fun W (hW : Below W0.heap.size W0 W) => (hB0.out.trans (hW.mono (by have := hsz.out; omega)) : Below w.heap.size w W))
  have hla := Lib.hid (fun W (hW : Below W0.heap.size W0 W) => by have := listed_calls H fa ra na A c W (Kd.C_below hC (hBw.out W hW)) hLa; rw [ha] at this; exact this)
  have hlb := Lib.hid (fun W (hW : Below W0.heap.size W0 W) => by have := sought_calls H fb rb nb x A c W (Kd.C_below hC (hBw.out W hW)) hLb; rw [hb] at this; exact this)
  have heb : (eb != 0) = true := bne_iff_ne.mpr he
  clear hC hLa hLb ha hb he
  go_enter Tryz.func47, Tryz.ntmps47
  go_wp2_with fail
  rw [← hW0]
  clear hW0
  refine (hla.out _ (Below.refl _ _)).mono ?_
  rintro e w1 ⟨⟨v1, l1, rfl, o1, hx0, hx1⟩, hb1⟩
  have hB1 := Lib.hid hb1
  have r6 : w1.cell? ⟨w.heap.size + 1, 0, none⟩ = some (.int .i64 fb) := by rw [blk_cell (blk_below b2.out hb1)]; rfl
  have r7 : w1.cell? ⟨w.heap.size + 1, 1, none⟩ = some (.int .i64 rb) := by rw [blk_cell (blk_below b2.out hb1)]; rfl
  have r8 : w1.cell? ⟨w.heap.size + 1, 2, none⟩ = some (.int .i64 nb) := by rw [blk_cell (blk_below b2.out hb1)]; rfl
  replace hx0 := Lib.hid hx0
  replace hx1 := Lib.hid hx1
  replace o1 := Lib.hid o1
  clear hb1
  go_wp2_with fail
  refine (hlb.out _ hB1.out).mono ?_
  rintro e w2 ⟨⟨v2, m1, rfl, o2, hy0, hy1⟩, hb2⟩
  have hB2 := hB1.out.trans (hb2.mono hB1.out.size)
  have o1' := Lib.hid (Kd.R_below o1.out hb2)
  have hr9 := blk_below b3.out hB2
  have hf9 := blk_frozen hr9
  have c90 : w2.cell? ⟨w.heap.size + 2, 0, none⟩ = some (.int .i64 0) := by rw [blk_cell hr9]; rfl
  have c91 : w2.cell? ⟨w.heap.size + 2, 1, none⟩ = some (.int .i64 0) := by rw [blk_cell hr9]; rfl
  have c92 : w2.cell? ⟨w.heap.size + 2, 2, none⟩ = some (.int .i64 0) := by rw [blk_cell hr9]; rfl
  have hBf := Lib.hid (hBw.out _ hB2)
  replace hr9 := Lib.hid hr9
  clear hb2 o2 hy0 hy1 r6 r7 r8 hB2 o1 o1'
  go_wp2
  refine bodyPost_ret (results_tct rfl _ _ (w.heap.size + 2) #[.int .i64 0, .int .i64 0, .int .i64 0] rfl (load_set3 hr9.out)) rfl ?_
  exact ⟨⟨_, rfl, Kd.R_nil _ _ _ _ _⟩, below_set2 2 hBf.out _ _ _⟩
theorem Join_bad3 {H : Sh.Hp} {fa ra na fb rb nb x : Int} {A : Option Addr} {c : Nat} {w : World} {l m : List Int} (hC : Nodes w A H) (hLa : ListsF H fa) (hLb : ListsF H fb) (ha : Sh.listed H fa ra na = (l, 0)) (hb : Sh.sought H fb rb nb x = (m, 0)) (he : fa ≠ 3 ∨ fb ≠ 3) :
    Calls Tryz.prog 47 #[.slice A H.length c, shV fa ra na, .int .i64 x, shV fb rb nb] w fun e w' => Out3 w.heap.size w' e [] 0 0 0 7 ∧ Below w.heap.size w w' := by
  obtain ⟨W0, hW0⟩ : ∃ W0, W0 = ((w.alloc (.cells #[.int .i64 fa, .int .i64 ra, .int .i64 na] 25)).alloc (.cells #[.int .i64 fb, .int .i64 rb, .int .i64 nb] 25)).alloc (.cells #[.int .i64 0, .int .i64 0, .int .i64 0] 25) := ⟨_, rfl⟩
  have hsz := Lib.hid (show W0.heap.size = w.heap.size + 3 by rw [hW0, World.size_alloc, World.size_alloc, World.size_alloc])
  have b1 := Lib.hid (show W0.heap[w.heap.size]? = some (.cells #[.int .i64 fa, .int .i64 ra, .int .i64 na] 25 (0, 0)) by
    rw [hW0]
    exact blk_alloc (blk_alloc (heap_alloc_new w _) _) _)
  have b2 := Lib.hid (show W0.heap[w.heap.size + 1]? = some (.cells #[.int .i64 fb, .int .i64 rb, .int .i64 nb] 25 (0, 0)) by
    have := blk_alloc (heap_alloc_new (w.alloc (.cells #[.int .i64 fa, .int .i64 ra, .int .i64 na] 25)) (.cells #[.int .i64 fb, .int .i64 rb, .int .i64 nb] 25)) (.cells #[.int .i64 0, .int .i64 0, .int .i64 0] 25)
    rw [World.size_alloc] at this
    rw [hW0]
    exact this)
  have b3 := Lib.hid (show W0.heap[w.heap.size + 2]? = some (.cells #[.int .i64 0, .int .i64 0, .int .i64 0] 25 (0, 0)) by
    have := heap_alloc_new ((w.alloc (.cells #[.int .i64 fa, .int .i64 ra, .int .i64 na] 25)).alloc (.cells #[.int .i64 fb, .int .i64 rb, .int .i64 nb] 25)) (.cells #[.int .i64 0, .int .i64 0, .int .i64 0] 25)
    rw [World.size_alloc, World.size_alloc] at this
    rw [hW0]
    exact this)
  have hB0 := Lib.hid (show Below w.heap.size w W0 by
    rw [hW0]
    exact (((Below.refl _ _).alloc (Nat.le_refl _) _).alloc (by rw [World.size_alloc]; omega) _).alloc (by rw [World.size_alloc, World.size_alloc]; omega) _)
  have hBw := Lib.hid (fun W (hW : Below W0.heap.size W0 W) => (hB0.out.trans (hW.mono (by have := hsz.out; omega)) : Below w.heap.size w W))
  have hla := Lib.hid (fun W (hW : Below W0.heap.size W0 W) => by have := listed_calls H fa ra na A c W (Kd.C_below hC (hBw.out W hW)) hLa; rw [ha] at this; exact this)
  have hlb := Lib.hid (fun W (hW : Below W0.heap.size W0 W) => by have := sought_calls H fb rb nb x A c W (Kd.C_below hC (hBw.out W hW)) hLb; rw [hb] at this; exact this)
  clear hC hLa hLb ha hb
  by_cases h3 : fa = 3
  · have h4 : fb ≠ 3 := by rcases he with h | h; exact absurd h3 h; exact h
    have h3b : (fa != 3) = false := bne_eq_false_iff_eq.mpr h3
    have h4b : (fb != 3) = true := bne_iff_ne.mpr h4
    clear h3 h4 he
    go_enter Tryz.func47, Tryz.ntmps47
    go_wp2_with fail
    rw [← hW0]
    clear hW0
    refine (hla.out _ (Below.refl _ _)).mono ?_
    rintro e w1 ⟨⟨v1, l1, rfl, o1, hx0, hx1⟩, hb1⟩
    have hB1 := Lib.hid hb1
    have r6 : w1.cell? ⟨w.heap.size + 1, 0, none⟩ = some (.int .i64 fb) := by rw [blk_cell (blk_below b2.out hb1)]; rfl
    have r7 : w1.cell? ⟨w.heap.size + 1, 1, none⟩ = some (.int .i64 rb) := by rw [blk_cell (blk_below b2.out hb1)]; rfl
    have r8 : w1.cell? ⟨w.heap.size + 1, 2, none⟩ = some (.int .i64 nb) := by rw [blk_cell (blk_below b2.out hb1)]; rfl
    replace hx0 := Lib.hid hx0
    replace hx1 := Lib.hid hx1
    replace o1 := Lib.hid o1
    clear hb1
    go_wp2_with fail
    refine (hlb.out _ hB1.out).mono ?_
    rintro e w2 ⟨⟨v2, m1, rfl, o2, hy0, hy1⟩, hb2⟩
    have hB2 := hB1.out.trans (hb2.mono hB1.out.size)
    have o1' := Lib.hid (Kd.R_below o1.out hb2)
    have hr9 := blk_below b3.out hB2
    have hf9 := blk_frozen hr9
    have c90 : w2.cell? ⟨w.heap.size + 2, 0, none⟩ = some (.int .i64 0) := by rw [blk_cell hr9]; rfl
    have c91 : w2.cell? ⟨w.heap.size + 2, 1, none⟩ = some (.int .i64 0) := by rw [blk_cell hr9]; rfl
    have c92 : w2.cell? ⟨w.heap.size + 2, 2, none⟩ = some (.int .i64 0) := by rw [blk_cell hr9]; rfl
    have hBf := Lib.hid (hBw.out _ hB2)
    replace hr9 := Lib.hid hr9
    have s1 : w2.cell? ⟨w.heap.size, 0, none⟩ = some (.int .i64 fa) := by rw [blk_cell (blk_below b1.out hB2)]; rfl
    have s2 : w2.cell? ⟨w.heap.size + 1, 0, none⟩ = some (.int .i64 fb) := by rw [blk_cell (blk_below b2.out hB2)]; rfl
    clear hb2 o2 hy0 hy1 r6 r7 r8 hB2 o1 o1'
    go_wp2
    refine bodyPost_ret (results_tct rfl _ _ (w.heap.size + 2) #[.int .i64 0, .int .i64 0, .int .i64 0] rfl (load_set3 hr9.out)) rfl ?_
    exact ⟨⟨_, rfl, Kd.R_nil _ _ _ _ _⟩, below_set2 2 hBf.out _ _ _⟩
  · have h3b : (fa != 3) = true := bne_iff_ne.mpr h3
    clear h3 he
    go_enter Tryz.func47, Tryz.ntmps47
    go_wp2_with fail
    rw [← hW0]
    clear hW0
    refine (hla.out _ (Below.refl _ _)).mono ?_
    rintro e w1 ⟨⟨v1, l1, rfl, o1, hx0, hx1⟩, hb1⟩
    have hB1 := Lib.hid hb1
    have r6 : w1.cell? ⟨w.heap.size + 1, 0, none⟩ = some (.int .i64 fb) := by rw [blk_cell (blk_below b2.out hb1)]; rfl
    have r7 : w1.cell? ⟨w.heap.size + 1, 1, none⟩ = some (.int .i64 rb) := by rw [blk_cell (blk_below b2.out hb1)]; rfl
    have r8 : w1.cell? ⟨w.heap.size + 1, 2, none⟩ = some (.int .i64 nb) := by rw [blk_cell (blk_below b2.out hb1)]; rfl
    replace hx0 := Lib.hid hx0
    replace hx1 := Lib.hid hx1
    replace o1 := Lib.hid o1
    clear hb1
    go_wp2_with fail
    refine (hlb.out _ hB1.out).mono ?_
    rintro e w2 ⟨⟨v2, m1, rfl, o2, hy0, hy1⟩, hb2⟩
    have hB2 := hB1.out.trans (hb2.mono hB1.out.size)
    have o1' := Lib.hid (Kd.R_below o1.out hb2)
    have hr9 := blk_below b3.out hB2
    have hf9 := blk_frozen hr9
    have c90 : w2.cell? ⟨w.heap.size + 2, 0, none⟩ = some (.int .i64 0) := by rw [blk_cell hr9]; rfl
    have c91 : w2.cell? ⟨w.heap.size + 2, 1, none⟩ = some (.int .i64 0) := by rw [blk_cell hr9]; rfl
    have c92 : w2.cell? ⟨w.heap.size + 2, 2, none⟩ = some (.int .i64 0) := by rw [blk_cell hr9]; rfl
    have hBf := Lib.hid (hBw.out _ hB2)
    replace hr9 := Lib.hid hr9
    have s1 : w2.cell? ⟨w.heap.size, 0, none⟩ = some (.int .i64 fa) := by rw [blk_cell (blk_below b1.out hB2)]; rfl
    have s2 : w2.cell? ⟨w.heap.size + 1, 0, none⟩ = some (.int .i64 fb) := by rw [blk_cell (blk_below b2.out hB2)]; rfl
    clear hb2 o2 hy0 hy1 r6 r7 r8 hB2 o1 o1'
    go_wp2
    refine bodyPost_ret (results_tct rfl _ _ (w.heap.size + 2) #[.int .i64 0, .int .i64 0, .int .i64 0] rfl (load_set3 hr9.out)) rfl ?_
    exact ⟨⟨_, rfl, Kd.R_nil _ _ _ _ _⟩, below_set2 2 hBf.out _ _ _⟩
end Go.Proofs.YtbfedeedicnedaaGreat
end
