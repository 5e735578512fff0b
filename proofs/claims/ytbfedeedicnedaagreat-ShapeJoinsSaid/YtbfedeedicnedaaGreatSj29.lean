/-
  Texts of this claim: ShAL, ShLg, ShAF.
-/
import Derived.Test.YtbfedeedicnedaaGreatSj28
set_option linter.unusedVariables false
set_option linter.unusedSimpArgs false
set_option maxHeartbeats 8000000
set_option maxRecDepth 100000
section
namespace Go.Proofs.YtbfedeedicnedaaGreat
open Go.RowKit
open Go.Proofs.YtbfedeedicnedaaGreatW.PrintWords
namespace Sh
theorem Tr.cut_hi {h : Hp} {r lo hi t : Int} {l : List Int} (T : Tr h r lo hi l t) : ∀ {hi' : Int}, (∀ y ∈ l, y < hi') → Tr h r lo hi' l t := by
  induction T with
  | leaf lo hi => intro hi' _; exact .leaf _ _
  | node h0 hn hlo hhi ta tb h1 h2 ia ib =>
    intro hi' h
    exact .node h0 hn hlo (h _ (by simp)) ta (ib (fun y hy => h y (by simp [hy]))) h1 h2
theorem Tr.cut_lo {h : Hp} {r lo hi t : Int} {l : List Int} (T : Tr h r lo hi l t) : ∀ {lo' : Int}, (∀ y ∈ l, lo' < y) → Tr h r lo' hi l t := by
  induction T with
  | leaf lo hi => intro lo' _; exact .leaf _ _
  | node h0 hn hlo hhi ta tb h1 h2 ia ib =>
    intro lo' h
    exact .node h0 hn (h _ (by simp)) hhi (ia (fun y hy => h y (by simp [hy]))) tb h1 h2
theorem rise_last {l : List Int} (h : l.Pairwise (· < ·)) (n : Nat) (hn : n + 1 = l.length) : ∀ y ∈ l, y ≤ gi l n := by
  intro y hy
  obtain ⟨i, hi, rfl⟩ := List.mem_iff_getElem.1 hy
  unfold gi
  rw [List.getD_eq_getElem?_getD, List.getElem?_eq_getElem (by omega)]
  rcases Nat.lt_or_ge i n with h1 | h1
  · exact Int.le_of_lt (List.pairwise_iff_getElem.1 h i n hi (by omega) h1)
  · have : i = n := by omega
    subst this
    exact Int.le_refl _
theorem rise_first {l : List Int} (h : l.Pairwise (· < ·)) (hn : 0 < l.length) : ∀ y ∈ l, gi l 0 ≤ y := by
  intro y hy
  obtain ⟨i, hi, rfl⟩ := List.mem_iff_getElem.1 hy
  unfold gi
  rw [List.getD_eq_getElem?_getD, List.getElem?_eq_getElem hn]
  rcases Nat.eq_zero_or_pos i with h1 | h1
  · subst h1
    exact Int.le_refl _
  · exact Int.le_of_lt (List.pairwise_iff_getElem.1 h 0 i hn hi h1)
def between (l m : List Int) (x : Int) : Prop := (∀ y ∈ l, y < x) ∧ ∀ y ∈ m, x < y
end Sh
theorem Join_bad4 {H : Sh.Hp} {ra na rb nb x ta tb : Int} {A : Option Addr} {c : Nat} {w : World} {l m : List Int} (hC : Nodes w A H) (hLa : ListsF H 3) (ha : Sh.listed H 3 ra na = (l, 0)) (hb : Sh.sought H 3 rb nb x = (m, 0)) (Ta : Sh.Tr H ra (-1) 1024 l ta) (Tb : Sh.Tr H rb (-1) 1024 m tb) (hll : l.length ≤ 5000) (hmm : m.length ≤ 5000) (he : ¬ Sh.between l m x) :
    Calls Tryz.prog 47 #[.slice A H.length c, shV 3 ra na, .int .i64 x, shV 3 rb nb] w fun e w' => Out3 w.heap.size w' e [] 0 0 0 7 ∧ Below w.heap.size w w' := by
  obtain ⟨W0, hW0⟩ : ∃ W0, W0 = ((w.alloc (.cells #[.int .i64 3, .int .i64 ra, .int .i64 na] 25)).alloc (.cells #[.int .i64 3, .int .i64 rb, .int .i64 nb] 25)).alloc (.cells #[.int .i64 0, .int .i64 0, .int .i64 0] 25) := ⟨_, rfl⟩
  have hsz := Lib.hid (show W0.heap.size = w.heap.size + 3 by rw [hW0, World.size_alloc, World.size_alloc, World.size_alloc])
  have b1 := Lib.hid (show W0.heap[w.heap.size]? = some (.cells #[.int .i64 3, .int .i64 ra, .int .i64 na] 25 (0, 0)) by
    rw [hW0]
    exact blk_alloc (blk_alloc (heap_alloc_new w _) _) _)
  have b2 := Lib.hid (show W0.heap[w.heap.size + 1]? = some (.cells #[.int .i64 3, .int .i64 rb, .int .i64 nb] 25 (0, 0)) by
    have := blk_alloc (heap_alloc_new (w.alloc (.cells #[.int .i64 3, .int .i64 ra, .int .i64 na] 25)) (.cells #[.int .i64 3, .int .i64 rb, .int .i64 nb] 25)) (.cells #[.int .i64 0, .int .i64 0, .int .i64 0] 25)
    rw [World.size_alloc] at this
    rw [hW0]
    exact this)
  have b3 := Lib.hid (show W0.heap[w.heap.size + 2]? = some (.cells #[.int .i64 0, .int .i64 0, .int .i64 0] 25 (0, 0)) by
    have := heap_alloc_new ((w.alloc (.cells #[.int .i64 3, .int .i64 ra, .int .i64 na] 25)).alloc (.cells #[.int .i64 3, .int .i64 rb, .int .i64 nb] 25)) (.cells #[.int .i64 0, .int .i64 0, .int .i64 0] 25)
    rw [World.size_alloc, World.size_alloc] at this
    rw [hW0]
    exact this)
  have hB0 := Lib.hid (show Below w.heap.size w W0 by
    rw [hW0]
    exact (((Below.refl _ _).alloc (Nat.le_refl _) _).alloc (by rw [World.size_alloc]; omega) _).alloc (by rw [World.size_alloc, World.size_alloc]; omega) _)
  have hBw := Lib.hid (fun W (hW : Below W0.heap.size W0 W) => (hB0.out.trans (hW.mono (by have := hsz.out; omega)) : Below w.heap.size w W))
  have hla := Lib.hid (fun W (hW : Below W0.heap.size W0 W) => by have := listed_calls H 3 ra na A c W (Kd.C_below hC (hBw.out W hW)) hLa; rw [ha] at this; exact this)
  have hlb := Lib.hid (fun W (hW : Below W0.heap.size W0 W) => by have := sought_calls H 3 rb nb x A c W (Kd.C_below hC (hBw.out W hW)) hLa; rw [hb] at this; exact this)
  have hpl := Ta.rise
  have hpm := Tb.rise
  have he' := Lib.hid he
  have hpl' := Lib.hid hpl
  have hpm' := Lib.hid hpm
  clear hC hLa ha hb Ta Tb hpl hpm he
  go_enter Tryz.func47, Tryz.ntmps47
  go_wp2_with fail
  rw [← hW0]
  clear hW0
  refine (hla.out _ (Below.refl _ _)).mono ?_
  rintro e w1 ⟨⟨v1, l1, rfl, o1, hx0, hx1⟩, hb1⟩
  have hB1 := Lib.hid hb1
  have r6 : w1.cell? ⟨w.heap.size + 1, 0, none⟩ = some (.int .i64 3) := by rw [blk_cell (blk_below b2.out hb1)]; rfl
  have r7 : w1.cell? ⟨w.heap.size + 1, 1, none⟩ = some (.int .i64 rb) := by rw [blk_cell (blk_below b2.out hb1)]; rfl
  have r8 : w1.cell? ⟨w.heap.size + 1, 2, none⟩ = some (.int .i64 nb) := by rw [blk_cell (blk_below b2.out hb1)]; rfl
  replace hx0 := Lib.hid hx0
  replace hx1 := Lib.hid hx1
  replace o1 := Lib.hid o1
  clear hb1
  go_wp2_with fail
  refine (hlb.out _ hB1.out).mono ?_
  rintro e w2 ⟨⟨v2, m1, rfl, o2, hy0, hy1⟩, hb2⟩
  have hB2 := hB1.out.trans (hb2.mono hB1.out.size)
  have o1' := Lib.hid (Kd.R_below o1.out hb2)
  have s1 : w2.cell? ⟨w.heap.size, 0, none⟩ = some (.int .i64 3) := by rw [blk_cell (blk_below b1.out hB2)]; rfl
  have s2 : w2.cell? ⟨w.heap.size + 1, 0, none⟩ = some (.int .i64 3) := by rw [blk_cell (blk_below b2.out hB2)]; rfl
  have hD3 : ¬ Digital 3 := by unfold Digital; omega
  obtain rfl : l1 = l := hx1.out hD3
  obtain rfl : m1 = m := hy1 hD3
  obtain ⟨A1, c1, rfl, hc1, hC1⟩ := Kd.R_reads o1'.out
  obtain ⟨A2, c2, rfl, hc2, hC2⟩ := Kd.R_reads o2
  obtain ⟨n1, hn1⟩ : ∃ n1, n1 = l1.length := ⟨_, rfl⟩
  obtain ⟨n2, hn2⟩ : ∃ n2, n2 = m1.length := ⟨_, rfl⟩
  rw [← hn1] at hll hc1 hC1 ⊢
  rw [← hn2] at hmm hc2 hC2 ⊢
  have hC1' := Lib.hid hC1
  have hC2' := Lib.hid hC2
  by_cases z1 : 0 < n1
  · obtain ⟨q, hq⟩ : ∃ q, q + 1 = n1 := ⟨n1 - 1, by omega⟩
    obtain ⟨ad1, e1, f1⟩ := at_int hC1 q (by omega) (by omega)
    rw [Int.toNat_natCast] at f1
    subst e1
    have hbk : IntKind.i64.wrap ((n1 : Int) - 1) = (q : Int) := by rw [IntWalk.i64_in _ (by omega)]; omega
    have hqn : (q : Int) < (n1 : Int) := by omega
    have hlast := Sh.rise_last hpl'.out q (by omega)
    obtain ⟨z, hz⟩ : ∃ z, z = Sh.gi l1 q := ⟨_, rfl⟩
    rw [← hz] at f1 hlast
    have hzm : z ∈ l1 := by rw [hz]; unfold Sh.gi; rw [List.getD_eq_getElem?_getD, List.getElem?_eq_getElem (by omega)]; exact List.getElem_mem (by omega)
    replace hz := Lib.hid hz
    replace hq := Lib.hid hq
    by_cases zx : x ≤ z
    · clear hzm hlast
      have hr9 := blk_below b3.out hB2
      have hf9 := blk_frozen hr9
      have c90 : w2.cell? ⟨w.heap.size + 2, 0, none⟩ = some (.int .i64 0) := by rw [blk_cell hr9]; rfl
      have c91 : w2.cell? ⟨w.heap.size + 2, 1, none⟩ = some (.int .i64 0) := by rw [blk_cell hr9]; rfl
      have c92 : w2.cell? ⟨w.heap.size + 2, 2, none⟩ = some (.int .i64 0) := by rw [blk_cell hr9]; rfl
      have hBf := Lib.hid (hBw.out _ hB2)
      replace hr9 := Lib.hid hr9
      replace hn1 := Lib.hid hn1
      replace hn2 := Lib.hid hn2
      clear hb2 o2 hy0 hy1 r6 r7 r8 hB2 o1 o1' hx0 hx1 hC1 hC2 hD3
      go_wp2
      refine bodyPost_ret (results_tct rfl _ _ (w.heap.size + 2) #[.int .i64 0, .int .i64 0, .int .i64 0] rfl (load_set3 hr9.out)) rfl ?_
      exact ⟨⟨_, rfl, Kd.R_nil _ _ _ _ _⟩, below_set2 2 hBf.out _ _ _⟩
    · have hlast' := Lib.hid (fun y hy => Int.lt_of_le_of_lt (hlast y hy) (show z < x by omega))
      clear hlast hzm
      by_cases z2 : 0 < n2
      · obtain ⟨ad2, e2, f2⟩ := at_int hC2 0 (by omega) (by omega)
        subst e2
        have f2' : w2.cell? ad2 = some (.int .i64 (Sh.gi m1 0)) := f2
        have hfst := Sh.rise_first hpm'.out (by omega)
        have hym : Sh.gi m1 0 ∈ m1 := by unfold Sh.gi; rw [List.getD_eq_getElem?_getD, List.getElem?_eq_getElem (by omega)]; exact List.getElem_mem (by omega)
        obtain ⟨y, hy⟩ : ∃ y, y = Sh.gi m1 0 := ⟨_, rfl⟩
        rw [← hy] at f2' hfst hym
        replace hy := Lib.hid hy
        clear f2
        by_cases yx : y ≤ x
        · clear hfst hym
          have hr9 := blk_below b3.out hB2
          have hf9 := blk_frozen hr9
          have c90 : w2.cell? ⟨w.heap.size + 2, 0, none⟩ = some (.int .i64 0) := by rw [blk_cell hr9]; rfl
          have c91 : w2.cell? ⟨w.heap.size + 2, 1, none⟩ = some (.int .i64 0) := by rw [blk_cell hr9]; rfl
          have c92 : w2.cell? ⟨w.heap.size + 2, 2, none⟩ = some (.int .i64 0) := by rw [blk_cell hr9]; rfl
          have hBf := Lib.hid (hBw.out _ hB2)
          replace hr9 := Lib.hid hr9
          replace hn1 := Lib.hid hn1
          replace hn2 := Lib.hid hn2
          clear hb2 o2 hy0 hy1 r6 r7 r8 hB2 o1 o1' hx0 hx1 hC1 hC2 hD3
          go_wp2
          refine bodyPost_ret (results_tct rfl _ _ (w.heap.size + 2) #[.int .i64 0, .int .i64 0, .int .i64 0] rfl (load_set3 hr9.out)) rfl ?_
          exact ⟨⟨_, rfl, Kd.R_nil _ _ _ _ _⟩, below_set2 2 hBf.out _ _ _⟩
        · exact absurd (⟨hlast'.out, fun y' hy' => Int.lt_of_lt_of_le (show x < y by omega) (hfst y' hy')⟩ : Sh.between l1 m1 x) he'.out
      · exact absurd (⟨hlast'.out, fun y' hy' => (by have h9 : m1 = [] := List.length_eq_zero_iff.1 (by omega); rw [h9] at hy'; cases hy')⟩ : Sh.between l1 m1 x) he'.out
  · by_cases z2 : 0 < n2
    · obtain ⟨ad2, e2, f2⟩ := at_int hC2 0 (by omega) (by omega)
      subst e2
      have f2' : w2.cell? ad2 = some (.int .i64 (Sh.gi m1 0)) := f2
      have hfst := Sh.rise_first hpm'.out (by omega)
      have hym : Sh.gi m1 0 ∈ m1 := by unfold Sh.gi; rw [List.getD_eq_getElem?_getD, List.getElem?_eq_getElem (by omega)]; exact List.getElem_mem (by omega)
      obtain ⟨y, hy⟩ : ∃ y, y = Sh.gi m1 0 := ⟨_, rfl⟩
      rw [← hy] at f2' hfst hym
      replace hy := Lib.hid hy
      clear f2
      by_cases yx : y ≤ x
      · clear hfst hym
        have hr9 := blk_below b3.out hB2
        have hf9 := blk_frozen hr9
        have c90 : w2.cell? ⟨w.heap.size + 2, 0, none⟩ = some (.int .i64 0) := by rw [blk_cell hr9]; rfl
        have c91 : w2.cell? ⟨w.heap.size + 2, 1, none⟩ = some (.int .i64 0) := by rw [blk_cell hr9]; rfl
        have c92 : w2.cell? ⟨w.heap.size + 2, 2, none⟩ = some (.int .i64 0) := by rw [blk_cell hr9]; rfl
        have hBf := Lib.hid (hBw.out _ hB2)
        replace hr9 := Lib.hid hr9
        replace hn1 := Lib.hid hn1
        replace hn2 := Lib.hid hn2
        clear hb2 o2 hy0 hy1 r6 r7 r8 hB2 o1 o1' hx0 hx1 hC1 hC2 hD3
        go_wp2
        refine bodyPost_ret (results_tct rfl _ _ (w.heap.size + 2) #[.int .i64 0, .int .i64 0, .int .i64 0] rfl (load_set3 hr9.out)) rfl ?_
        exact ⟨⟨_, rfl, Kd.R_nil _ _ _ _ _⟩, below_set2 2 hBf.out _ _ _⟩
      · exact absurd (⟨fun y' hy' => (by have h9 : l1 = [] := List.length_eq_zero_iff.1 (by omega); rw [h9] at hy'; cases hy'), fun y' hy' => Int.lt_of_lt_of_le (show x < y by omega) (hfst y' hy')⟩ : Sh.between l1 m1 x) he'.out
    · exact absurd (⟨fun y' hy' => (by have h9 : l1 = [] := List.length_eq_zero_iff.1 (by omega); rw [h9] at hy'; cases hy'), fun y' hy' => (by have h9 : m1 = [] := List.length_eq_zero_iff.1 (by omega); rw [h9] at hy'; cases hy')⟩ : Sh.between l1 m1 x) he'.out
theorem Join_calls {H : Sh.Hp} {ra na rb nb x ta tb : Int} {A : Option Addr} {c : Nat} {w : World} {l m : List Int} (hC : Nodes w A H) (hLa : ListsF H 3) (ha : Sh.listed H 3 ra na = (l, 0)) (hb : Sh.sought H 3 rb nb x = (m, 0)) (Ta : Sh.Tr H ra (-1) 1024 l ta) (Tb : Sh.Tr H rb (-1) 1024 m tb) (hll : l.length ≤ 5000) (hmm : m.length ≤ 5000) (hbt : Sh.between l m x) (hx0 : 0 ≤ x) (hx1 : x ≤ 1023) (hta : ta ≤ 1000) (htb : tb ≤ 1000) (hlH : H.length ≤ 100000) (hbig : ∀ p ∈ H, p.1.length ≤ 1000000 ∧ p.2.length ≤ 1000000) :
    Calls Tryz.prog 47 #[.slice A H.length c, shV 3 ra na, .int .i64 x, shV 3 rb nb] w fun e w' => Out3 w.heap.size w' e (Sh.join 2000 H ra x rb).1 3 (Sh.join 2000 H ra x rb).2 (l.length + 1 + m.length : Nat) 0 ∧ Below w.heap.size w w' := by
  obtain ⟨W0, hW0⟩ : ∃ W0, W0 = ((w.alloc (.cells #[.int .i64 3, .int .i64 ra, .int .i64 na] 25)).alloc (.cells #[.int .i64 3, .int .i64 rb, .int .i64 nb] 25)).alloc (.cells #[.int .i64 0, .int .i64 0, .int .i64 0] 25) := ⟨_, rfl⟩
  have hsz := Lib.hid (show W0.heap.size = w.heap.size + 3 by rw [hW0, World.size_alloc, World.size_alloc, World.size_alloc])
  have b1 := Lib.hid (show W0.heap[w.heap.size]? = some (.cells #[.int .i64 3, .int .i64 ra, .int .i64 na] 25 (0, 0)) by
    rw [hW0]
    exact blk_alloc (blk_alloc (heap_alloc_new w _) _) _)
  have b2 := Lib.hid (show W0.heap[w.heap.size + 1]? = some (.cells #[.int .i64 3, .int .i64 rb, .int .i64 nb] 25 (0, 0)) by
    have := blk_alloc (heap_alloc_new (w.alloc (.cells #[.int .i64 3, .int .i64 ra, .int .i64 na] 25)) (.cells #[.int .i64 3, .int .i64 rb, .int .i64 nb] 25)) (.cells #[.int .i64 0, .int .i64 0, .int .i64 0] 25)
    rw [World.size_alloc] at this
    rw [hW0]
    exact this)
  have b3 := Lib.hid (show W0.heap[w.heap.size + 2]? = some (.cells #[.int .i64 0, .int .i64 0, .int .i64 0] 25 (0, 0)) by
    have := heap_alloc_new ((w.alloc (.cells #[.int .i64 3, .int .i64 ra, .int .i64 na] 25)).alloc (.cells #[.int .i64 3, .int .i64 rb, .int .i64 nb] 25)) (.cells #[.int .i64 0, .int .i64 0, .int .i64 0] 25)
    rw [World.size_alloc, World.size_alloc] at this
    rw [hW0]
    exact this)
  have hB0 := Lib.hid (show Below w.heap.size w W0 by
    rw [hW0]
    exact (((Below.refl _ _).alloc (Nat.le_refl _) _).alloc (by rw [World.size_alloc]; omega) _).alloc (by rw [World.size_alloc, World.size_alloc]; omega) _)
  have hBw := Lib.hid (fun W (hW : Below W0.heap.size W0 W) => (hB0.out.trans (hW.mono (by have := hsz.out; omega)) : Below w.heap.size w W))
  have hla := Lib.hid (fun W (hW : Below W0.heap.size W0 W) => by have := listed_calls H 3 ra na A c W (Kd.C_below hC (hBw.out W hW)) hLa; rw [ha] at this; exact this)
  have hlb := Lib.hid (fun W (hW : Below W0.heap.size W0 W) => by have := sought_calls H 3 rb nb x A c W (Kd.C_below hC (hBw.out W hW)) hLa; rw [hb] at this; exact this)
  have hpl' := Lib.hid Ta.rise
  have hpm' := Lib.hid Tb.rise
  have na0 := Ta.nonneg
  have nb0 := Tb.nonneg
  have hgr := Lib.hid (fun W (hW : Below W0.heap.size W0 W) => grown_calls A c H W (Kd.C_below hC (hBw.out W hW)) hlH hbig)
  have hjn := Lib.hid (fun base hb W (hW : HeapAt W base hb H) => join_calls base hb 2000 H W hW ra rb x (-1) 1024 ta tb l m (Ta.cut_hi hbt.1) (Tb.cut_lo hbt.2) (by omega) (by omega) (by omega) (by omega) (by omega) (by omega))
  replace hbt := Lib.hid hbt
  generalize Sh.join 2000 H ra x rb = R at *
  clear hC hLa ha hb Ta Tb hbig
  go_enter Tryz.func47, Tryz.ntmps47
  go_wp2_with fail
  rw [← hW0]
  clear hW0
  refine (hla.out _ (Below.refl _ _)).mono ?_
  rintro e w1 ⟨⟨v1, l1, rfl, o1, hx0, hx1⟩, hb1⟩
  have hB1 := Lib.hid hb1
  have r6 : w1.cell? ⟨w.heap.size + 1, 0, none⟩ = some (.int .i64 3) := by rw [blk_cell (blk_below b2.out hb1)]; rfl
  have r7 : w1.cell? ⟨w.heap.size + 1, 1, none⟩ = some (.int .i64 rb) := by rw [blk_cell (blk_below b2.out hb1)]; rfl
  have r8 : w1.cell? ⟨w.heap.size + 1, 2, none⟩ = some (.int .i64 nb) := by rw [blk_cell (blk_below b2.out hb1)]; rfl
  replace hx0 := Lib.hid hx0
  replace hx1 := Lib.hid hx1
  replace o1 := Lib.hid o1
  clear hb1
  go_wp2_with fail
  refine (hlb.out _ hB1.out).mono ?_
  rintro e w2 ⟨⟨v2, m1, rfl, o2, hy0, hy1⟩, hb2⟩
  have hB2 := hB1.out.trans (hb2.mono hB1.out.size)
  have o1' := Lib.hid (Kd.R_below o1.out hb2)
  have s1 : w2.cell? ⟨w.heap.size, 0, none⟩ = some (.int .i64 3) := by rw [blk_cell (blk_below b1.out hB2)]; rfl
  have s2 : w2.cell? ⟨w.heap.size + 1, 0, none⟩ = some (.int .i64 3) := by rw [blk_cell (blk_below b2.out hB2)]; rfl
  have hD3 : ¬ Digital 3 := by unfold Digital; omega
  obtain rfl : l1 = l := hx1.out hD3
  obtain rfl : m1 = m := hy1 hD3
  obtain ⟨A1, c1, rfl, hc1, hC1⟩ := Kd.R_reads o1'.out
  obtain ⟨A2, c2, rfl, hc2, hC2⟩ := Kd.R_reads o2
  obtain ⟨n1, hn1⟩ : ∃ n1, n1 = l1.length := ⟨_, rfl⟩
  obtain ⟨n2, hn2⟩ : ∃ n2, n2 = m1.length := ⟨_, rfl⟩
  rw [← hn1] at hll hc1 hC1 ⊢
  rw [← hn2] at hmm hc2 hC2 ⊢
  have hC1' := Lib.hid hC1
  have hC2' := Lib.hid hC2
  by_cases z1 : 0 < n1
  · obtain ⟨q, hq⟩ : ∃ q, q + 1 = n1 := ⟨n1 - 1, by omega⟩
    obtain ⟨ad1, e1, f1⟩ := at_int hC1 q (by omega) (by omega)
    rw [Int.toNat_natCast] at f1
    subst e1
    have hbk : IntKind.i64.wrap ((n1 : Int) - 1) = (q : Int) := by rw [IntWalk.i64_in _ (by omega)]; omega
    have hqn : (q : Int) < (n1 : Int) := by omega
    have hlast := Sh.rise_last hpl'.out q (by omega)
    obtain ⟨z, hz⟩ : ∃ z, z = Sh.gi l1 q := ⟨_, rfl⟩
    rw [← hz] at f1 hlast
    have hzm : z ∈ l1 := by rw [hz]; unfold Sh.gi; rw [List.getD_eq_getElem?_getD, List.getElem?_eq_getElem (by omega)]; exact List.getElem_mem (by omega)
    replace hz := Lib.hid hz
    replace hq := Lib.hid hq
    by_cases zx : x ≤ z
    · exact absurd (hbt.out.1 z hzm) (by omega)
    · have hlast' := Lib.hid (fun y hy => Int.lt_of_le_of_lt (hlast y hy) (show z < x by omega))
      clear hlast hzm
      by_cases z2 : 0 < n2
      · obtain ⟨ad2, e2, f2⟩ := at_int hC2 0 (by omega) (by omega)
        subst e2
        have f2' : w2.cell? ad2 = some (.int .i64 (Sh.gi m1 0)) := f2
        have hfst := Sh.rise_first hpm'.out (by omega)
        have hym : Sh.gi m1 0 ∈ m1 := by unfold Sh.gi; rw [List.getD_eq_getElem?_getD, List.getElem?_eq_getElem (by omega)]; exact List.getElem_mem (by omega)
        obtain ⟨y, hy⟩ : ∃ y, y = Sh.gi m1 0 := ⟨_, rfl⟩
        rw [← hy] at f2' hfst hym
        replace hy := Lib.hid hy
        clear f2
        by_cases yx : y ≤ x
        · exact absurd (hbt.out.2 y hym) (by omega)
        · clear hfst hym
          have hgc := Lib.hid (hgr.out w2 hB2)
          have hBf2 := Lib.hid (hBw.out w2 hB2)
          have hB2' := Lib.hid hB2
          replace hn1 := Lib.hid hn1
          replace hn2 := Lib.hid hn2
          clear hb2 o2 hy0 hy1 r6 r7 r8 hB2 o1 o1' hx0 hx1 hC1 hC2 hD3
          go_wp2_with fail
          refine (hgc.out).mono ?_
          rintro e w3 ⟨hb, rfl, hH3, hB3⟩
          have hB3' := Lib.hid (hB2'.out.trans (hB3.mono hB2'.out.size))
          have p1 : w3.cell? ⟨w.heap.size, 1, none⟩ = some (.int .i64 ra) := by rw [blk_cell (blk_below b1.out hB3'.out)]; rfl
          have p2 : w3.cell? ⟨w.heap.size + 1, 1, none⟩ = some (.int .i64 rb) := by rw [blk_cell (blk_below b2.out hB3'.out)]; rfl
          have hjc := Lib.hid (hjn.out w2.heap.size hb w3 hH3)
          have hs2 := Lib.hid (show w.heap.size + 3 ≤ w2.heap.size by have := hB2'.out.size; have := hsz.out; omega)
          clear hH3 hB3
          go_wp2_with fail
          refine (hjc.out).mono ?_
          rintro e w4 ⟨rfl, hH4, hB4⟩
          have hB4' := Lib.hid (hB3'.out.trans (hB4.mono (by have := hs2.out; have := hsz.out; omega)))
          obtain ⟨hq0, v4, hv4, hr4⟩ := hH4
          obtain ⟨A4, c4, rfl⟩ := Kd.R_slice hr4
          rw [sn_len] at hv4
          rw [sn_len] at hr4
          have hcell : w4.cell? ⟨hb, 0, none⟩ = some (.slice A4 R.1.length c4) := by rw [blk_cell hv4]; rfl
          have hr9 := blk_below b3.out hB4'.out
          have hf9 := blk_frozen hr9
          have c90 : w4.cell? ⟨w.heap.size + 2, 0, none⟩ = some (.int .i64 0) := by rw [blk_cell hr9]; rfl
          have c91 : w4.cell? ⟨w.heap.size + 2, 1, none⟩ = some (.int .i64 0) := by rw [blk_cell hr9]; rfl
          have c92 : w4.cell? ⟨w.heap.size + 2, 2, none⟩ = some (.int .i64 0) := by rw [blk_cell hr9]; rfl
          have hBf := Lib.hid (hBw.out _ hB4'.out)
          replace hr9 := Lib.hid hr9
          replace hr4 := Lib.hid hr4
          clear hv4 hB4 hq0
          go_wp2
          refine bodyPost_ret (results_tct rfl _ _ (w.heap.size + 2) _ rfl (load_set3 hr9.out)) rfl ?_
          exact ⟨⟨_, by rw [← hn1.out, ← hn2.out]; go_num, Kd.R_lower (out_set hr4.out hr9.out _ _ _) (by have := hs2.out; omega)⟩, below_set2 2 hBf.out _ _ _⟩
      · have hn20 : n2 = 0 := by omega
        have hgc := Lib.hid (hgr.out w2 hB2)
        have hBf2 := Lib.hid (hBw.out w2 hB2)
        have hB2' := Lib.hid hB2
        replace hn1 := Lib.hid hn1
        replace hn2 := Lib.hid hn2
        clear hb2 o2 hy0 hy1 r6 r7 r8 hB2 o1 o1' hx0 hx1 hC1 hC2 hD3
        go_wp2_with fail
        refine (hgc.out).mono ?_
        rintro e w3 ⟨hb, rfl, hH3, hB3⟩
        have hB3' := Lib.hid (hB2'.out.trans (hB3.mono hB2'.out.size))
        have p1 : w3.cell? ⟨w.heap.size, 1, none⟩ = some (.int .i64 ra) := by rw [blk_cell (blk_below b1.out hB3'.out)]; rfl
        have p2 : w3.cell? ⟨w.heap.size + 1, 1, none⟩ = some (.int .i64 rb) := by rw [blk_cell (blk_below b2.out hB3'.out)]; rfl
        have hjc := Lib.hid (hjn.out w2.heap.size hb w3 hH3)
        have hs2 := Lib.hid (show w.heap.size + 3 ≤ w2.heap.size by have := hB2'.out.size; have := hsz.out; omega)
        clear hH3 hB3
        go_wp2_with fail
        refine (hjc.out).mono ?_
        rintro e w4 ⟨rfl, hH4, hB4⟩
        have hB4' := Lib.hid (hB3'.out.trans (hB4.mono (by have := hs2.out; have := hsz.out; omega)))
        obtain ⟨hq0, v4, hv4, hr4⟩ := hH4
        obtain ⟨A4, c4, rfl⟩ := Kd.R_slice hr4
        rw [sn_len] at hv4
        rw [sn_len] at hr4
        have hcell : w4.cell? ⟨hb, 0, none⟩ = some (.slice A4 R.1.length c4) := by rw [blk_cell hv4]; rfl
        have hr9 := blk_below b3.out hB4'.out
        have hf9 := blk_frozen hr9
        have c90 : w4.cell? ⟨w.heap.size + 2, 0, none⟩ = some (.int .i64 0) := by rw [blk_cell hr9]; rfl
        have c91 : w4.cell? ⟨w.heap.size + 2, 1, none⟩ = some (.int .i64 0) := by rw [blk_cell hr9]; rfl
        have c92 : w4.cell? ⟨w.heap.size + 2, 2, none⟩ = some (.int .i64 0) := by rw [blk_cell hr9]; rfl
        have hBf := Lib.hid (hBw.out _ hB4'.out)
        replace hr9 := Lib.hid hr9
        replace hr4 := Lib.hid hr4
        clear hv4 hB4 hq0
        go_wp2
        refine bodyPost_ret (results_tct rfl _ _ (w.heap.size + 2) _ rfl (load_set3 hr9.out)) rfl ?_
        exact ⟨⟨_, by rw [← hn1.out, ← hn2.out]; go_num, Kd.R_lower (out_set hr4.out hr9.out _ _ _) (by have := hs2.out; omega)⟩, below_set2 2 hBf.out _ _ _⟩
  · by_cases z2 : 0 < n2
    · obtain ⟨ad2, e2, f2⟩ := at_int hC2 0 (by omega) (by omega)
      subst e2
      have f2' : w2.cell? ad2 = some (.int .i64 (Sh.gi m1 0)) := f2
      have hfst := Sh.rise_first hpm'.out (by omega)
      have hym : Sh.gi m1 0 ∈ m1 := by unfold Sh.gi; rw [List.getD_eq_getElem?_getD, List.getElem?_eq_getElem (by omega)]; exact List.getElem_mem (by omega)
      obtain ⟨y, hy⟩ : ∃ y, y = Sh.gi m1 0 := ⟨_, rfl⟩
      rw [← hy] at f2' hfst hym
      replace hy := Lib.hid hy
      clear f2
      by_cases yx : y ≤ x
      · exact absurd (hbt.out.2 y hym) (by omega)
      · clear hfst hym
        have hgc := Lib.hid (hgr.out w2 hB2)
        have hBf2 := Lib.hid (hBw.out w2 hB2)
        have hB2' := Lib.hid hB2
        replace hn1 := Lib.hid hn1
        replace hn2 := Lib.hid hn2
        clear hb2 o2 hy0 hy1 r6 r7 r8 hB2 o1 o1' hx0 hx1 hC1 hC2 hD3
        go_wp2_with fail
        refine (hgc.out).mono ?_
        rintro e w3 ⟨hb, rfl, hH3, hB3⟩
        have hB3' := Lib.hid (hB2'.out.trans (hB3.mono hB2'.out.size))
        have p1 : w3.cell? ⟨w.heap.size, 1, none⟩ = some (.int .i64 ra) := by rw [blk_cell (blk_below b1.out hB3'.out)]; rfl
        have p2 : w3.cell? ⟨w.heap.size + 1, 1, none⟩ = some (.int .i64 rb) := by rw [blk_cell (blk_below b2.out hB3'.out)]; rfl
        have hjc := Lib.hid (hjn.out w2.heap.size hb w3 hH3)
        have hs2 := Lib.hid (show w.heap.size + 3 ≤ w2.heap.size by have := hB2'.out.size; have := hsz.out; omega)
        clear hH3 hB3
        go_wp2_with fail
        refine (hjc.out).mono ?_
        rintro e w4 ⟨rfl, hH4, hB4⟩
        have hB4' := Lib.hid (hB3'.out.trans (hB4.mono (by have := hs2.out; have := hsz.out; omega)))
        obtain ⟨hq0, v4, hv4, hr4⟩ := hH4
        obtain ⟨A4, c4, rfl⟩ := Kd.R_slice hr4
        rw [sn_len] at hv4
        rw [sn_len] at hr4
        have hcell : w4.cell? ⟨hb, 0, none⟩ = some (.slice A4 R.1.length c4) := by rw [blk_cell hv4]; rfl
        have hr9 := blk_below b3.out hB4'.out
        have hf9 := blk_frozen hr9
        have c90 : w4.cell? ⟨w.heap.size + 2, 0, none⟩ = some (.int .i64 0) := by rw [blk_cell hr9]; rfl
        have c91 : w4.cell? ⟨w.heap.size + 2, 1, none⟩ = some (.int .i64 0) := by rw [blk_cell hr9]; rfl
        have c92 : w4.cell? ⟨w.heap.size + 2, 2, none⟩ = some (.int .i64 0) := by rw [blk_cell hr9]; rfl
        have hBf := Lib.hid (hBw.out _ hB4'.out)
        replace hr9 := Lib.hid hr9
        replace hr4 := Lib.hid hr4
        clear hv4 hB4 hq0
        go_wp2
        refine bodyPost_ret (results_tct rfl _ _ (w.heap.size + 2) _ rfl (load_set3 hr9.out)) rfl ?_
        exact ⟨⟨_, by rw [← hn1.out, ← hn2.out]; go_num, Kd.R_lower (out_set hr4.out hr9.out _ _ _) (by have := hs2.out; omega)⟩, below_set2 2 hBf.out _ _ _⟩
    · have hn20 : n2 = 0 := by omega
      have hgc := Lib.hid (hgr.out w2 hB2)
      have hBf2 := Lib.hid (hBw.out w2 hB2)
      have hB2' := Lib.hid hB2
      replace hn1 := Lib.hid hn1
      replace hn2 := Lib.hid hn2
      clear hb2 o2 hy0 hy1 r6 r7 r8 hB2 o1 o1' hx0 hx1 hC1 hC2 hD3
      go_wp2_with fail
      refine (hgc.out).mono ?_
      rintro e w3 ⟨hb, rfl, hH3, hB3⟩
      have hB3' := Lib.hid (hB2'.out.trans (hB3.mono hB2'.out.size))
      have p1 : w3.cell? ⟨w.heap.size, 1, none⟩ = some (.int .i64 ra) := by rw [blk_cell (blk_below b1.out hB3'.out)]; rfl
      have p2 : w3.cell? ⟨w.heap.size + 1, 1, none⟩ = some (.int .i64 rb) := by rw [blk_cell (blk_below b2.out hB3'.out)]; rfl
      have hjc := Lib.hid (hjn.out w2.heap.size hb w3 hH3)
      have hs2 := Lib.hid (show w.heap.size + 3 ≤ w2.heap.size by have := hB2'.out.size; have := hsz.out; omega)
      clear hH3 hB3
      go_wp2_with fail
      refine (hjc.out).mono ?_
      rintro e w4 ⟨rfl, hH4, hB4⟩
      have hB4' := Lib.hid (hB3'.out.trans (hB4.mono (by have := hs2.out; have := hsz.out; omega)))
      obtain ⟨hq0, v4, hv4, hr4⟩ := hH4
      obtain ⟨A4, c4, rfl⟩ := Kd.R_slice hr4
      rw [sn_len] at hv4
      rw [sn_len] at hr4
      have hcell : w4.cell? ⟨hb, 0, none⟩ = some (.slice A4 R.1.length c4) := by rw [blk_cell hv4]; rfl
      have hr9 := blk_below b3.out hB4'.out
      have hf9 := blk_frozen hr9
      have c90 : w4.cell? ⟨w.heap.size + 2, 0, none⟩ = some (.int .i64 0) := by rw [blk_cell hr9]; rfl
      have c91 : w4.cell? ⟨w.heap.size + 2, 1, none⟩ = some (.int .i64 0) := by rw [blk_cell hr9]; rfl
      have c92 : w4.cell? ⟨w.heap.size + 2, 2, none⟩ = some (.int .i64 0) := by rw [blk_cell hr9]; rfl
      have hBf := Lib.hid (hBw.out _ hB4'.out)
      replace hr9 := Lib.hid hr9
      replace hr4 := Lib.hid hr4
      clear hv4 hB4 hq0
      go_wp2
      refine bodyPost_ret (results_tct rfl _ _ (w.heap.size + 2) _ rfl (load_set3 hr9.out)) rfl ?_
      exact ⟨⟨_, by rw [← hn1.out, ← hn2.out]; go_num, Kd.R_lower (out_set hr4.out hr9.out _ _ _) (by have := hs2.out; omega)⟩, below_set2 2 hBf.out _ _ _⟩
end Go.Proofs.YtbfedeedicnedaaGreat
end
section
namespace Go.Proofs.YtbfedeedicnedaaGreat
open Go.RowKit
open Go.Proofs.YtbfedeedicnedaaGreatW.PrintWords
namespace Sh
def bigN (p : Nd) : Bool := decide (2100 < p.1.length) || decide (40 < p.2.length)
def largeB (H : Hp) : Bool := if 3000 < H.length then decide (3100 < H.length) else if 400 < H.length then true else H.any bigN
theorem drop_nd (H : Hp) (i : Nat) (h : i < H.length) : H.drop i = nd H (i : Int) :: H.drop (i + 1) := by
  rw [List.drop_eq_getElem_cons h]
  unfold nd
  rw [List.getD_eq_getElem?_getD, Int.toNat_natCast, List.getElem?_eq_getElem h]
  rfl
theorem largeB_small {H : Hp} (h : largeB H = false) : H.length ≤ 3100 ∧ (H.length ≤ 3000 → H.length ≤ 400 ∧ ∀ p ∈ H, p.1.length ≤ 2100 ∧ p.2.length ≤ 40) := by
  unfold largeB at h
  by_cases h1 : 3000 < H.length
  · rw [if_pos h1] at h
    have := of_decide_eq_false h
    exact ⟨by omega, fun h2 => by omega⟩
  · rw [if_neg h1] at h
    by_cases h2 : 400 < H.length
    · rw [if_pos h2] at h; cases h
    · rw [if_neg h2] at h
      refine ⟨by omega, fun _ => ⟨by omega, fun p hp => ?_⟩⟩
      have := List.any_eq_false.1 h p hp
      unfold bigN at this
      simp at this
      omega
end Sh
namespace PAll
theorem ev_large_l (H : Sh.Hp) (hl : H.length ≤ 1000000) : ∀ (n i : Nat), i ≤ H.length → H.length - i = n → Ev (fun k => swardlaw12_large.l0 k (sn H) i) ((H.drop i).any Sh.bigN) := by
  intro n
  induction n with
  | zero =>
    intro i hi hn
    have h1 : ¬ ((i : Int) < ((sn H).length : Int)) := by rw [sn_len]; omega
    rw [List.drop_of_length_le (by omega)]
    refine Ev.succ ?_
    simp only [swardlaw12_large.l0, h1, if_false]
    exact Ev.now _
  | succ n ih =>
    intro i hi hn
    have h1 : (i : Int) < ((sn H).length : Int) := by rw [sn_len]; omega
    have h2 : (0 : Int) ≤ (i : Int) := by omega
    have hw := wrap_succ i (by omega)
    have ih1 := ih (i + 1) (by omega) (by omega)
    rw [Sh.drop_nd H i (by omega), List.any_cons]
    refine Ev.succ ?_
    simp only [swardlaw12_large.l0, h1, h2, if_true, (rd_sn H i).1, (rd_sn H i).2, hw]
    have e : Sh.bigN (Sh.nd H (i : Int)) = (decide (2100 < (Sh.nd H (i : Int)).1.length) || decide (40 < (Sh.nd H (i : Int)).2.length)) := rfl
    rw [e]
    by_cases h3 : (((Sh.nd H (i : Int)).1.length : Int) > 2100)
    · simp only [h3, if_true]
      rw [decide_eq_true (show 2100 < (Sh.nd H (i : Int)).1.length by omega), Bool.true_or, Bool.true_or]
      exact Ev.now _
    · simp only [h3, if_false]
      rw [decide_eq_false (show ¬ 2100 < (Sh.nd H (i : Int)).1.length by omega), Bool.false_or]
      by_cases h4 : (((Sh.nd H (i : Int)).2.length : Int) > 40)
      · simp only [h4, if_true]
        rw [decide_eq_true (show 40 < (Sh.nd H (i : Int)).2.length by omega), Bool.true_or]
        exact Ev.now _
      · simp only [h4, if_false]
        rw [decide_eq_false (show ¬ 40 < (Sh.nd H (i : Int)).2.length by omega), Bool.false_or]
        exact ih1
theorem ev_large (H : Sh.Hp) : Ev (fun k => swardlaw12_large.f k (sn H)) (Sh.largeB H) := by
  unfold swardlaw12_large.f Sh.largeB
  rw [sn_len]
  by_cases h1 : (H.length : Int) > 3000
  · rw [if_pos (show 3000 < H.length by omega)]
    simp only [h1, if_true]
    have e : decide ((H.length : Int) > 3100) = decide (3100 < H.length) := by
      by_cases h : 3100 < H.length
      · rw [decide_eq_true h, decide_eq_true (by omega)]
      · rw [decide_eq_false h, decide_eq_false (by omega)]
    rw [e]
    exact Ev.now _
  · rw [if_neg (show ¬ 3000 < H.length by omega)]
    simp only [h1, if_false]
    by_cases h2 : (H.length : Int) > 400
    · rw [if_pos (show 400 < H.length by omega)]
      simp only [h2, if_true]
      exact Ev.now _
    · rw [if_neg (show ¬ 400 < H.length by omega)]
      simp only [h2, if_false]
      have := ev_large_l H (by omega) H.length 0 (Nat.zero_le _) (by omega)
      rw [List.drop_zero] at this
      exact this
end PAll
theorem large_calls (H : Sh.Hp) (A : Option Addr) (c : Nat) (w : World) (hC : Nodes w A H) (hc : H.length ≤ c) {b : Bool} (hb : Sh.largeB H = b) :
    Calls Tryz.prog 14 #[.slice A H.length c] w fun e w' => e = .returned (.bool b) ∧ Drawn0 w w' := by
  subst hb
  obtain ⟨k, hk⟩ := (PAll.ev_large H).rounds
  have hC' : Kd.C PAll.k95 w A (sn H).length (sn H) := by rw [sn_len]; exact hC
  have := PAll.swardlaw12_large.calls k A c (sn H) _ w hC' (by rw [sn_len]; exact hc) hk
  rw [sn_len] at this
  exact this
end Go.Proofs.YtbfedeedicnedaaGreat
end
section
namespace Go.Proofs.YtbfedeedicnedaaGreat
open Go.RowKit
open Go.Proofs.YtbfedeedicnedaaGreatW.PrintWords
abbrev zero25 : Obj := .cells #[.int .i64 0, .int .i64 0, .int .i64 0] 25
theorem two_alloc (w : World) (o1 o2 : Obj) : Below w.heap.size w ((w.alloc o1).alloc o2) := ((Below.refl _ _).alloc (Nat.le_refl _) _).alloc (by rw [World.size_alloc]; omega) _
theorem Turn_calls {H : Sh.Hp} {f root count g : Int} {A : Option Addr} {c : Nat} {w : World} {l : List Int} (hC : Nodes w A H) (hL : ListsF H f) (hf : ¬ Digital f) (h0 : Sh.listed H f root count = (l, 0)) (hg1 : 1 ≤ g) (hg5 : g ≤ 5) (hlay : LaysF H l g) (hl : H.length ≤ 100000) (hbig : ∀ p ∈ H, p.1.length ≤ 1000000 ∧ p.2.length ≤ 1000000) (hll : l.length ≤ 1000000) :
    Calls Tryz.prog 34 #[.slice A H.length c, shV f root count, .int .i64 g] w fun e w' => Out3 w.heap.size w' e (Sh.layF g H l).1 g (Sh.layF g H l).2 l.length 0 ∧ Below w.heap.size w w' := by
  have hkn := Lib.hid (fun W => known_calls g W)
  have hkf : (decide (1 ≤ g) && decide (g ≤ 5)) = true := by rw [decide_eq_true hg1, decide_eq_true hg5]; rfl
  rw [hkf] at hkn
  have hB2 := two_alloc w (.cells #[.int .i64 f, .int .i64 root, .int .i64 count] 25) zero25
  have hcl := Lib.hid (listed_calls H f root count A c _ (Kd.C_below hC hB2) hL)
  rw [h0] at hcl
  have hb := heap_alloc_new (w.alloc (.cells #[.int .i64 f, .int .i64 root, .int .i64 count] 25)) zero25
  rw [World.size_alloc] at hb
  replace hb := Lib.hid hb
  replace hB2 := Lib.hid hB2
  have hs2 := Lib.hid (show ((w.alloc (.cells #[.int .i64 f, .int .i64 root, .int .i64 count] 25)).alloc zero25).heap.size = w.heap.size + 2 by rw [World.size_alloc, World.size_alloc])
  have hmd := Lib.hid (fun (A1 : Option Addr) (c1 : Nat) (W : World) (hW : Below w.heap.size w W) (hA : Kd.C kI W A1 l.length l) (hc1 : l.length ≤ c1) => made_calls H g l A c A1 c1 W (Kd.C_below hC hW) hA hc1 hg1 hg5 hlay hl hbig hll)
  have hfD := Lib.hid hf
  generalize Sh.layF g H l = R at *
  clear hC hL h0 hkf hlay hbig hf
  go_enter Tryz.func34, Tryz.ntmps34
  go_wp2_with fail
  refine (hcl.out).mono ?_
  rintro e w1 ⟨⟨v, l1, rfl, ho, _, hex⟩, hb1⟩
  obtain rfl : l1 = l := hex hfD.out
  obtain ⟨A1, c1', rfl, hc1', hC1⟩ := Kd.R_reads ho
  have hr1 := blk_below hb.out hb1
  have hB1 := Lib.hid (hB2.out.trans (hb1.mono (by have := hs2.out; omega)))
  have hz1 := Lib.hid (show w.heap.size + 2 ≤ w1.heap.size by have := hb1.size; have := hs2.out; omega)
  replace hr1 := Lib.hid hr1
  have hmc := Lib.hid (hmd.out A1 c1' w1 hB1.out hC1 hc1')
  obtain ⟨n, hn⟩ : ∃ n, n = l1.length := ⟨_, rfl⟩
  rw [← hn] at hmc hc1' hll ⊢
  replace hn := Lib.hid hn
  clear ho hb1 hex hC1
  go_wp2_with fail
  refine (hkn.out _).mono ?_
  rintro e w2 ⟨rfl, rfl⟩
  go_wp2_with fail
  refine (hmc.out).mono ?_
  rintro e w3 ⟨⟨v3, rfl, hR3⟩, hB3⟩
  have hr3 := blk_below hr1.out hB3
  have hf3 := blk_frozen hr3
  have c0 : w3.cell? ⟨w.heap.size + 1, 0, none⟩ = some (.int .i64 0) := by rw [blk_cell hr3]; rfl
  have c1 : w3.cell? ⟨w.heap.size + 1, 1, none⟩ = some (.int .i64 0) := by rw [blk_cell hr3]; rfl
  have c2 : w3.cell? ⟨w.heap.size + 1, 2, none⟩ = some (.int .i64 0) := by rw [blk_cell hr3]; rfl
  have hB4 := Lib.hid (hB1.out.trans (hB3.mono (by have := hz1.out; omega)))
  replace hr3 := Lib.hid hr3
  replace hR3 := Lib.hid hR3
  clear hB3
  go_wp2
  refine bodyPost_ret (results_tct rfl _ _ (w.heap.size + 1) #[.int .i64 g, .int .i64 R.2, .int .i64 n] rfl (load_set3 hr3.out)) rfl ?_
  exact ⟨⟨v3, by rw [← hn.out]; rfl, Kd.R_lower (out_set hR3.out hr3.out _ _ _) (by have := hz1.out; omega)⟩, (((hB4.out.setCell (p := ⟨w.heap.size + 1, 0, none⟩) (by show w.heap.size ≤ w.heap.size + 1; omega) _).setCell (p := ⟨w.heap.size + 1, 1, none⟩) (by show w.heap.size ≤ w.heap.size + 1; omega) _).setCell (p := ⟨w.heap.size + 1, 2, none⟩) (by show w.heap.size ≤ w.heap.size + 1; omega) _)⟩
end Go.Proofs.YtbfedeedicnedaaGreat
end
