/-
  Texts of this claim: ShBNa, ShBN, ShBO, ShBP, ShMs.
-/
import Derived.Test.YtbfedeedicnedaaGreatSj32
import Derived.Deep.Heap
set_option linter.unusedVariables false
set_option linter.unusedSimpArgs false
set_option maxHeartbeats 8000000
set_option maxRecDepth 100000
section
namespace Go.Proofs.YtbfedeedicnedaaGreat
open Go.RowKit
open Go.Proofs.YtbfedeedicnedaaGreatW.PrintWords
namespace Sh
def H0 : Hp := [([5, 9, 12], []), ([5, 1], [-1, -1]), ([12, 1], [-1, -1]), ([9, 2], [1, 2]), ([-1, 5, 13, -1, -1, -1, -1, -1], []), ([1], [])]
end Sh
theorem list_calls (v : Value) (w : World) : Calls Tryz.prog 40 #[v] w fun e w' => e = .returned v ∧ w' = w := by
  go_enter Tryz.func40, Tryz.ntmps40
  go_wp2
  go_ret
  exact ⟨rfl, rfl⟩
def GotH (w' : World) (e : Ending) : Prop := ∃ A c, e = .returned (.slice A 6 c) ∧ 6 ≤ c ∧ Nodes w' A Sh.H0
theorem nums_blk {w : World} {g : Nat} {cs : Array Value} (h : w.heap[g]? = some (.cells cs 3 (0, 0))) (l : List Int) (hcs : cs = (nums .i64 l).toArray) (hm : l.length ≤ 1000000) : Kd.C kI w (some ⟨g, 0, none⟩) l.length l := by
  refine ⟨rfl, by omega, fun _ => ⟨_, rfl, fun j p hj => ?_⟩⟩
  refine ⟨[.int .i64 p], rfl, rfl, fun q u hq => ?_⟩
  have hq0 : q = 0 := by
    have := (List.getElem?_eq_some_iff.1 hq).1
    simp at this
    omega
  subst hq0
  cases hq
  have hj2 := (List.getElem?_eq_some_iff.1 hj).1
  have e : (⟨g, 0, none⟩ : Addr).add (j * kI.sz + 0) = ⟨g, j, none⟩ := by
    show (⟨g, 0, none⟩ : Addr).add (j * 1 + 0) = _
    unfold Addr.add
    by_cases h0 : j = 0
    · simp [h0]
    · simp [h0]
  rw [e, blk_cell h, hcs]
  unfold nums
  simp [hj]
theorem blk_next {w w1 : World} {g : Nat} {o o1 : Obj} (h : w.heap[g]? = some o) (e : w1 = w.alloc o1) : w1.heap[g]? = some o := by rw [e]; exact blk_alloc h _
theorem blk_last {w w1 : World} {k : Nat} {cs : Array Value} {t : TypeId} (e : w1 = w.alloc (.cells cs t)) (h : w.heap.size = k) : w1.heap[k]? = some (.cells cs t (0, 0)) := by rw [e, ← h]; exact heap_alloc_new _ _
theorem H_calls (w : World) : Calls Tryz.prog 49 #[] w fun e w' => GotH w' e ∧ Below w.heap.size w w' := by
  go_enter Tryz.func49, Tryz.ntmps49
  go_wp2_with (go_at_call 40; refine (list_calls _ _).mono ?_; rintro e w1 ⟨rfl, rfl⟩)
  go_ret
  obtain ⟨w1, hw1⟩ : ∃ W, W = w.alloc (.cells #[.int .i64 5, .int .i64 9, .int .i64 12] 3) := ⟨_, rfl⟩
  rw [← hw1]
  have s1 : w1.heap.size = w.heap.size + 1 := by rw [hw1, World.size_alloc]
  have n0 := blk_last hw1 rfl
  have b1 : Below w.heap.size w w1 := by rw [hw1]; exact (Below.refl _ _).alloc (Nat.le_refl _) _
  obtain ⟨w2, hw2⟩ : ∃ W, W = w1.alloc (.cells #[.int .i64 5, .int .i64 1] 3) := ⟨_, rfl⟩
  rw [← hw2]
  have s2 : w2.heap.size = w.heap.size + 1 + 1 := by rw [hw2, World.size_alloc, s1]
  have n1 := blk_last hw2 s1
  have b2 : Below w.heap.size w w2 := by rw [hw2]; exact b1.alloc (by omega) _
  obtain ⟨w3, hw3⟩ : ∃ W, W = w2.alloc (.cells #[.int .i64 (-1), .int .i64 (-1)] 3) := ⟨_, rfl⟩
  rw [← hw3]
  have s3 : w3.heap.size = w.heap.size + 1 + 1 + 1 := by rw [hw3, World.size_alloc, s2]
  have n2 := blk_last hw3 s2
  have b3 : Below w.heap.size w w3 := by rw [hw3]; exact b2.alloc (by omega) _
  obtain ⟨w4, hw4⟩ : ∃ W, W = w3.alloc (.cells #[.int .i64 12, .int .i64 1] 3) := ⟨_, rfl⟩
  rw [← hw4]
  have s4 : w4.heap.size = w.heap.size + 1 + 1 + 1 + 1 := by rw [hw4, World.size_alloc, s3]
  have n3 := blk_last hw4 s3
  have b4 : Below w.heap.size w w4 := by rw [hw4]; exact b3.alloc (by omega) _
  obtain ⟨w5, hw5⟩ : ∃ W, W = w4.alloc (.cells #[.int .i64 (-1), .int .i64 (-1)] 3) := ⟨_, rfl⟩
  rw [← hw5]
  have s5 : w5.heap.size = w.heap.size + 1 + 1 + 1 + 1 + 1 := by rw [hw5, World.size_alloc, s4]
  have n4 := blk_last hw5 s4
  have b5 : Below w.heap.size w w5 := by rw [hw5]; exact b4.alloc (by omega) _
  obtain ⟨w6, hw6⟩ : ∃ W, W = w5.alloc (.cells #[.int .i64 9, .int .i64 2] 3) := ⟨_, rfl⟩
  rw [← hw6]
  have s6 : w6.heap.size = w.heap.size + 1 + 1 + 1 + 1 + 1 + 1 := by rw [hw6, World.size_alloc, s5]
  have n5 := blk_last hw6 s5
  have b6 : Below w.heap.size w w6 := by rw [hw6]; exact b5.alloc (by omega) _
  obtain ⟨w7, hw7⟩ : ∃ W, W = w6.alloc (.cells #[.int .i64 1, .int .i64 2] 3) := ⟨_, rfl⟩
  rw [← hw7]
  have s7 : w7.heap.size = w.heap.size + 1 + 1 + 1 + 1 + 1 + 1 + 1 := by rw [hw7, World.size_alloc, s6]
  have n6 := blk_last hw7 s6
  have b7 : Below w.heap.size w w7 := by rw [hw7]; exact b6.alloc (by omega) _
  obtain ⟨w8, hw8⟩ : ∃ W, W = w7.alloc (.cells #[.int .i64 (-1), .int .i64 5, .int .i64 13, .int .i64 (-1), .int .i64 (-1), .int .i64 (-1), .int .i64 (-1), .int .i64 (-1)] 3) := ⟨_, rfl⟩
  rw [← hw8]
  have s8 : w8.heap.size = w.heap.size + 1 + 1 + 1 + 1 + 1 + 1 + 1 + 1 := by rw [hw8, World.size_alloc, s7]
  have n7 := blk_last hw8 s7
  have b8 : Below w.heap.size w w8 := by rw [hw8]; exact b7.alloc (by omega) _
  obtain ⟨w9, hw9⟩ : ∃ W, W = w8.alloc (.cells #[.int .i64 1] 3) := ⟨_, rfl⟩
  rw [← hw9]
  have s9 : w9.heap.size = w.heap.size + 1 + 1 + 1 + 1 + 1 + 1 + 1 + 1 + 1 := by rw [hw9, World.size_alloc, s8]
  have n8 := blk_last hw9 s8
  have b9 : Below w.heap.size w w9 := by rw [hw9]; exact b8.alloc (by omega) _
  obtain ⟨w10, hw10⟩ : ∃ W, W = w9.alloc (.cells #[.slice (some ⟨w.heap.size, 0, none⟩) 3 3, .slice none 0 0, .slice (some ⟨w.heap.size + 1, 0, none⟩) 2 2, .slice (some ⟨w.heap.size + 1 + 1, 0, none⟩) 2 2, .slice (some ⟨w.heap.size + 1 + 1 + 1, 0, none⟩) 2 2, .slice (some ⟨w.heap.size + 1 + 1 + 1 + 1, 0, none⟩) 2 2, .slice (some ⟨w.heap.size + 1 + 1 + 1 + 1 + 1, 0, none⟩) 2 2, .slice (some ⟨w.heap.size + 1 + 1 + 1 + 1 + 1 + 1, 0, none⟩) 2 2, .slice (some ⟨w.heap.size + 1 + 1 + 1 + 1 + 1 + 1 + 1, 0, none⟩) 8 8, .slice none 0 0, .slice (some ⟨w.heap.size + 1 + 1 + 1 + 1 + 1 + 1 + 1 + 1, 0, none⟩) 1 1, .slice none 0 0] 95) := ⟨_, rfl⟩
  rw [← hw10]
  have s10 : w10.heap.size = w.heap.size + 1 + 1 + 1 + 1 + 1 + 1 + 1 + 1 + 1 + 1 := by rw [hw10, World.size_alloc, s9]
  have n9 := blk_last hw10 s9
  have b10 : Below w.heap.size w w10 := by rw [hw10]; exact b9.alloc (by omega) _
  replace n0 := blk_next n0 hw2
  replace n0 := blk_next n0 hw3
  replace n0 := blk_next n0 hw4
  replace n0 := blk_next n0 hw5
  replace n0 := blk_next n0 hw6
  replace n0 := blk_next n0 hw7
  replace n0 := blk_next n0 hw8
  replace n0 := blk_next n0 hw9
  replace n0 := blk_next n0 hw10
  replace n1 := blk_next n1 hw3
  replace n1 := blk_next n1 hw4
  replace n1 := blk_next n1 hw5
  replace n1 := blk_next n1 hw6
  replace n1 := blk_next n1 hw7
  replace n1 := blk_next n1 hw8
  replace n1 := blk_next n1 hw9
  replace n1 := blk_next n1 hw10
  replace n2 := blk_next n2 hw4
  replace n2 := blk_next n2 hw5
  replace n2 := blk_next n2 hw6
  replace n2 := blk_next n2 hw7
  replace n2 := blk_next n2 hw8
  replace n2 := blk_next n2 hw9
  replace n2 := blk_next n2 hw10
  replace n3 := blk_next n3 hw5
  replace n3 := blk_next n3 hw6
  replace n3 := blk_next n3 hw7
  replace n3 := blk_next n3 hw8
  replace n3 := blk_next n3 hw9
  replace n3 := blk_next n3 hw10
  replace n4 := blk_next n4 hw6
  replace n4 := blk_next n4 hw7
  replace n4 := blk_next n4 hw8
  replace n4 := blk_next n4 hw9
  replace n4 := blk_next n4 hw10
  replace n5 := blk_next n5 hw7
  replace n5 := blk_next n5 hw8
  replace n5 := blk_next n5 hw9
  replace n5 := blk_next n5 hw10
  replace n6 := blk_next n6 hw8
  replace n6 := blk_next n6 hw9
  replace n6 := blk_next n6 hw10
  replace n7 := blk_next n7 hw9
  replace n7 := blk_next n7 hw10
  replace n8 := blk_next n8 hw10
  refine ⟨⟨_, _, rfl, Nat.le_refl _, ?_⟩, b10⟩
  refine ⟨rfl, by decide, fun _ => ⟨_, rfl, fun j p hj => ?_⟩⟩
  have hj6 : j < 6 := (List.getElem?_eq_some_iff.1 hj).1
  have hc : ∀ (q : Nat) (u : Value), q < 12 → (#[.slice (some ⟨w.heap.size, 0, none⟩) 3 3, .slice none 0 0, .slice (some ⟨w.heap.size + 1, 0, none⟩) 2 2, .slice (some ⟨w.heap.size + 1 + 1, 0, none⟩) 2 2, .slice (some ⟨w.heap.size + 1 + 1 + 1, 0, none⟩) 2 2, .slice (some ⟨w.heap.size + 1 + 1 + 1 + 1, 0, none⟩) 2 2, .slice (some ⟨w.heap.size + 1 + 1 + 1 + 1 + 1, 0, none⟩) 2 2, .slice (some ⟨w.heap.size + 1 + 1 + 1 + 1 + 1 + 1, 0, none⟩) 2 2, .slice (some ⟨w.heap.size + 1 + 1 + 1 + 1 + 1 + 1 + 1, 0, none⟩) 8 8, .slice none 0 0, .slice (some ⟨w.heap.size + 1 + 1 + 1 + 1 + 1 + 1 + 1 + 1, 0, none⟩) 1 1, .slice none 0 0] : Array Value)[q]? = some u → w10.cell? ((⟨w.heap.size + 1 + 1 + 1 + 1 + 1 + 1 + 1 + 1 + 1, 0, none⟩ : Addr).add q) = some u := fun q u _ h => by
    have e : (⟨w.heap.size + 1 + 1 + 1 + 1 + 1 + 1 + 1 + 1 + 1, 0, none⟩ : Addr).add q = ⟨w.heap.size + 1 + 1 + 1 + 1 + 1 + 1 + 1 + 1 + 1, q, none⟩ := by
      unfold Addr.add
      by_cases h0 : q = 0
      · simp [h0]
      · simp [h0]
    rw [e, blk_cell n9]
    exact h
  obtain rfl | rfl | rfl | rfl | rfl | rfl : j = 0 ∨ j = 1 ∨ j = 2 ∨ j = 3 ∨ j = 4 ∨ j = 5 := by omega
  · cases hj
    refine ⟨_, rfl, PAll.k95_mk w10 ⟨[5, 9, 12], ([] : List Int)⟩ (Nat.le_refl _) (nums_blk n0 [5, 9, 12] rfl (by decide)) (Nat.le_refl _) (Kd.C_nil kI _), fun q u hq => hc (0 * 2 + q) u (by have := (List.getElem?_eq_some_iff.1 hq).1; simp at this; omega) ?_⟩
    have hq2 : q < 2 := by have := (List.getElem?_eq_some_iff.1 hq).1; simpa using this
    obtain rfl | rfl : q = 0 ∨ q = 1 := by omega
    · exact hq
    · exact hq
  · cases hj
    refine ⟨_, rfl, PAll.k95_mk w10 ⟨[5, 1], [-1, -1]⟩ (Nat.le_refl _) (nums_blk n1 [5, 1] rfl (by decide)) (Nat.le_refl _) (nums_blk n2 [-1, -1] rfl (by decide)), fun q u hq => hc (1 * 2 + q) u (by have := (List.getElem?_eq_some_iff.1 hq).1; simp at this; omega) ?_⟩
    have hq2 : q < 2 := by have := (List.getElem?_eq_some_iff.1 hq).1; simpa using this
    obtain rfl | rfl : q = 0 ∨ q = 1 := by omega
    · exact hq
    · exact hq
  · cases hj
    refine ⟨_, rfl, PAll.k95_mk w10 ⟨[12, 1], [-1, -1]⟩ (Nat.le_refl _) (nums_blk n3 [12, 1] rfl (by decide)) (Nat.le_refl _) (nums_blk n4 [-1, -1] rfl (by decide)), fun q u hq => hc (2 * 2 + q) u (by have := (List.getElem?_eq_some_iff.1 hq).1; simp at this; omega) ?_⟩
    have hq2 : q < 2 := by have := (List.getElem?_eq_some_iff.1 hq).1; simpa using this
    obtain rfl | rfl : q = 0 ∨ q = 1 := by omega
    · exact hq
    · exact hq
  · cases hj
    refine ⟨_, rfl, PAll.k95_mk w10 ⟨[9, 2], [1, 2]⟩ (Nat.le_refl _) (nums_blk n5 [9, 2] rfl (by decide)) (Nat.le_refl _) (nums_blk n6 [1, 2] rfl (by decide)), fun q u hq => hc (3 * 2 + q) u (by have := (List.getElem?_eq_some_iff.1 hq).1; simp at this; omega) ?_⟩
    have hq2 : q < 2 := by have := (List.getElem?_eq_some_iff.1 hq).1; simpa using this
    obtain rfl | rfl : q = 0 ∨ q = 1 := by omega
    · exact hq
    · exact hq
  · cases hj
    refine ⟨_, rfl, PAll.k95_mk w10 ⟨[-1, 5, 13, -1, -1, -1, -1, -1], ([] : List Int)⟩ (Nat.le_refl _) (nums_blk n7 [-1, 5, 13, -1, -1, -1, -1, -1] rfl (by decide)) (Nat.le_refl _) (Kd.C_nil kI _), fun q u hq => hc (4 * 2 + q) u (by have := (List.getElem?_eq_some_iff.1 hq).1; simp at this; omega) ?_⟩
    have hq2 : q < 2 := by have := (List.getElem?_eq_some_iff.1 hq).1; simpa using this
    obtain rfl | rfl : q = 0 ∨ q = 1 := by omega
    · exact hq
    · exact hq
  · cases hj
    refine ⟨_, rfl, PAll.k95_mk w10 ⟨[1], ([] : List Int)⟩ (Nat.le_refl _) (nums_blk n8 [1] rfl (by decide)) (Nat.le_refl _) (Kd.C_nil kI _), fun q u hq => hc (5 * 2 + q) u (by have := (List.getElem?_eq_some_iff.1 hq).1; simp at this; omega) ?_⟩
    have hq2 : q < 2 := by have := (List.getElem?_eq_some_iff.1 hq).1; simpa using this
    obtain rfl | rfl : q = 0 ∨ q = 1 := by omega
    · exact hq
    · exact hq
end Go.Proofs.YtbfedeedicnedaaGreat
end
section
namespace Go.Proofs.YtbfedeedicnedaaGreat
open Go.RowKit
open Go.Proofs.YtbfedeedicnedaaGreatW.PrintWords
namespace Sh
theorem H0_small : ∀ p ∈ H0, p.1.length ≤ 1000000 ∧ p.2.length ≤ 1000000 := by
  intro p hp
  unfold H0 at hp
  simp only [List.mem_cons, List.not_mem_nil, or_false] at hp
  rcases hp with rfl | rfl | rfl | rfl | rfl | rfl <;> simp
structure Has (H K : Hp) (f r : Int) (l : List Int) (m : Nat) : Prop where
  grown : ∃ E, K = H ++ E ∧ E.length ≤ m
  elems : elems K f r l.length = some l
theorem Has.le {H K : Hp} {f r : Int} {l : List Int} {m m' : Nat} (h : Has H K f r l m) (hm : m ≤ m') : Has H K f r l m' :=
  ⟨by obtain ⟨E, a, b⟩ := h.grown; exact ⟨E, a, by omega⟩, h.elems⟩
theorem has_lay (H : Hp) {f : Int} (h1 : 1 ≤ f) (h5 : f ≤ 5) {l : List Int} (hl : Els l) : Has H (layF f H l).1 f (layF f H l).2 l (2 * l.length + 80) := by
  obtain ⟨E, a, b, c⟩ := lay_ok H h1 h5 hl
  refine ⟨⟨E, a, b⟩, ?_⟩
  unfold Sh.elems
  rw [c]
  exact if_pos rfl
end Sh
theorem holds_has {H K : Sh.Hp} {f r : Int} {l : List Int} {m : Nat} (h : Sh.Has H K f r l m) {n m' : Int} (hn : n = l.length) (hm' : (m : Int) ≤ m') (hm9 : m ≤ 500000) (A : Option Addr) (c : Nat) (AG : Option Addr) (cG : Nat) (A2 : Option Addr) (c2 : Nat) (w : World) (hC : Nodes w A H) (hc : H.length ≤ c) (hG : Nodes w AG K) (hcG : K.length ≤ cG) (hL : Kd.C kI w A2 l.length l) (hc2 : l.length ≤ c2) (hl : H.length ≤ 100000) (hll : l.length ≤ 1000000) (hbig : ∀ p ∈ H, p.1.length ≤ 1000000 ∧ p.2.length ≤ 1000000) :
    Calls Tryz.prog 32 #[.slice A H.length c, .slice AG K.length cG, shV f r n, .int .i64 f, .slice A2 l.length c2, .int .i64 m'] w fun e w' => e = .returned (.bool true) ∧ Below w.heap.size w w' := by
  obtain ⟨E, rfl, hE⟩ := h.grown
  subst hn
  exact holds_calls H E f r l.length m' l A c AG cG A2 c2 w hC hc hG hcG hL hc2 (by omega) (by omega) hll hbig h.elems
theorem A_calls (w : World) : Calls Tryz.prog 50 #[] w fun e w' => e = .returned (shV 1 0 3) ∧ Below w.heap.size w w' := PAll.swardlaw12_A.calls 1 0 3 w rfl
theorem T_calls (w : World) : Calls Tryz.prog 51 #[] w fun e w' => e = .returned (shV 3 3 3) ∧ Below w.heap.size w w' := PAll.swardlaw12_T.calls 3 3 3 w rfl
theorem S_calls (w : World) : Calls Tryz.prog 52 #[] w fun e w' => e = .returned (shV 5 4 2) ∧ Below w.heap.size w w' := PAll.swardlaw12_S.calls 5 4 2 w rfl
theorem None_calls (w : World) : Calls Tryz.prog 53 #[] w fun e w' => e = .returned (shV 3 (-1) 0) ∧ Below w.heap.size w w' := PAll.swardlaw12_None.calls 3 (-1) 0 w rfl
theorem nd3 : ¬ Digital 3 := by unfold Digital; omega
theorem nd1 : ¬ Digital 1 := by unfold Digital; omega
theorem nd5 : ¬ Digital 5 := by unfold Digital; omega
theorem H0_lists {f : Int} (hf : ¬ Digital f) : ListsF Sh.H0 f := listsF_plain (fun p hp => (Sh.H0_small p hp).1) hf
theorem H0_T : Sh.listed Sh.H0 3 3 3 = ([5, 9, 12], 0) := by decide
theorem H0_A : Sh.listed Sh.H0 1 0 3 = ([5, 9, 12], 0) := by decide
theorem H0_N : Sh.listed Sh.H0 3 (-1) 0 = ([], 0) := by decide
theorem hash_listed (H : Sh.Hp) (root n : Int) (hl : H.length ≤ 3000) : Sh.listed H 5 root n = match (if Sh.there H root = true ∧ (Sh.nd H root).2 = [] then Sh.hashR (Sh.nd H root).1 else none) with
    | none => ([], 2)
    | some l => if (l.length : Int) = n then (l, 0) else ([], 2) := by
  unfold Sh.listed
  rw [if_neg (by omega), ← Sh.hashR_eq]
  rfl
theorem H0_S : Sh.listed Sh.H0 5 4 2 = ([5, 13], 0) := by
  rw [hash_listed _ _ _ (by decide)]
  decide
theorem listed_some {H : Sh.Hp} {f r n : Int} {l : List Int} (h : Sh.listed H f r n = (l, 0)) : Sh.list f H r = some l := by
  unfold Sh.listed at h
  split at h
  · cases h
  · rcases hl : Sh.list f H r with _ | m
    · rw [hl] at h; cases h
    · rw [hl] at h
      simp only at h
      split at h
      · cases h; rfl
      · cases h
theorem list5 (H : Sh.Hp) (r : Int) : Sh.list 5 H r = Sh.listHash H r := by unfold Sh.list; simp
def MadeOk (H : Sh.Hp) (f : Int) (l : List Int) (m : Nat) (w' : World) (e : Ending) : Prop := ∃ A c K r, e = .returned (.tuple #[.slice A (K : Sh.Hp).length c, shV f r l.length, .int .i64 0]) ∧ Kd.R kSN 95 w' 0 (fun _ => True) (.slice A K.length c) (sn K) ∧ Sh.Has H K f r l m
theorem Out3.made {base : Nat} {w' : World} {e : Ending} {H K : Sh.Hp} {f r n : Int} {l : List Int} {m : Nat} (h : Out3 base w' e K f r n 0) (hn : n = l.length) (hh : Sh.Has H K f r l m) : MadeOk H f l m w' e := by
  obtain ⟨v, rfl, hr⟩ := h
  obtain ⟨A, c, rfl⟩ := Kd.R_slice hr
  rw [sn_len] at hr ⊢
  subst hn
  exact ⟨A, c, K, r, rfl, Kd.R_lower hr (Nat.zero_le _), hh⟩
theorem put_ex (A : Option Addr) (c : Nat) (w : World) (hC : Nodes w A Sh.H0) : Calls Tryz.prog 36 #[.slice A 6 c, shV 5 4 2, .int .i64 21] w fun e w' => MadeOk Sh.H0 5 [5, 13, 21] 1 w' e ∧ Below w.heap.size w w' := by
  have hs : Sh.sought Sh.H0 5 4 2 21 = ([5, 13], 0) := by unfold Sh.sought; rw [H0_S]; rfl
  have hput : ∀ (base hb : Nat) (W : World), HeapAt W base hb Sh.H0 → Calls Tryz.prog 192 #[.agg #[], .pointer (some ⟨hb, 0, none⟩), .int .i64 4, .int .i64 21] W fun e w' => e = .returned (.int .i64 6) ∧ HeapAt w' base hb (Sh.H0 ++ [(Sh.putH [-1, 5, 13, -1, -1, -1, -1, -1] 21, [])]) ∧ Below base W w' := fun base hb W hH =>
    hput_calls hH 4 21 (by decide) (t := [-1, 5, 13, -1, -1, -1, -1, -1]) (by decide) (l := [5, 13]) (listed_some H0_S) (by decide) (by decide) (by omega) (by omega) (fun p hp => (Sh.H0_small p hp).1) (by decide)
  refine (Put_of hC (fun W hW => changed_more hW (H0_lists nd5) hs (by decide) (by decide) (by decide) Sh.H0_small (by omega) (by omega) hput)).mono ?_
  rintro e w' ⟨h, hB⟩
  refine ⟨h.made (by decide) ⟨⟨_, rfl, by decide⟩, ?_⟩, hB⟩
  unfold Sh.elems
  rw [list5, Sh.hashR_eq]
  decide
theorem drop_ex (A : Option Addr) (c : Nat) (w : World) (hC : Nodes w A Sh.H0) : Calls Tryz.prog 37 #[.slice A 6 c, shV 1 0 3, .int .i64 9] w fun e w' => MadeOk Sh.H0 1 [5, 12] 1 w' e ∧ Below w.heap.size w w' := by
  have hs : Sh.sought Sh.H0 1 0 3 9 = ([5, 9, 12], 0) := by unfold Sh.sought; rw [H0_A]; rfl
  have hdr : ∀ (base hb : Nat) (W : World), HeapAt W base hb Sh.H0 → Calls Tryz.prog 160 #[.agg #[], .pointer (some ⟨hb, 0, none⟩), .int .i64 0, .int .i64 9] W fun e w' => e = .returned (.int .i64 6) ∧ HeapAt w' base hb (Sh.H0 ++ [(([5, 9, 12] : List Int).take 1 ++ ([5, 9, 12] : List Int).drop (1 + 1), [])]) ∧ Below base W w' := fun base hb W hH =>
    adrop_calls hH 0 9 (by decide) (l := [5, 9, 12]) (by decide) (by decide) 1 (by decide) (by decide) (by decide) (by decide)
  refine (Drop_of hC (fun W hW => changed_less hW (H0_lists nd1) hs (by decide) (by decide) (by decide) Sh.H0_small (by omega) (by omega) hdr)).mono ?_
  rintro e w' ⟨h, hB⟩
  exact ⟨h.made (by decide) ⟨⟨_, rfl, by decide⟩, by decide⟩, hB⟩
theorem els_lit {l : List Int} (h : Sh.rising l = true) : Sh.Els l := Sh.rising_iff.1 h
theorem make_ok {H : Sh.Hp} {f : Int} {l : List Int} {A A1 : Option Addr} {c c1 : Nat} {w : World} (hC : Nodes w A H) (hL : Kd.C kI w A1 l.length l) (h : H.length ≤ 3000 ∧ l.length ≤ 2000) (hf : 1 ≤ f ∧ f ≤ 5) (hb : (l.any fun x => !(Sh.el x)) = false) (hbig : ∀ p ∈ H, p.1.length ≤ 1000000 ∧ p.2.length ≤ 1000000) :
    Calls Tryz.prog 29 #[.slice A H.length c, .int .i64 f, .slice A1 l.length c1] w fun e w' => MadeOk H f (Sh.sortF l) (2 * (Sh.sortF l).length + 80) w' e ∧ Below w.heap.size w w' := by
  have hx : ∀ x ∈ l, 0 ≤ x ∧ x ≤ 1023 := by
    intro x hx
    have := List.any_eq_false.1 hb x hx
    unfold Sh.el at this
    simp at this
    omega
  obtain ⟨h1, h2⟩ := Sh.compact_sort hx
  have hm := Make_calls (A := A) (A1 := A1) (c := c) (c1 := c1) hC hL h hf hb (by rw [h1]; exact laysF_all h2 (by omega)) hbig
  rw [h1] at hm
  exact hm.mono fun e w' h => ⟨h.1.made rfl (Sh.has_lay H hf.1 hf.2 h2), h.2⟩
theorem make_ex (A : Option Addr) (c : Nat) (A1 : Option Addr) (c1 : Nat) (w : World) (hC : Nodes w A Sh.H0) (hL : Kd.C kI w A1 3 [7, 0, 7]) : Calls Tryz.prog 29 #[.slice A 6 c, .int .i64 4, .slice A1 3 c1] w fun e w' => MadeOk Sh.H0 4 [0, 7] 86 w' e ∧ Below w.heap.size w w' := by
  have := make_ok (H := Sh.H0) (f := 4) (l := [7, 0, 7]) (A := A) (A1 := A1) (c := c) (c1 := c1) hC hL (by decide) (by omega) (by decide) Sh.H0_small
  rw [show Sh.sortF [7, 0, 7] = [0, 7] by decide] at this
  exact this.mono fun e w' h => ⟨by obtain ⟨A, c, K, r, a, b, g⟩ := h.1; exact ⟨A, c, K, r, a, b, g.le (by decide)⟩, h.2⟩
theorem turn_ex (A : Option Addr) (c : Nat) (w : World) (hC : Nodes w A Sh.H0) : Calls Tryz.prog 34 #[.slice A 6 c, shV 3 3 3, .int .i64 2] w fun e w' => MadeOk Sh.H0 2 [5, 9, 12] 86 w' e ∧ Below w.heap.size w w' := by
  have hE : Sh.Els [5, 9, 12] := els_lit (by decide)
  refine (Turn_calls hC (H0_lists nd3) nd3 H0_T (by omega) (by omega) (laysF_all hE (by decide)) (by decide) Sh.H0_small (by decide)).mono ?_
  rintro e w' ⟨h, hB⟩
  exact ⟨h.made rfl ((Sh.has_lay Sh.H0 (by omega) (by omega) hE).le (by decide)), hB⟩
theorem union_ex (A : Option Addr) (c : Nat) (w : World) (hC : Nodes w A Sh.H0) : Calls Tryz.prog 41 #[.slice A 6 c, shV 1 0 3, shV 5 4 2] w fun e w' => MadeOk Sh.H0 1 [5, 9, 12, 13] 90 w' e ∧ Below w.heap.size w w' := by
  have hE : Sh.Els [5, 9, 12, 13] := els_lit (by decide)
  refine (Union_calls hC (H0_lists nd1) (H0_lists nd5) nd1 nd5 H0_A H0_S (by omega) (by omega) (M := [5, 9, 12, 13]) (by decide) (laysF_all hE (by decide)) (by decide) Sh.H0_small (by decide) (by decide)).mono ?_
  rintro e w' ⟨h, hB⟩
  exact ⟨h.made rfl ((Sh.has_lay Sh.H0 (by omega) (by omega) hE).le (by decide)), hB⟩
theorem meet_ex (A : Option Addr) (c : Nat) (w : World) (hC : Nodes w A Sh.H0) : Calls Tryz.prog 42 #[.slice A 6 c, shV 1 0 3, shV 5 4 2] w fun e w' => MadeOk Sh.H0 1 [5] 90 w' e ∧ Below w.heap.size w w' := by
  have hE : Sh.Els [5] := els_lit (by decide)
  refine (Meet_calls hC (H0_lists nd1) (H0_lists nd5) nd1 nd5 H0_A H0_S (by omega) (by omega) (M := [5]) (by decide) (laysF_all hE (by decide)) (by decide) Sh.H0_small (by decide) (by decide)).mono ?_
  rintro e w' ⟨h, hB⟩
  exact ⟨h.made rfl ((Sh.has_lay Sh.H0 (by omega) (by omega) hE).le (by decide)), hB⟩
theorem minus_ex (A : Option Addr) (c : Nat) (w : World) (hC : Nodes w A Sh.H0) : Calls Tryz.prog 43 #[.slice A 6 c, shV 3 3 3, shV 5 4 2] w fun e w' => MadeOk Sh.H0 3 [9, 12] 90 w' e ∧ Below w.heap.size w w' := by
  have hE : Sh.Els [9, 12] := els_lit (by decide)
  refine (Minus_calls hC (H0_lists nd3) (H0_lists nd5) nd3 nd5 H0_T H0_S (by omega) (by omega) (M := [9, 12]) (by decide) (laysF_all hE (by decide)) (by decide) Sh.H0_small (by decide) (by decide)).mono ?_
  rintro e w' ⟨h, hB⟩
  exact ⟨h.made rfl ((Sh.has_lay Sh.H0 (by omega) (by omega) hE).le (by decide)), hB⟩
end Go.Proofs.YtbfedeedicnedaaGreat
end
section
namespace Go.Proofs.YtbfedeedicnedaaGreat
open Go.RowKit
open Go.Proofs.YtbfedeedicnedaaGreatW.PrintWords
theorem elems_tree {K : Sh.Hp} {r t : Int} {l : List Int} (T : Sh.Tr K r (-1) 1024 l t) : Sh.elems K 3 r l.length = some l := by
  have e : Sh.list 3 K r = Sh.listTree K r := by unfold Sh.list; simp
  unfold Sh.elems
  rw [e, Sh.listTree_iff.2 ⟨t, T⟩]
  exact if_pos rfl
theorem listed_tree {H : Sh.Hp} {r n : Int} {l : List Int} (h : Sh.listed H 3 r n = (l, 0)) : ∃ t, Sh.Tr H r (-1) 1024 l t := by
  have := listed_some h
  have e : Sh.list 3 H r = Sh.listTree H r := by unfold Sh.list; simp
  rw [e] at this
  exact Sh.listTree_iff.1 this
def SplitOk (H : Sh.Hp) (a b : List Int) (is : Bool) (m : Nat) (w' : World) (e : Ending) : Prop := ∃ A c K r1 r2, e = .returned (.tuple #[.slice A (K : Sh.Hp).length c, shV 3 r1 a.length, shV 3 r2 b.length, .bool is, .int .i64 0]) ∧ Kd.R kSN 95 w' 0 (fun _ => True) (.slice A K.length c) (sn K) ∧ Sh.Has H K 3 r1 a m ∧ Sh.Has H K 3 r2 b m
theorem more_len {l : List Int} {x : Int} (hl : l.Pairwise (· < ·)) : Sh.more l x = (Sh.above l x).length := by
  unfold Sh.more Sh.above
  rw [← List.countP_eq_length_filter]
  induction l with
  | nil => rfl
  | cons y l ih =>
    rw [List.pairwise_cons] at hl
    have ih' := ih hl.2
    rw [List.countP_cons, List.countP_cons, List.contains_cons, List.length_cons]
    rcases Int.lt_trichotomy y x with h | h | h
    · have h1 : decide (y < x) = true := decide_eq_true h
      have h2 : decide (x < y) = false := decide_eq_false (by omega)
      have h3 : (x == y) = false := beq_eq_false_iff_ne.mpr (by omega)
      simp only [h1, h2, h3, if_true, Bool.false_or, Bool.false_eq_true, if_false]
      omega
    · subst h
      have hn : l.contains y = false := by
        rw [← Bool.not_eq_true, List.contains_iff_mem]
        intro hm
        have := hl.1 y hm
        omega
      have h1 : decide (y < y) = false := decide_eq_false (by omega)
      rw [hn] at ih'
      simp only [h1, hn, BEq.rfl, Bool.true_or, if_true, Bool.false_eq_true, if_false] at ih' ⊢
      omega
    · have hn : l.contains x = false := by
        rw [← Bool.not_eq_true, List.contains_iff_mem]
        intro hm
        have := hl.1 x hm
        omega
      have h1 : decide (y < x) = false := decide_eq_false (by omega)
      have h2 : decide (x < y) = true := decide_eq_true h
      have h3 : (x == y) = false := beq_eq_false_iff_ne.mpr (by omega)
      rw [hn] at ih'
      simp only [h1, h2, h3, hn, if_true, Bool.or_self, Bool.false_eq_true, if_false] at ih' ⊢
      omega
theorem split_is {H : Sh.Hp} {root n x t : Int} {A : Option Addr} {c : Nat} {w : World} {l : List Int} (hC : Nodes w A H) (hLa : ListsF H 3) (ha : Sh.sought H 3 root n x = (l, 0)) (Tt : Sh.Tr H root (-1) 1024 l t) (hlH : H.length ≤ 100000) (hbig : ∀ p ∈ H, p.1.length ≤ 1000000 ∧ p.2.length ≤ 1000000) :
    Calls Tryz.prog 44 #[.slice A H.length c, shV 3 root n, .int .i64 x] w fun e w' => SplitOk H (Sh.below l x) (Sh.above l x) (l.contains x) (10 * t.toNat) w' e ∧ Below w.heap.size w w' := by
  have ht := Tt.low
  have ht0 := Tt.nonneg
  have hE : l.length ≤ 1024 := Sh.els_len (Sh.listTree_els (Sh.listTree_iff.2 ⟨t, Tt⟩))
  refine (Split_calls hC hLa ha Tt (by omega) (by omega) hlH hbig).mono ?_
  rintro e w' ⟨⟨v, rfl, hr⟩, hB⟩
  obtain ⟨A2, c2, rfl⟩ := Kd.R_slice hr
  rw [sn_len] at hr ⊢
  obtain ⟨E, t1, t2, hK, T1, T2, h1, h2, h3⟩ := Sh.split_ok 2000 x Tt (by omega) (by omega)
  refine ⟨⟨A2, c2, _, _, _, ?_, Kd.R_lower hr (Nat.zero_le _), ⟨⟨E, hK, by omega⟩, elems_tree T1⟩, ⟨⟨E, hK, by omega⟩, elems_tree T2⟩⟩, hB⟩
  rw [more_len Tt.rise, List.countP_eq_length_filter]
  rfl
theorem join_is {H : Sh.Hp} {ra na rb nb x ta tb : Int} {A : Option Addr} {c : Nat} {w : World} {l m : List Int} (hC : Nodes w A H) (hLa : ListsF H 3) (ha : Sh.listed H 3 ra na = (l, 0)) (hb : Sh.sought H 3 rb nb x = (m, 0)) (Ta : Sh.Tr H ra (-1) 1024 l ta) (Tb : Sh.Tr H rb (-1) 1024 m tb) (hbt : Sh.between l m x) (hx0 : 0 ≤ x) (hx1 : x ≤ 1023) (hlH : H.length ≤ 100000) (hbig : ∀ p ∈ H, p.1.length ≤ 1000000 ∧ p.2.length ≤ 1000000) :
    Calls Tryz.prog 47 #[.slice A H.length c, shV 3 ra na, .int .i64 x, shV 3 rb nb] w fun e w' => MadeOk H 3 (l ++ x :: m) (3 * ((ta - tb).natAbs - 1) + 1) w' e ∧ Below w.heap.size w w' := by
  have hta := Ta.low
  have htb := Tb.low
  have ha0 := Ta.nonneg
  have hb0 := Tb.nonneg
  have hE1 : l.length ≤ 1024 := Sh.els_len (Sh.listTree_els (Sh.listTree_iff.2 ⟨ta, Ta⟩))
  have hE2 : m.length ≤ 1024 := Sh.els_len (Sh.listTree_els (Sh.listTree_iff.2 ⟨tb, Tb⟩))
  refine (Join_calls hC hLa ha hb Ta Tb (by omega) (by omega) hbt hx0 hx1 (by omega) (by omega) hlH hbig).mono ?_
  rintro e w' ⟨h, hB⟩
  obtain ⟨t, ⟨⟨E, hK, hEl⟩, T⟩, -, -⟩ := Sh.join_ok 2000 (Ta.cut_hi hbt.1) (Tb.cut_lo hbt.2) (show (-1 : Int) < x by omega) (show x < 1024 by omega) (by omega)
  refine ⟨h.made ?_ ⟨⟨E, hK, hEl⟩, elems_tree T⟩, hB⟩
  rw [List.length_append, List.length_cons]
  omega
theorem H0_t : ∃ t, Sh.Tr Sh.H0 3 (-1) 1024 [5, 9, 12] t ∧ 0 ≤ t ∧ t ≤ 3 := by
  obtain ⟨t, T⟩ := listed_tree H0_T
  exact ⟨t, T, T.nonneg, T.high⟩
theorem H0_n : ∃ t, Sh.Tr Sh.H0 (-1) (-1) 1024 [] t ∧ t = 0 := ⟨0, .leaf _ _, rfl⟩
theorem SplitOk.le {H : Sh.Hp} {a b : List Int} {is : Bool} {m m' : Nat} {w' : World} {e : Ending} (h : SplitOk H a b is m w' e) (hm : m ≤ m') : SplitOk H a b is m' w' e := by
  obtain ⟨A, c, K, r1, r2, h1, h2, h4, h5⟩ := h
  exact ⟨A, c, K, r1, r2, h1, h2, h4.le hm, h5.le hm⟩
theorem MadeOk.le {H : Sh.Hp} {f : Int} {l : List Int} {m m' : Nat} {w' : World} {e : Ending} (h : MadeOk H f l m w' e) (hm : m ≤ m') : MadeOk H f l m' w' e := by
  obtain ⟨A, c, K, r, h1, h2, h4⟩ := h
  exact ⟨A, c, K, r, h1, h2, h4.le hm⟩
theorem split_ex (x : Int) (hx : Sh.el x = true) (A : Option Addr) (c : Nat) (w : World) (hC : Nodes w A Sh.H0) : Calls Tryz.prog 44 #[.slice A 6 c, shV 3 3 3, .int .i64 x] w fun e w' => SplitOk Sh.H0 (Sh.below [5, 9, 12] x) (Sh.above [5, 9, 12] x) (([5, 9, 12] : List Int).contains x) 80 w' e ∧ Below w.heap.size w w' := by
  obtain ⟨t, T, h0, h1⟩ := H0_t
  have hs : Sh.sought Sh.H0 3 3 3 x = ([5, 9, 12], 0) := by unfold Sh.sought; rw [H0_T, if_neg (fun h => by rw [hx] at h; exact absurd h.2 (by decide))]
  exact (split_is hC (H0_lists nd3) hs T (by decide) Sh.H0_small).mono fun e w' h => ⟨h.1.le (by omega), h.2⟩
theorem join_ex (A : Option Addr) (c : Nat) (w : World) (hC : Nodes w A Sh.H0) : Calls Tryz.prog 47 #[.slice A 6 c, shV 3 3 3, .int .i64 20, shV 3 (-1) 0] w fun e w' => MadeOk Sh.H0 3 [5, 9, 12, 20] 24 w' e ∧ Below w.heap.size w w' := by
  obtain ⟨t, T, h0, h1⟩ := H0_t
  obtain ⟨t2, T2, h2⟩ := H0_n
  have hs : Sh.sought Sh.H0 3 (-1) 0 20 = ([], 0) := by unfold Sh.sought; rw [H0_N]; rfl
  have hb : Sh.between [5, 9, 12] [] 20 := by
    refine ⟨fun y hy => ?_, fun y hy => by cases hy⟩
    simp only [List.mem_cons, List.not_mem_nil, or_false] at hy
    omega
  exact (join_is hC (H0_lists nd3) H0_T hs T T2 hb (by omega) (by omega) (by decide) Sh.H0_small).mono fun e w' h => ⟨h.1.le (by omega), h.2⟩
theorem finds_array {H : Sh.Hp} {root x : Int} (ht : Sh.there H root = true) (hbig : (Sh.nd H root).1.length ≤ 1000000) : FindsF H 1 root x (Sh.findA (Sh.nd H root).1 x ((Sh.nd H root).1.length + 1) 0 (Sh.nd H root).1.length 0).1 (Sh.findA (Sh.nd H root).1 x ((Sh.nd H root).1.length + 1) 0 (Sh.nd H root).1.length 0).2 := by
  intro ty k hk A c w hC
  rcases hk with ⟨rfl, rfl, _⟩ | ⟨_, _, h⟩ | ⟨_, _, h⟩ | ⟨_, _, h⟩ | ⟨_, _, h⟩
  · exact afind_calls H root x A c w hC ht hbig
  all_goals exact absurd h (by omega)
theorem finds_hash {H : Sh.Hp} {root x : Int} (ht : Sh.there H root = true) (hx : 0 ≤ x) (hx1 : x ≤ 1000000) (hpos : 0 < (Sh.nd H root).1.length) (hbig : (Sh.nd H root).1.length ≤ 100000) : FindsF H 5 root x (decide (Sh.gi (Sh.nd H root).1 (Sh.slot (Sh.nd H root).1 x (Sh.place (Sh.nd H root).1 x)) = x)) (Sh.place (Sh.nd H root).1 x + 1) := by
  intro ty k hk A c w hC
  rcases hk with ⟨_, _, h⟩ | ⟨_, _, h⟩ | ⟨_, _, h⟩ | ⟨_, _, h⟩ | ⟨rfl, rfl, _⟩
  · exact absurd h (by omega)
  · exact absurd h (by omega)
  · exact absurd h (by omega)
  · exact absurd h (by omega)
  · exact hfind_calls H root x A c w hC ht hx hx1 hpos hbig
theorem has_ex (A : Option Addr) (c : Nat) (w : World) (hC : Nodes w A Sh.H0) : Calls Tryz.prog 17 #[.slice A 6 c, shV 1 0 3, .int .i64 9] w fun e w' => e = .returned (.tuple #[.bool true, .int .i64 0]) ∧ Below w.heap.size w w' := by
  have hs : (Sh.sought Sh.H0 1 0 3 9).2 = 0 := by unfold Sh.sought; rw [H0_A]; rfl
  exact Has_of (H := Sh.H0) w hC (fun W hW => search_good Sh.H0 1 0 3 9 true _ A c W hW (H0_lists nd1) hs (by omega) (by omega) (finds_array (by decide) (by decide)))
theorem steps_ex {f root n x : Int} {b : Bool} {k : Nat} (hd : ¬ Digital f) (hs : (Sh.sought Sh.H0 f root n x).2 = 0) (h1 : 1 ≤ f) (h5 : f ≤ 5) (hF : FindsF Sh.H0 f root x b k) (A : Option Addr) (c : Nat) (w : World) (hC : Nodes w A Sh.H0) : Calls Tryz.prog 27 #[.slice A 6 c, shV f root n, .int .i64 x] w fun e w' => e = .returned (.tuple #[.int .i64 k, .int .i64 0]) ∧ Below w.heap.size w w' :=
  Steps_of (H := Sh.H0) w hC (fun W hW => search_good Sh.H0 f root n x b k A c W hW (H0_lists hd) hs h1 h5 hF)
theorem steps_S (A : Option Addr) (c : Nat) (w : World) (hC : Nodes w A Sh.H0) : Calls Tryz.prog 27 #[.slice A 6 c, shV 5 4 2, .int .i64 21] w fun e w' => e = .returned (.tuple #[.int .i64 3, .int .i64 0]) ∧ Below w.heap.size w w' :=
  steps_ex nd5 (by unfold Sh.sought; rw [H0_S]; rfl) (by omega) (by omega) (finds_hash (H := Sh.H0) (root := 4) (x := 21) (by decide) (by omega) (by omega) (by decide) (by decide)) A c w hC
theorem nodes_ex {fa ra na fb rb nb : Int} {ma mb : List Bool} (hda : ¬ Digital fa) (hdb : ¬ Digital fb) (ha : (Sh.listed Sh.H0 fa ra na).2 = 0) (hb : (Sh.listed Sh.H0 fb rb nb).2 = 0) (hra : Sh.walkR Sh.H0 7 ra (List.replicate 6 false) = some ma) (hrb : Sh.walkR Sh.H0 7 rb (List.replicate 6 false) = some mb) (A : Option Addr) (c : Nat) (w : World) (hC : Nodes w A Sh.H0) :
    Calls Tryz.prog 18 #[.slice A 6 c, shV fa ra na, shV fb rb nb] w fun e w' => e = .returned (.tuple #[.int .i64 (Sh.ca ma : Nat), .int .i64 (Sh.cb ma mb : Nat), .int .i64 0]) ∧ Below w.heap.size w w' :=
  Nodes_calls Sh.H0 fa ra na fb rb nb A c w ma mb hC (fun p hp => (Sh.H0_small p hp).2) (by decide) (H0_lists hda) (H0_lists hdb) ha hb hra hrb
theorem nodes_TT (A : Option Addr) (c : Nat) (w : World) (hC : Nodes w A Sh.H0) : Calls Tryz.prog 18 #[.slice A 6 c, shV 3 3 3, shV 3 3 3] w fun e w' => e = .returned (.tuple #[.int .i64 3, .int .i64 3, .int .i64 0]) ∧ Below w.heap.size w w' :=
  nodes_ex (ma := [false, true, true, true, false, false]) (mb := [false, true, true, true, false, false]) nd3 nd3 (by rw [H0_T]) (by rw [H0_T]) (by decide) (by decide) A c w hC
def ListOk (l : List Int) (w' : World) (e : Ending) : Prop := ∃ A c, e = .returned (.tuple #[.slice A l.length c, .int .i64 0]) ∧ l.length ≤ c ∧ Kd.C kI w' A l.length l
theorem list_ex {f root n : Int} {l : List Int} (hd : ¬ Digital f) (h : Sh.listed Sh.H0 f root n = (l, 0)) (A : Option Addr) (c : Nat) (w : World) (hC : Nodes w A Sh.H0) : Calls Tryz.prog 16 #[.slice A 6 c, shV f root n] w fun e w' => ListOk l w' e ∧ Below w.heap.size w w' := by
  refine (List_calls Sh.H0 f root n A c w hC (H0_lists hd)).mono ?_
  rw [h]
  rintro e w' ⟨⟨v, l1, rfl, ho, h1, h2⟩, hB⟩
  obtain rfl : l1 = l := h2 hd
  obtain ⟨A2, c2, rfl, hc2, hC2⟩ := Kd.R_reads ho
  exact ⟨⟨A2, c2, rfl, hc2, hC2⟩, hB⟩
theorem check_ex {f root n e0 : Int} (hd : ¬ Digital f) (h : (Sh.listed Sh.H0 f root n).2 = e0) (A : Option Addr) (c : Nat) (w : World) (hC : Nodes w A Sh.H0) : Calls Tryz.prog 22 #[.slice A 6 c, shV f root n] w fun e w' => e = .returned (.int .i64 e0) ∧ Below w.heap.size w w' := by
  subst h
  exact Check_calls Sh.H0 f root n A c w hC (H0_lists hd)
end Go.Proofs.YtbfedeedicnedaaGreat
end
section
namespace Go.Proofs.YtbfedeedicnedaaGreat
open Go.RowKit
open Go.Proofs.YtbfedeedicnedaaGreatW.PrintWords
theorem lit_C (W : World) (l : List Int) (cs : Array Value) (hcs : cs = (nums .i64 l).toArray) (hm : l.length ≤ 1000000) : Kd.C kI (W.alloc (.cells cs 3)) (some ⟨W.heap.size, 0, none⟩) l.length l := by
  obtain ⟨A, c, e, _, hC⟩ := Kd.R_reads (lit_ints W 0 l cs l.length (Nat.zero_le _) (by omega) hcs rfl)
  simp only [Value.slice.injEq] at e
  rw [e.1]
  exact hC
def MadeAt (W : World) (A : Option Addr) (q c : Nat) (f r n : Int) (l : List Int) (m : Nat) : Prop := ∃ K : Sh.Hp, q = K.length ∧ Kd.R kSN 95 W 0 (fun _ => True) (.slice A q c) (sn K) ∧ Sh.Has Sh.H0 K f r l m ∧ n = l.length
theorem MadeAt.below {W W' : World} {A : Option Addr} {q c : Nat} {f r n : Int} {l : List Int} {m : Nat} (h : MadeAt W A q c f r n l m) (hB : Below W.heap.size W W') : MadeAt W' A q c f r n l m := by
  obtain ⟨K, h1, h2, h3⟩ := h
  exact ⟨K, h1, Kd.R_below h2 hB, h3⟩
theorem MadeAt.set {W : World} {A : Option Addr} {q c g : Nat} {f r n : Int} {l : List Int} {m : Nat} {cs : Array Value} (h : MadeAt W A q c f r n l m) (hg : W.heap[g]? = some (.cells cs 25 (0, 0))) (x y z : Value) : MadeAt (((W.setCell ⟨g, 0, none⟩ x).setCell ⟨g, 1, none⟩ y).setCell ⟨g, 2, none⟩ z) A q c f r n l m := by
  obtain ⟨K, h1, h2, h3⟩ := h
  exact ⟨K, h1, out_set h2 hg x y z, h3⟩
theorem holds_at {W : World} {A : Option Addr} {q c : Nat} {f r n : Int} {l : List Int} {m : Nat} (h : MadeAt W A q c f r n l m) {k : Nat} (hk : k = l.length) {m' : Int} (hm' : (m : Int) ≤ m') (hm9 : m ≤ 1000) (AH : Option Addr) (cH : Nat) (hH : Nodes W AH Sh.H0) (hcH : 6 ≤ cH) (A2 : Option Addr) (c2 : Nat) (hL : Kd.C kI W A2 k l) (hc2 : k ≤ c2) (hl : k ≤ 1000) :
    Calls Tryz.prog 32 #[.slice AH 6 cH, .slice A q c, shV f r n, .int .i64 f, .slice A2 k c2, .int .i64 m'] W fun e w' => e = .returned (.bool true) ∧ Below W.heap.size W w' := by
  obtain ⟨K, rfl, hR, hh, hn⟩ := h
  subst hk
  have hr := Kd.R_reads' hR
  rw [sn_len] at hr
  exact holds_has hh hn hm' (by omega) AH cH A c A2 c2 W hH hcH hr.2.2 hr.2.1 hL hc2 (by decide) (by omega) Sh.H0_small
theorem MadeOk.v {f n : Int} {l : List Int} {m : Nat} {w' : World} {e : Ending} (h : MadeOk Sh.H0 f l m w' e) (hn : n = l.length) : ∃ A q c r, e = .returned (.tuple #[.slice A q c, shV f r n, .int .i64 0]) ∧ MadeAt w' A q c f r n l m := by
  obtain ⟨A, c, K, r, rfl, h2, h3⟩ := h
  subst hn
  exact ⟨A, _, c, r, rfl, K, rfl, h2, h3, rfl⟩
theorem SplitOk.v {n1 n2 : Int} {a b : List Int} {is : Bool} {m : Nat} {w' : World} {e : Ending} (h : SplitOk Sh.H0 a b is m w' e) (h1 : n1 = a.length) (h2 : n2 = b.length) : ∃ A q c r1 r2, e = .returned (.tuple #[.slice A q c, shV 3 r1 n1, shV 3 r2 n2, .bool is, .int .i64 0]) ∧ MadeAt w' A q c 3 r1 n1 a m ∧ MadeAt w' A q c 3 r2 n2 b m := by
  obtain ⟨A, c, K, r1, r2, rfl, hR, h4, h5⟩ := h
  subst h1; subst h2
  exact ⟨A, _, c, r1, r2, rfl, ⟨K, rfl, hR, h4, rfl⟩, ⟨K, rfl, hR, h5, rfl⟩⟩
theorem made_v {k : Nat} {args : Array Value} {w : World} {f : Int} {l : List Int} {m : Nat} (h : Calls Tryz.prog k args w fun e w' => MadeOk Sh.H0 f l m w' e ∧ Below w.heap.size w w') (n : Int) (hn : n = l.length) :
    Calls Tryz.prog k args w fun e w' => (∃ A q c r, e = .returned (.tuple #[.slice A q c, shV f r n, .int .i64 0]) ∧ MadeAt w' A q c f r n l m) ∧ Below w.heap.size w w' := h.mono fun e w' h => ⟨h.1.v hn, h.2⟩
theorem list_T (A : Option Addr) (c : Nat) (w : World) (hC : Nodes w A Sh.H0) : Calls Tryz.prog 16 #[.slice A 6 c, shV 3 3 3] w fun e w' => (∃ A c, e = .returned (.tuple #[.slice A 3 c, .int .i64 0]) ∧ 3 ≤ c ∧ Kd.C kI w' A 3 [5, 9, 12]) ∧ Below w.heap.size w w' := list_ex nd3 H0_T A c w hC
theorem store3 {w : World} {g : Nat} {a b c : Value} (h : w.heap[g]? = some (.cells #[a, b, c] 25 (0, 0))) (x y z : Int) :
    ∃ v1 v2 v3, (w.setCell ⟨g, 0, none⟩ (.int .i64 x) = v1 ∧ v1.setCell ⟨g, 1, none⟩ (.int .i64 y) = v2 ∧ v2.setCell ⟨g, 2, none⟩ (.int .i64 z) = v3) ∧ (w.cell? ⟨g, 0, none⟩ = some a ∧ v1.cell? ⟨g, 1, none⟩ = some b ∧ v2.cell? ⟨g, 2, none⟩ = some c) ∧
      (w.frozen? ⟨g, 0, none⟩ = false ∧ v1.frozen? ⟨g, 1, none⟩ = false ∧ v2.frozen? ⟨g, 2, none⟩ = false) ∧ v3 = ((w.setCell ⟨g, 0, none⟩ (.int .i64 x)).setCell ⟨g, 1, none⟩ (.int .i64 y)).setCell ⟨g, 2, none⟩ (.int .i64 z) :=
  ⟨_, _, _, ⟨rfl, rfl, rfl⟩, ⟨by rw [blk_cell h]; rfl, by rw [blk_cell (blk_set h 0 _)]; rfl, by rw [blk_cell (blk_set (blk_set h 0 _) 1 _)]; rfl⟩,
    ⟨blk_frozen h _, blk_frozen (blk_set h 0 _) _, blk_frozen (blk_set (blk_set h 0 _) 1 _) _⟩, rfl⟩
theorem blk_store3 {w : World} {g k : Nat} {o : Obj} (h : w.heap[k]? = some o) (hn : k ≠ g) (x y z : Value) : (((w.setCell ⟨g, 0, none⟩ x).setCell ⟨g, 1, none⟩ y).setCell ⟨g, 2, none⟩ z).heap[k]? = some o := by
  rw [Go.Deep.blk_setCell_other _ ⟨g, 2, none⟩ z k hn, Go.Deep.blk_setCell_other _ ⟨g, 1, none⟩ y k hn, Go.Deep.blk_setCell_other _ ⟨g, 0, none⟩ x k hn]
  exact h
theorem below_step {w0 W W' : World} (h1 : Below w0.heap.size w0 W) (h2 : Below W.heap.size W W') : Below w0.heap.size w0 W' := h1.trans (h2.mono h1.size)
theorem H_lit (W : World) (l : List Int) (cs : Array Value) (hcs : cs = (nums .i64 l).toArray) (hm : l.length ≤ 1000000) : Calls Tryz.prog 49 #[] (W.alloc (.cells cs 3)) fun e w' => (∃ A c, e = .returned (.slice A 6 c) ∧ 6 ≤ c ∧ Nodes w' A Sh.H0) ∧ Kd.C kI w' (some ⟨W.heap.size, 0, none⟩) l.length l ∧ Below W.heap.size W w' :=
  (H_calls _).mono fun e w' h => ⟨h.1, Kd.C_below (lit_C W l cs hcs hm) h.2, below_step ((Below.refl _ _).alloc (Nat.le_refl _) _) h.2⟩
theorem H_litd (W : World) (l : List Int) (cs : Array Value) (hcs : cs = (nums .i64 l).toArray) (hm : l.length ≤ 1000000) : Calls Tryz.prog 49 #[] (W.alloc (.cells cs 3)).drew fun e w' => (∃ A c, e = .returned (.slice A 6 c) ∧ 6 ≤ c ∧ Nodes w' A Sh.H0) ∧ Kd.C kI w' (some ⟨W.heap.size, 0, none⟩) l.length l ∧ Below W.heap.size W w' :=
  (H_calls _).mono fun e w' h => ⟨h.1, Kd.C_below (Kd.C_below (lit_C W l cs hcs hm) (Below.refl _ _).drew) h.2, below_step (((Below.refl _ _).alloc (Nat.le_refl _) _).drew) h.2⟩
theorem list_lit (v : Value) (W : World) (l : List Int) (cs : Array Value) (hcs : cs = (nums .i64 l).toArray) (hm : l.length ≤ 1000000) : Calls Tryz.prog 40 #[v] (W.alloc (.cells cs 3)) fun e w' => e = .returned v ∧ Kd.C kI w' (some ⟨W.heap.size, 0, none⟩) l.length l ∧ Below W.heap.size W w' :=
  (list_calls _ _).mono fun e w' h => ⟨h.1, by rw [h.2]; exact lit_C W l cs hcs hm, by rw [h.2]; exact (Below.refl _ _).alloc (Nat.le_refl _) _⟩
theorem split_v (A : Option Addr) (c : Nat) (w : World) (hC : Nodes w A Sh.H0) : Calls Tryz.prog 44 #[.slice A 6 c, shV 3 3 3, .int .i64 9] w fun e w' => (∃ A q c r1 r2, e = .returned (.tuple #[.slice A q c, shV 3 r1 1, shV 3 r2 1, .bool true, .int .i64 0]) ∧ MadeAt w' A q c 3 r1 1 [5] 80 ∧ MadeAt w' A q c 3 r2 1 [12] 80) ∧ Below w.heap.size w w' :=
  (split_ex 9 (by decide) A c w hC).mono fun e w' h => ⟨SplitOk.v h.1 rfl rfl, h.2⟩
end Go.Proofs.YtbfedeedicnedaaGreat
end
section
namespace Go.Proofs.YtbfedeedicnedaaGreat
open Go.RowKit
open Go.Proofs.YtbfedeedicnedaaGreatW.PrintWords
def Works : Prop := ∀ w : World, Calls Tryz.prog 15 #[] w fun e w' => e = .returned (.bool true) ∧ Below w.heap.size w w'
end Go.Proofs.YtbfedeedicnedaaGreat
end
