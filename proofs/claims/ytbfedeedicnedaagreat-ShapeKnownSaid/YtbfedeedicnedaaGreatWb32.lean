/-
  Texts of this claim: ShAJ, ShBM, ShBNa, ShBN.
-/
import Derived.Test.YtbfedeedicnedaaGreatWb26
import Derived.Test.YtbfedeedicnedaaGreatWb29
import Derived.Test.YtbfedeedicnedaaGreatWb30
import Derived.Test.YtbfedeedicnedaaGreatWb31

section
set_option linter.unusedVariables false
set_option linter.unusedSimpArgs false
namespace Go.Proofs.YtbfedeedicnedaaGreat
open Go.RowKit
open Go.Proofs.YtbfedeedicnedaaGreatW.PrintWords
theorem enters83 (args : Array Value) (w : World) : (callFunc 83 args).run Tryz.prog w = .ok (.enter 83 args) w := enters_of Tryz.func83 (by kernel_rfl) rfl args w
set_option maxRecDepth 100000 in
set_option maxHeartbeats 1000000 in
theorem takes83 (a b : Bool) (w : World) : Calls Tryz.prog 83 #[.bool a, .bool b] w fun e w' => e = .returned (.bool ((fun _ _ => true : Bool → Bool → Bool) a b)) ∧ w' = w := by
  cases a <;> cases b
  all_goals
    go_enter Tryz.func83, Tryz.ntmps83
    go_wp2
    go_ret
    exact ⟨rfl, rfl⟩
theorem enters84 (args : Array Value) (w : World) : (callFunc 84 args).run Tryz.prog w = .ok (.enter 84 args) w := enters_of Tryz.func84 (by kernel_rfl) rfl args w
set_option maxRecDepth 100000 in
set_option maxHeartbeats 1000000 in
theorem takes84 (a b : Bool) (w : World) : Calls Tryz.prog 84 #[.bool a, .bool b] w fun e w' => e = .returned (.bool ((fun a b => a && b : Bool → Bool → Bool) a b)) ∧ w' = w := by
  cases a <;> cases b
  all_goals
    go_enter Tryz.func84, Tryz.ntmps84
    go_wp2
    go_ret
    exact ⟨rfl, rfl⟩
theorem enters85 (args : Array Value) (w : World) : (callFunc 85 args).run Tryz.prog w = .ok (.enter 85 args) w := enters_of Tryz.func85 (by kernel_rfl) rfl args w
set_option maxRecDepth 100000 in
set_option maxHeartbeats 1000000 in
theorem takes85 (a b : Bool) (w : World) : Calls Tryz.prog 85 #[.bool a, .bool b] w fun e w' => e = .returned (.bool ((fun a b => a && !b : Bool → Bool → Bool) a b)) ∧ w' = w := by
  cases a <;> cases b
  all_goals
    go_enter Tryz.func85, Tryz.ntmps85
    go_wp2
    go_ret
    exact ⟨rfl, rfl⟩
set_option maxRecDepth 100000 in
set_option maxHeartbeats 1000000 in
theorem Union_calls {H : Sh.Hp} {fa ra na fb rb nb : Int} {A : Option Addr} {c : Nat} {w : World} {l m M : List Int} (hC : Nodes w A H) (hLa : ListsF H fa) (hLb : ListsF H fb) (hDa : ¬ Digital fa) (hDb : ¬ Digital fb) (ha : Sh.listed H fa ra na = (l, 0)) (hb : Sh.listed H fb rb nb = (m, 0)) (hf1 : 1 ≤ fa) (hf5 : fa ≤ 5)
    (hM : M = Sh.mergeF (fun _ _ => true) (l.length + m.length) l m) (hlay : LaysF H M fa) (hl : H.length ≤ 100000) (hbig : ∀ p ∈ H, p.1.length ≤ 1000000 ∧ p.2.length ≤ 1000000) (hll : l.length ≤ 10000) (hmm : m.length ≤ 10000) :
    Calls Tryz.prog 41 #[.slice A H.length c, shV fa ra na, shV fb rb nb] w fun e w' => Out3 w.heap.size w' e (Sh.layF fa H M).1 fa (Sh.layF fa H M).2 M.length 0 ∧ Below w.heap.size w w' := by
  subst hM
  obtain ⟨W0, hW0⟩ : ∃ W0, W0 = ((w.alloc (.cells #[.int .i64 fa, .int .i64 ra, .int .i64 na] 25)).alloc (.cells #[.int .i64 fb, .int .i64 rb, .int .i64 nb] 25)).alloc (.cells #[.int .i64 0, .int .i64 0, .int .i64 0] 25) := ⟨_, rfl⟩
  have hsz := Lib.hid (show W0.heap.size = w.heap.size + 3 by rw [hW0, World.size_alloc, World.size_alloc, World.size_alloc])
  have b3 := Lib.hid (show W0.heap[w.heap.size + 2]? = some (.cells #[.int .i64 0, .int .i64 0, .int .i64 0] 25 (0, 0)) by
    have := heap_alloc_new ((w.alloc (.cells #[.int .i64 fa, .int .i64 ra, .int .i64 na] 25)).alloc (.cells #[.int .i64 fb, .int .i64 rb, .int .i64 nb] 25)) (.cells #[.int .i64 0, .int .i64 0, .int .i64 0] 25)
    rw [World.size_alloc, World.size_alloc] at this
    rw [hW0]
    exact this)
  have hB0 := Lib.hid (show Below w.heap.size w W0 by
    rw [hW0]
    exact (((Below.refl _ _).alloc (Nat.le_refl _) _).alloc (by rw [World.size_alloc]; omega) _).alloc (by rw [World.size_alloc, World.size_alloc]; omega) _)
  have hcl := Lib.hid (joined_calls (c := c) (fun _ _ => true) 83 enters83 takes83 (Kd.C_below hC hB0.out) hLa hLb hDa hDb ha hb hf1 hf5 hlay hl hbig hll hmm)
  generalize Sh.mergeF (fun _ _ => true) (l.length + m.length) l m = M at *
  generalize Sh.layF fa H M = R at *
  clear hC hLa hLb hDa hDb ha hb hlay hbig
  go_enter Tryz.func41, Tryz.ntmps41
  go_wp2_with fail
  rw [← hW0]
  clear hW0
  refine (hcl.out).mono ?_
  rintro e w4 ⟨⟨v4, rfl, hR4⟩, hB4⟩
  have hr4 := blk_below b3.out hB4
  have hf4 := blk_frozen hr4
  have c40 : w4.cell? ⟨w.heap.size + 2, 0, none⟩ = some (.int .i64 0) := by rw [blk_cell hr4]; rfl
  have c41 : w4.cell? ⟨w.heap.size + 2, 1, none⟩ = some (.int .i64 0) := by rw [blk_cell hr4]; rfl
  have c42 : w4.cell? ⟨w.heap.size + 2, 2, none⟩ = some (.int .i64 0) := by rw [blk_cell hr4]; rfl
  have hBf := Lib.hid (hB0.out.trans (hB4.mono (by have := hsz.out; omega)))
  have hsr := Lib.hid (show w.heap.size ≤ W0.heap.size by have := hsz.out; omega)
  replace hr4 := Lib.hid hr4
  replace hR4 := Lib.hid hR4
  clear hB4
  go_wp2
  refine bodyPost_ret (results_tct rfl _ _ (w.heap.size + 2) #[.int .i64 fa, .int .i64 R.2, .int .i64 M.length] rfl (load_set3 hr4.out)) rfl ?_
  exact ⟨⟨v4, rfl, Kd.R_lower (out_set hR4.out hr4.out _ _ _) hsr.out⟩, (((hBf.out.setCell (p := ⟨w.heap.size + 2, 0, none⟩) (by show w.heap.size ≤ w.heap.size + 2; omega) _).setCell (p := ⟨w.heap.size + 2, 1, none⟩) (by show w.heap.size ≤ w.heap.size + 2; omega) _).setCell (p := ⟨w.heap.size + 2, 2, none⟩) (by show w.heap.size ≤ w.heap.size + 2; omega) _)⟩
set_option maxRecDepth 100000 in
set_option maxHeartbeats 1000000 in
theorem Meet_calls {H : Sh.Hp} {fa ra na fb rb nb : Int} {A : Option Addr} {c : Nat} {w : World} {l m M : List Int} (hC : Nodes w A H) (hLa : ListsF H fa) (hLb : ListsF H fb) (hDa : ¬ Digital fa) (hDb : ¬ Digital fb) (ha : Sh.listed H fa ra na = (l, 0)) (hb : Sh.listed H fb rb nb = (m, 0)) (hf1 : 1 ≤ fa) (hf5 : fa ≤ 5)
    (hM : M = Sh.mergeF (fun a b => a && b) (l.length + m.length) l m) (hlay : LaysF H M fa) (hl : H.length ≤ 100000) (hbig : ∀ p ∈ H, p.1.length ≤ 1000000 ∧ p.2.length ≤ 1000000) (hll : l.length ≤ 10000) (hmm : m.length ≤ 10000) :
    Calls Tryz.prog 42 #[.slice A H.length c, shV fa ra na, shV fb rb nb] w fun e w' => Out3 w.heap.size w' e (Sh.layF fa H M).1 fa (Sh.layF fa H M).2 M.length 0 ∧ Below w.heap.size w w' := by
  subst hM
  obtain ⟨W0, hW0⟩ : ∃ W0, W0 = ((w.alloc (.cells #[.int .i64 fa, .int .i64 ra, .int .i64 na] 25)).alloc (.cells #[.int .i64 fb, .int .i64 rb, .int .i64 nb] 25)).alloc (.cells #[.int .i64 0, .int .i64 0, .int .i64 0] 25) := ⟨_, rfl⟩
  have hsz := Lib.hid (show W0.heap.size = w.heap.size + 3 by rw [hW0, World.size_alloc, World.size_alloc, World.size_alloc])
  have b3 := Lib.hid (show W0.heap[w.heap.size + 2]? = some (.cells #[.int .i64 0, .int .i64 0, .int .i64 0] 25 (0, 0)) by
    have := heap_alloc_new ((w.alloc (.cells #[.int .i64 fa, .int .i64 ra, .int .i64 na] 25)).alloc (.cells #[.int .i64 fb, .int .i64 rb, .int .i64 nb] 25)) (.cells #[.int .i64 0, .int .i64 0, .int .i64 0] 25)
    rw [World.size_alloc, World.size_alloc] at this
    rw [hW0]
    exact this)
  have hB0 := Lib.hid (show Below w.heap.size w W0 by
    rw [hW0]
    exact (((Below.refl _ _).alloc (Nat.le_refl _) _).alloc (by rw [World.size_alloc]; omega) _).alloc (by rw [World.size_alloc, World.size_alloc]; omega) _)
  have hcl := Lib.hid (joined_calls (c := c) (fun a b => a && b) 84 enters84 takes84 (Kd.C_below hC hB0.out) hLa hLb hDa hDb ha hb hf1 hf5 hlay hl hbig hll hmm)
  generalize Sh.mergeF (fun a b => a && b) (l.length + m.length) l m = M at *
  generalize Sh.layF fa H M = R at *
  clear hC hLa hLb hDa hDb ha hb hlay hbig
  go_enter Tryz.func42, Tryz.ntmps42
  go_wp2_with fail
  rw [← hW0]
  clear hW0
  refine (hcl.out).mono ?_
  rintro e w4 ⟨⟨v4, rfl, hR4⟩, hB4⟩
  have hr4 := blk_below b3.out hB4
  have hf4 := blk_frozen hr4
  have c40 : w4.cell? ⟨w.heap.size + 2, 0, none⟩ = some (.int .i64 0) := by rw [blk_cell hr4]; rfl
  have c41 : w4.cell? ⟨w.heap.size + 2, 1, none⟩ = some (.int .i64 0) := by rw [blk_cell hr4]; rfl
  have c42 : w4.cell? ⟨w.heap.size + 2, 2, none⟩ = some (.int .i64 0) := by rw [blk_cell hr4]; rfl
  have hBf := Lib.hid (hB0.out.trans (hB4.mono (by have := hsz.out; omega)))
  have hsr := Lib.hid (show w.heap.size ≤ W0.heap.size by have := hsz.out; omega)
  replace hr4 := Lib.hid hr4
  replace hR4 := Lib.hid hR4
  clear hB4
  go_wp2
  refine bodyPost_ret (results_tct rfl _ _ (w.heap.size + 2) #[.int .i64 fa, .int .i64 R.2, .int .i64 M.length] rfl (load_set3 hr4.out)) rfl ?_
  exact ⟨⟨v4, rfl, Kd.R_lower (out_set hR4.out hr4.out _ _ _) hsr.out⟩, (((hBf.out.setCell (p := ⟨w.heap.size + 2, 0, none⟩) (by show w.heap.size ≤ w.heap.size + 2; omega) _).setCell (p := ⟨w.heap.size + 2, 1, none⟩) (by show w.heap.size ≤ w.heap.size + 2; omega) _).setCell (p := ⟨w.heap.size + 2, 2, none⟩) (by show w.heap.size ≤ w.heap.size + 2; omega) _)⟩
set_option maxRecDepth 100000 in
set_option maxHeartbeats 1000000 in
theorem Minus_calls {H : Sh.Hp} {fa ra na fb rb nb : Int} {A : Option Addr} {c : Nat} {w : World} {l m M : List Int} (hC : Nodes w A H) (hLa : ListsF H fa) (hLb : ListsF H fb) (hDa : ¬ Digital fa) (hDb : ¬ Digital fb) (ha : Sh.listed H fa ra na = (l, 0)) (hb : Sh.listed H fb rb nb = (m, 0)) (hf1 : 1 ≤ fa) (hf5 : fa ≤ 5)
    (hM : M = Sh.mergeF (fun a b => a && !b) (l.length + m.length) l m) (hlay : LaysF H M fa) (hl : H.length ≤ 100000) (hbig : ∀ p ∈ H, p.1.length ≤ 1000000 ∧ p.2.length ≤ 1000000) (hll : l.length ≤ 10000) (hmm : m.length ≤ 10000) :
    Calls Tryz.prog 43 #[.slice A H.length c, shV fa ra na, shV fb rb nb] w fun e w' => Out3 w.heap.size w' e (Sh.layF fa H M).1 fa (Sh.layF fa H M).2 M.length 0 ∧ Below w.heap.size w w' := by
  subst hM
  obtain ⟨W0, hW0⟩ : ∃ W0, W0 = ((w.alloc (.cells #[.int .i64 fa, .int .i64 ra, .int .i64 na] 25)).alloc (.cells #[.int .i64 fb, .int .i64 rb, .int .i64 nb] 25)).alloc (.cells #[.int .i64 0, .int .i64 0, .int .i64 0] 25) := ⟨_, rfl⟩
  have hsz := Lib.hid (show W0.heap.size = w.heap.size + 3 by rw [hW0, World.size_alloc, World.size_alloc, World.size_alloc])
  have b3 := Lib.hid (show W0.heap[w.heap.size + 2]? = some (.cells #[.int .i64 0, .int .i64 0, .int .i64 0] 25 (0, 0)) by
    have := heap_alloc_new ((w.alloc (.cells #[.int .i64 fa, .int .i64 ra, .int .i64 na] 25)).alloc (.cells #[.int .i64 fb, .int .i64 rb, .int .i64 nb] 25)) (.cells #[.int .i64 0, .int .i64 0, .int .i64 0] 25)
    rw [World.size_alloc, World.size_alloc] at this
    rw [hW0]
    exact this)
  have hB0 := Lib.hid (show Below w.heap.size w W0 by
    rw [hW0]
    exact (((Below.refl _ _).alloc (Nat.le_refl _) _).alloc (by rw [World.size_alloc]; omega) _).alloc (by rw [World.size_alloc, World.size_alloc]; omega) _)
  have hcl := Lib.hid (joined_calls (c := c) (fun a b => a && !b) 85 enters85 takes85 (Kd.C_below hC hB0.out) hLa hLb hDa hDb ha hb hf1 hf5 hlay hl hbig hll hmm)
  generalize Sh.mergeF (fun a b => a && !b) (l.length + m.length) l m = M at *
  generalize Sh.layF fa H M = R at *
  clear hC hLa hLb hDa hDb ha hb hlay hbig
  go_enter Tryz.func43, Tryz.ntmps43
  go_wp2_with fail
  rw [← hW0]
  clear hW0
  refine (hcl.out).mono ?_
  rintro e w4 ⟨⟨v4, rfl, hR4⟩, hB4⟩
  have hr4 := blk_below b3.out hB4
  have hf4 := blk_frozen hr4
  have c40 : w4.cell? ⟨w.heap.size + 2, 0, none⟩ = some (.int .i64 0) := by rw [blk_cell hr4]; rfl
  have c41 : w4.cell? ⟨w.heap.size + 2, 1, none⟩ = some (.int .i64 0) := by rw [blk_cell hr4]; rfl
  have c42 : w4.cell? ⟨w.heap.size + 2, 2, none⟩ = some (.int .i64 0) := by rw [blk_cell hr4]; rfl
  have hBf := Lib.hid (hB0.out.trans (hB4.mono (by have := hsz.out; omega)))
  have hsr := Lib.hid (show w.heap.size ≤ W0.heap.size by have := hsz.out; omega)
  replace hr4 := Lib.hid hr4
  replace hR4 := Lib.hid hR4
  clear hB4
  go_wp2
  refine bodyPost_ret (results_tct rfl _ _ (w.heap.size + 2) #[.int .i64 fa, .int .i64 R.2, .int .i64 M.length] rfl (load_set3 hr4.out)) rfl ?_
  exact ⟨⟨v4, rfl, Kd.R_lower (out_set hR4.out hr4.out _ _ _) hsr.out⟩, (((hBf.out.setCell (p := ⟨w.heap.size + 2, 0, none⟩) (by show w.heap.size ≤ w.heap.size + 2; omega) _).setCell (p := ⟨w.heap.size + 2, 1, none⟩) (by show w.heap.size ≤ w.heap.size + 2; omega) _).setCell (p := ⟨w.heap.size + 2, 2, none⟩) (by show w.heap.size ≤ w.heap.size + 2; omega) _)⟩
end Go.Proofs.YtbfedeedicnedaaGreat
end

section
set_option linter.unusedVariables false
set_option linter.unusedSimpArgs false
namespace Go.Proofs.YtbfedeedicnedaaGreat
open Go.RowKit
open Go.Proofs.YtbfedeedicnedaaGreatW.PrintWords
namespace Sh
theorem get_bang {l : List Int} {j : Nat} (h : j < l.length) : l.toArray[j]! = l[j] := by simp [h]
theorem compact_mem {l : List Int} (hs : l.Pairwise (· ≤ ·)) : ∀ m, m ≤ l.length → (Lib.compactUpTo l.toArray m).Pairwise (· < ·) ∧ (∀ y, y ∈ Lib.compactUpTo l.toArray m ↔ y ∈ l.take m) := by
  intro m
  induction m with
  | zero => intro _; exact ⟨by simp [Lib.compactUpTo], fun y => by simp [Lib.compactUpTo]⟩
  | succ m ih =>
    intro hm
    obtain ⟨h1, h2⟩ := ih (by omega)
    rw [Lib.compactUpTo_succ]
    have hlt : m < l.length := by omega
    have hle : ∀ y ∈ l.take m, y ≤ l[m] := by
      intro y hy
      have hsp : l = l.take m ++ l[m] :: l.drop (m + 1) := by
        conv => lhs; rw [← List.take_append_drop m l, List.drop_eq_getElem_cons hlt]
      rw [hsp, List.pairwise_append] at hs
      exact hs.2.2 y hy _ (List.mem_cons_self)
    have htk : l.take (m + 1) = l.take m ++ [l[m]] := List.take_succ_eq_append_getElem hlt
    by_cases hk : Lib.keeps l.toArray m = true
    · rw [if_pos hk, get_bang hlt]
      have hk2 : m = 0 ∨ l.toArray[m]! ≠ l.toArray[m - 1]! := by
        unfold Lib.keeps at hk
        exact of_decide_eq_true hk
      have hlt2 : ∀ y ∈ l.take m, y < l[m] := by
        intro y hy
        have hne : y ≠ l[m] := by
          rintro rfl
          obtain ⟨j, hj, hjy⟩ := List.getElem_of_mem hy
          rw [List.length_take] at hj
          rw [List.getElem_take] at hjy
          rcases hk2 with h0 | h0
          · subst h0; simp at hy
          · rw [get_bang hlt, get_bang (show m - 1 < l.length by omega)] at h0
            have a1 : l[j] ≤ l[m - 1] := by
              rcases Nat.lt_or_eq_of_le (show j ≤ m - 1 by omega) with h | h
              · exact (List.pairwise_iff_getElem.1 hs) j (m - 1) (by omega) (by omega) h
              · simp only [h]; exact Int.le_refl _
            have a2 : l[m - 1] ≤ l[m] := (List.pairwise_iff_getElem.1 hs) (m - 1) m (by omega) hlt (by omega)
            omega
        have := hle y hy
        omega
      refine ⟨?_, fun y => ?_⟩
      · rw [List.pairwise_append]
        refine ⟨h1, List.pairwise_singleton _ _, fun a ha b hb => ?_⟩
        rw [List.mem_singleton] at hb
        rw [hb]
        exact hlt2 a ((h2 a).1 ha)
      · rw [List.mem_append, h2, htk, List.mem_append]
    · rw [if_neg hk, List.append_nil]
      refine ⟨h1, fun y => ?_⟩
      rw [h2, htk, List.mem_append, List.mem_singleton]
      refine ⟨.inl, ?_⟩
      rintro (h | rfl)
      · exact h
      · unfold Lib.keeps at hk
        have hk2 : ¬ (m = 0 ∨ l.toArray[m]! ≠ l.toArray[m - 1]!) := fun h => hk (decide_eq_true h)
        have h0 : m ≠ 0 := fun h => hk2 (.inl h)
        have he : l.toArray[m]! = l.toArray[m - 1]! := Classical.byContradiction fun h => hk2 (.inr h)
        rw [get_bang hlt, get_bang (show m - 1 < l.length by omega)] at he
        rw [he, List.mem_take_iff_getElem]
        exact ⟨m - 1, by omega, rfl⟩
theorem compact_sort {l : List Int} (hx : ∀ x ∈ l, 0 ≤ x ∧ x ≤ 1023) : Lib.compact l.mergeSort = sortF l ∧ Els (sortF l) := by
  have hs : l.mergeSort.Pairwise (· ≤ ·) := by
    have := List.pairwise_mergeSort (le := fun a b : Int => decide (a ≤ b)) (fun a b c h1 h2 => by simp at *; omega) (fun a b => by simp; omega) l
    exact this.imp (fun h => by simpa using h)
  have hc := compact_mem hs l.mergeSort.length (Nat.le_refl _)
  obtain ⟨h1, h2⟩ := sortF_els hx
  refine ⟨(rise_ext hc.1 h1.1 (fun y => ?_)), h1⟩
  have h3 := hc.2 y
  rw [List.take_length] at h3
  show y ∈ Lib.compactUpTo l.mergeSort.toArray l.mergeSort.length ↔ _
  rw [h3, h2, (List.mergeSort_perm _ _).mem_iff]
end Sh
end Go.Proofs.YtbfedeedicnedaaGreat
end

section
set_option linter.unusedVariables false
set_option linter.unusedSimpArgs false
namespace Go.Proofs.YtbfedeedicnedaaGreat
open Go.RowKit
open Go.Proofs.YtbfedeedicnedaaGreatW.PrintWords
namespace Sh
def H0 : Hp := [([5, 9, 12], []), ([5, 1], [-1, -1]), ([12, 1], [-1, -1]), ([9, 2], [1, 2]), ([-1, 5, 13, -1, -1, -1, -1, -1], []), ([1], [])]
end Sh
set_option maxRecDepth 100000 in
theorem list_calls (v : Value) (w : World) : Calls Tryz.prog 40 #[v] w fun e w' => e = .returned v ∧ w' = w := by
  go_enter Tryz.func40, Tryz.ntmps40
  go_wp2
  go_ret
  exact ⟨rfl, rfl⟩
def GotH (w' : World) (e : Ending) : Prop := ∃ A c, e = .returned (.slice A 6 c) ∧ 6 ≤ c ∧ Nodes w' A Sh.H0
theorem nums_blk {w : World} {g : Nat} {cs : Array Value} (h : w.heap[g]? = some (.cells cs 3 (0, 0))) (l : List Int) (hcs : cs = (nums .i64 l).toArray) (hm : l.length ≤ 1000000) : Kd.C kI w (some ⟨g, 0, none⟩) l.length l := by
  refine ⟨rfl, by omega, fun _ => ⟨_, rfl, fun j p hj => ?_⟩⟩
  refine ⟨[.int .i64 p], rfl, rfl, fun q u hq => ?_⟩
  have hq0 : q = 0 := by
    have := (List.getElem?_eq_some_iff.1 hq).1
    simp at this
    omega
  subst hq0
  cases hq
  have hj2 := (List.getElem?_eq_some_iff.1 hj).1
  have e : (⟨g, 0, none⟩ : Addr).add (j * kI.sz + 0) = ⟨g, j, none⟩ := by
    show (⟨g, 0, none⟩ : Addr).add (j * 1 + 0) = _
    unfold Addr.add
    by_cases h0 : j = 0
    · simp [h0]
    · simp [h0]
  rw [e, blk_cell h, hcs]
  unfold nums
  simp [hj]
theorem blk_next {w w1 : World} {g : Nat} {o o1 : Obj} (h : w.heap[g]? = some o) (e : w1 = w.alloc o1) : w1.heap[g]? = some o := by rw [e]; exact blk_alloc h _
theorem blk_last {w w1 : World} {k : Nat} {cs : Array Value} {t : TypeId} (e : w1 = w.alloc (.cells cs t)) (h : w.heap.size = k) : w1.heap[k]? = some (.cells cs t (0, 0)) := by rw [e, ← h]; exact heap_alloc_new _ _
set_option maxRecDepth 100000 in
set_option maxHeartbeats 4000000 in
theorem H_calls (w : World) : Calls Tryz.prog 49 #[] w fun e w' => GotH w' e ∧ Below w.heap.size w w' := by
  go_enter Tryz.func49, Tryz.ntmps49
  go_wp2_with (go_at_call 40; refine (list_calls _ _).mono ?_; rintro e w1 ⟨rfl, rfl⟩)
  go_ret
  obtain ⟨w1, hw1⟩ : ∃ W, W = w.alloc (.cells #[.int .i64 5, .int .i64 9, .int .i64 12] 3) := ⟨_, rfl⟩
  rw [← hw1]
  have s1 : w1.heap.size = w.heap.size + 1 := by rw [hw1, World.size_alloc]
  have n0 := blk_last hw1 rfl
  have b1 : Below w.heap.size w w1 := by rw [hw1]; exact (Below.refl _ _).alloc (Nat.le_refl _) _
  obtain ⟨w2, hw2⟩ : ∃ W, W = w1.alloc (.cells #[.int .i64 5, .int .i64 1] 3) := ⟨_, rfl⟩
  rw [← hw2]
  have s2 : w2.heap.size = w.heap.size + 1 + 1 := by rw [hw2, World.size_alloc, s1]
  have n1 := blk_last hw2 s1
  have b2 : Below w.heap.size w w2 := by rw [hw2]; exact b1.alloc (by omega) _
  obtain ⟨w3, hw3⟩ : ∃ W, W = w2.alloc (.cells #[.int .i64 (-1), .int .i64 (-1)] 3) := ⟨_, rfl⟩
  rw [← hw3]
  have s3 : w3.heap.size = w.heap.size + 1 + 1 + 1 := by rw [hw3, World.size_alloc, s2]
  have n2 := blk_last hw3 s2
  have b3 : Below w.heap.size w w3 := by rw [hw3]; exact b2.alloc (by omega) _
  obtain ⟨w4, hw4⟩ : ∃ W, W = w3.alloc (.cells #[.int .i64 12, .int .i64 1] 3) := ⟨_, rfl⟩
  rw [← hw4]
  have s4 : w4.heap.size = w.heap.size + 1 + 1 + 1 + 1 := by rw [hw4, World.size_alloc, s3]
  have n3 := blk_last hw4 s3
  have b4 : Below w.heap.size w w4 := by rw [hw4]; exact b3.alloc (by omega) _
  obtain ⟨w5, hw5⟩ : ∃ W, W = w4.alloc (.cells #[.int .i64 (-1), .int .i64 (-1)] 3) := ⟨_, rfl⟩
  rw [← hw5]
  have s5 : w5.heap.size = w.heap.size + 1 + 1 + 1 + 1 + 1 := by rw [hw5, World.size_alloc, s4]
  have n4 := blk_last hw5 s4
  have b5 : Below w.heap.size w w5 := by rw [hw5]; exact b4.alloc (by omega) _
  obtain ⟨w6, hw6⟩ : ∃ W, W = w5.alloc (.cells #[.int .i64 9, .int .i64 2] 3) := ⟨_, rfl⟩
  rw [← hw6]
  have s6 : w6.heap.size = w.heap.size + 1 + 1 + 1 + 1 + 1 + 1 := by rw [hw6, World.size_alloc, s5]
  have n5 := blk_last hw6 s5
  have b6 : Below w.heap.size w w6 := by rw [hw6]; exact b5.alloc (by omega) _
  obtain ⟨w7, hw7⟩ : ∃ W, W = w6.alloc (.cells #[.int .i64 1, .int .i64 2] 3) := ⟨_, rfl⟩
  rw [← hw7]
  have s7 : w7.heap.size = w.heap.size + 1 + 1 + 1 + 1 + 1 + 1 + 1 := by rw [hw7, World.size_alloc, s6]
  have n6 := blk_last hw7 s6
  have b7 : Below w.heap.size w w7 := by rw [hw7]; exact b6.alloc (by omega) _
  obtain ⟨w8, hw8⟩ : ∃ W, W = w7.alloc (.cells #[.int .i64 (-1), .int .i64 5, .int .i64 13, .int .i64 (-1), .int .i64 (-1), .int .i64 (-1), .int .i64 (-1), .int .i64 (-1)] 3) := ⟨_, rfl⟩
  rw [← hw8]
  have s8 : w8.heap.size = w.heap.size + 1 + 1 + 1 + 1 + 1 + 1 + 1 + 1 := by rw [hw8, World.size_alloc, s7]
  have n7 := blk_last hw8 s7
  have b8 : Below w.heap.size w w8 := by rw [hw8]; exact b7.alloc (by omega) _
  obtain ⟨w9, hw9⟩ : ∃ W, W = w8.alloc (.cells #[.int .i64 1] 3) := ⟨_, rfl⟩
  rw [← hw9]
  have s9 : w9.heap.size = w.heap.size + 1 + 1 + 1 + 1 + 1 + 1 + 1 + 1 + 1 := by rw [hw9, World.size_alloc, s8]
  have n8 := blk_last hw9 s8
  have b9 : Below w.heap.size w w9 := by rw [hw9]; exact b8.alloc (by omega) _
  obtain ⟨w10, hw10⟩ : ∃ W, W = w9.alloc (.cells #[.slice (some ⟨w.heap.size, 0, none⟩) 3 3, .slice none 0 0, .slice (some ⟨w.heap.size + 1, 0, none⟩) 2 2, .slice (some ⟨w.heap.size + 1 + 1, 0, none⟩) 2 2, .slice (some ⟨w.heap.size + 1 + 1 + 1, 0, none⟩) 2 2, .slice (some ⟨w.heap.size + 1 + 1 + 1 + 1, 0, none⟩) 2 2, .slice (some ⟨w.heap.size + 1 + 1 + 1 + 1 + 1, 0, none⟩) 2 2, .slice (some ⟨w.heap.size + 1 + 1 + 1 + 1 + 1 + 1, 0, none⟩) 2 2, .slice (some ⟨w.heap.size + 1 + 1 + 1 + 1 + 1 + 1 + 1, 0, none⟩) 8 8, .slice none 0 0, .slice (some ⟨w.heap.size + 1 + 1 + 1 + 1 + 1 + 1 + 1 + 1, 0, none⟩) 1 1, .slice none 0 0] 95) := ⟨_, rfl⟩
  rw [← hw10]
  have s10 : w10.heap.size = w.heap.size + 1 + 1 + 1 + 1 + 1 + 1 + 1 + 1 + 1 + 1 := by rw [hw10, World.size_alloc, s9]
  have n9 := blk_last hw10 s9
  have b10 : Below w.heap.size w w10 := by rw [hw10]; exact b9.alloc (by omega) _
  replace n0 := blk_next n0 hw2
  replace n0 := blk_next n0 hw3
  replace n0 := blk_next n0 hw4
  replace n0 := blk_next n0 hw5
  replace n0 := blk_next n0 hw6
  replace n0 := blk_next n0 hw7
  replace n0 := blk_next n0 hw8
  replace n0 := blk_next n0 hw9
  replace n0 := blk_next n0 hw10
  replace n1 := blk_next n1 hw3
  replace n1 := blk_next n1 hw4
  replace n1 := blk_next n1 hw5
  replace n1 := blk_next n1 hw6
  replace n1 := blk_next n1 hw7
  replace n1 := blk_next n1 hw8
  replace n1 := blk_next n1 hw9
  replace n1 := blk_next n1 hw10
  replace n2 := blk_next n2 hw4
  replace n2 := blk_next n2 hw5
  replace n2 := blk_next n2 hw6
  replace n2 := blk_next n2 hw7
  replace n2 := blk_next n2 hw8
  replace n2 := blk_next n2 hw9
  replace n2 := blk_next n2 hw10
  replace n3 := blk_next n3 hw5
  replace n3 := blk_next n3 hw6
  replace n3 := blk_next n3 hw7
  replace n3 := blk_next n3 hw8
  replace n3 := blk_next n3 hw9
  replace n3 := blk_next n3 hw10
  replace n4 := blk_next n4 hw6
  replace n4 := blk_next n4 hw7
  replace n4 := blk_next n4 hw8
  replace n4 := blk_next n4 hw9
  replace n4 := blk_next n4 hw10
  replace n5 := blk_next n5 hw7
  replace n5 := blk_next n5 hw8
  replace n5 := blk_next n5 hw9
  replace n5 := blk_next n5 hw10
  replace n6 := blk_next n6 hw8
  replace n6 := blk_next n6 hw9
  replace n6 := blk_next n6 hw10
  replace n7 := blk_next n7 hw9
  replace n7 := blk_next n7 hw10
  replace n8 := blk_next n8 hw10
  refine ⟨⟨_, _, rfl, Nat.le_refl _, ?_⟩, b10⟩
  refine ⟨rfl, by decide, fun _ => ⟨_, rfl, fun j p hj => ?_⟩⟩
  have hj6 : j < 6 := (List.getElem?_eq_some_iff.1 hj).1
  have hc : ∀ (q : Nat) (u : Value), q < 12 → (#[.slice (some ⟨w.heap.size, 0, none⟩) 3 3, .slice none 0 0, .slice (some ⟨w.heap.size + 1, 0, none⟩) 2 2, .slice (some ⟨w.heap.size + 1 + 1, 0, none⟩) 2 2, .slice (some ⟨w.heap.size + 1 + 1 + 1, 0, none⟩) 2 2, .slice (some ⟨w.heap.size + 1 + 1 + 1 + 1, 0, none⟩) 2 2, .slice (some ⟨w.heap.size + 1 + 1 + 1 + 1 + 1, 0, none⟩) 2 2, .slice (some ⟨w.heap.size + 1 + 1 + 1 + 1 + 1 + 1, 0, none⟩) 2 2, .slice (some ⟨w.heap.size + 1 + 1 + 1 + 1 + 1 + 1 + 1, 0, none⟩) 8 8, .slice none 0 0, .slice (some ⟨w.heap.size + 1 + 1 + 1 + 1 + 1 + 1 + 1 + 1, 0, none⟩) 1 1, .slice none 0 0] : Array Value)[q]? = some u → w10.cell? ((⟨w.heap.size + 1 + 1 + 1 + 1 + 1 + 1 + 1 + 1 + 1, 0, none⟩ : Addr).add q) = some u := fun q u _ h => by
    have e : (⟨w.heap.size + 1 + 1 + 1 + 1 + 1 + 1 + 1 + 1 + 1, 0, none⟩ : Addr).add q = ⟨w.heap.size + 1 + 1 + 1 + 1 + 1 + 1 + 1 + 1 + 1, q, none⟩ := by
      unfold Addr.add
      by_cases h0 : q = 0
      · simp [h0]
      · simp [h0]
    rw [e, blk_cell n9]
    exact h
  obtain rfl | rfl | rfl | rfl | rfl | rfl : j = 0 ∨ j = 1 ∨ j = 2 ∨ j = 3 ∨ j = 4 ∨ j = 5 := by omega
  · cases hj
    refine ⟨_, rfl, PAll.k95_mk w10 ⟨[5, 9, 12], ([] : List Int)⟩ (Nat.le_refl _) (nums_blk n0 [5, 9, 12] rfl (by decide)) (Nat.le_refl _) (Kd.C_nil kI _), fun q u hq => hc (0 * 2 + q) u (by have := (List.getElem?_eq_some_iff.1 hq).1; simp at this; omega) ?_⟩
    have hq2 : q < 2 := by have := (List.getElem?_eq_some_iff.1 hq).1; simpa using this
    obtain rfl | rfl : q = 0 ∨ q = 1 := by omega
    · exact hq
    · exact hq
  · cases hj
    refine ⟨_, rfl, PAll.k95_mk w10 ⟨[5, 1], [-1, -1]⟩ (Nat.le_refl _) (nums_blk n1 [5, 1] rfl (by decide)) (Nat.le_refl _) (nums_blk n2 [-1, -1] rfl (by decide)), fun q u hq => hc (1 * 2 + q) u (by have := (List.getElem?_eq_some_iff.1 hq).1; simp at this; omega) ?_⟩
    have hq2 : q < 2 := by have := (List.getElem?_eq_some_iff.1 hq).1; simpa using this
    obtain rfl | rfl : q = 0 ∨ q = 1 := by omega
    · exact hq
    · exact hq
  · cases hj
    refine ⟨_, rfl, PAll.k95_mk w10 ⟨[12, 1], [-1, -1]⟩ (Nat.le_refl _) (nums_blk n3 [12, 1] rfl (by decide)) (Nat.le_refl _) (nums_blk n4 [-1, -1] rfl (by decide)), fun q u hq => hc (2 * 2 + q) u (by have := (List.getElem?_eq_some_iff.1 hq).1; simp at this; omega) ?_⟩
    have hq2 : q < 2 := by have := (List.getElem?_eq_some_iff.1 hq).1; simpa using this
    obtain rfl | rfl : q = 0 ∨ q = 1 := by omega
    · exact hq
    · exact hq
  · cases hj
    refine ⟨_, rfl, PAll.k95_mk w10 ⟨[9, 2], [1, 2]⟩ (Nat.le_refl _) (nums_blk n5 [9, 2] rfl (by decide)) (Nat.le_refl _) (nums_blk n6 [1, 2] rfl (by decide)), fun q u hq => hc (3 * 2 + q) u (by have := (List.getElem?_eq_some_iff.1 hq).1; simp at this; omega) ?_⟩
    have hq2 : q < 2 := by have := (List.getElem?_eq_some_iff.1 hq).1; simpa using this
    obtain rfl | rfl : q = 0 ∨ q = 1 := by omega
    · exact hq
    · exact hq
  · cases hj
    refine ⟨_, rfl, PAll.k95_mk w10 ⟨[-1, 5, 13, -1, -1, -1, -1, -1], ([] : List Int)⟩ (Nat.le_refl _) (nums_blk n7 [-1, 5, 13, -1, -1, -1, -1, -1] rfl (by decide)) (Nat.le_refl _) (Kd.C_nil kI _), fun q u hq => hc (4 * 2 + q) u (by have := (List.getElem?_eq_some_iff.1 hq).1; simp at this; omega) ?_⟩
    have hq2 : q < 2 := by have := (List.getElem?_eq_some_iff.1 hq).1; simpa using this
    obtain rfl | rfl : q = 0 ∨ q = 1 := by omega
    · exact hq
    · exact hq
  · cases hj
    refine ⟨_, rfl, PAll.k95_mk w10 ⟨[1], ([] : List Int)⟩ (Nat.le_refl _) (nums_blk n8 [1] rfl (by decide)) (Nat.le_refl _) (Kd.C_nil kI _), fun q u hq => hc (5 * 2 + q) u (by have := (List.getElem?_eq_some_iff.1 hq).1; simp at this; omega) ?_⟩
    have hq2 : q < 2 := by have := (List.getElem?_eq_some_iff.1 hq).1; simpa using this
    obtain rfl | rfl : q = 0 ∨ q = 1 := by omega
    · exact hq
    · exact hq
end Go.Proofs.YtbfedeedicnedaaGreat
end

section
set_option linter.unusedVariables false
set_option linter.unusedSimpArgs false
namespace Go.Proofs.YtbfedeedicnedaaGreat
open Go.RowKit
open Go.Proofs.YtbfedeedicnedaaGreatW.PrintWords
namespace Sh
theorem H0_small : ∀ p ∈ H0, p.1.length ≤ 1000000 ∧ p.2.length ≤ 1000000 := by
  intro p hp
  unfold H0 at hp
  simp only [List.mem_cons, List.not_mem_nil, or_false] at hp
  rcases hp with rfl | rfl | rfl | rfl | rfl | rfl <;> simp
structure Has (H K : Hp) (f r : Int) (l : List Int) (m : Nat) : Prop where
  grown : ∃ E, K = H ++ E ∧ E.length ≤ m
  elems : elems K f r l.length = some l
theorem Has.le {H K : Hp} {f r : Int} {l : List Int} {m m' : Nat} (h : Has H K f r l m) (hm : m ≤ m') : Has H K f r l m' :=
  ⟨by obtain ⟨E, a, b⟩ := h.grown; exact ⟨E, a, by omega⟩, h.elems⟩
theorem has_lay (H : Hp) {f : Int} (h1 : 1 ≤ f) (h5 : f ≤ 5) {l : List Int} (hl : Els l) : Has H (layF f H l).1 f (layF f H l).2 l (2 * l.length + 80) := by
  obtain ⟨E, a, b, c⟩ := lay_ok H h1 h5 hl
  refine ⟨⟨E, a, b⟩, ?_⟩
  unfold Sh.elems
  rw [c]
  exact if_pos rfl
end Sh
theorem holds_has {H K : Sh.Hp} {f r : Int} {l : List Int} {m : Nat} (h : Sh.Has H K f r l m) {n m' : Int} (hn : n = l.length) (hm' : (m : Int) ≤ m') (hm9 : m ≤ 500000) (A : Option Addr) (c : Nat) (AG : Option Addr) (cG : Nat) (A2 : Option Addr) (c2 : Nat) (w : World) (hC : Nodes w A H) (hc : H.length ≤ c) (hG : Nodes w AG K) (hcG : K.length ≤ cG) (hL : Kd.C kI w A2 l.length l) (hc2 : l.length ≤ c2) (hl : H.length ≤ 100000) (hll : l.length ≤ 1000000) (hbig : ∀ p ∈ H, p.1.length ≤ 1000000 ∧ p.2.length ≤ 1000000) :
    Calls Tryz.prog 32 #[.slice A H.length c, .slice AG K.length cG, shV f r n, .int .i64 f, .slice A2 l.length c2, .int .i64 m'] w fun e w' => e = .returned (.bool true) ∧ Below w.heap.size w w' := by
  obtain ⟨E, rfl, hE⟩ := h.grown
  subst hn
  exact holds_calls H E f r l.length m' l A c AG cG A2 c2 w hC hc hG hcG hL hc2 (by omega) (by omega) hll hbig h.elems
theorem A_calls (w : World) : Calls Tryz.prog 50 #[] w fun e w' => e = .returned (shV 1 0 3) ∧ Below w.heap.size w w' := PAll.swardlaw12_A.calls 1 0 3 w rfl
theorem T_calls (w : World) : Calls Tryz.prog 51 #[] w fun e w' => e = .returned (shV 3 3 3) ∧ Below w.heap.size w w' := PAll.swardlaw12_T.calls 3 3 3 w rfl
theorem S_calls (w : World) : Calls Tryz.prog 52 #[] w fun e w' => e = .returned (shV 5 4 2) ∧ Below w.heap.size w w' := PAll.swardlaw12_S.calls 5 4 2 w rfl
theorem None_calls (w : World) : Calls Tryz.prog 53 #[] w fun e w' => e = .returned (shV 3 (-1) 0) ∧ Below w.heap.size w w' := PAll.swardlaw12_None.calls 3 (-1) 0 w rfl
theorem nd3 : ¬ Digital 3 := by unfold Digital; omega
theorem nd1 : ¬ Digital 1 := by unfold Digital; omega
theorem nd5 : ¬ Digital 5 := by unfold Digital; omega
theorem H0_lists {f : Int} (hf : ¬ Digital f) : ListsF Sh.H0 f := listsF_plain (fun p hp => (Sh.H0_small p hp).1) hf
theorem H0_T : Sh.listed Sh.H0 3 3 3 = ([5, 9, 12], 0) := by decide
theorem H0_A : Sh.listed Sh.H0 1 0 3 = ([5, 9, 12], 0) := by decide
theorem H0_N : Sh.listed Sh.H0 3 (-1) 0 = ([], 0) := by decide
theorem hash_listed (H : Sh.Hp) (root n : Int) (hl : H.length ≤ 3000) : Sh.listed H 5 root n = match (if Sh.there H root = true ∧ (Sh.nd H root).2 = [] then Sh.hashR (Sh.nd H root).1 else none) with
    | none => ([], 2)
    | some l => if (l.length : Int) = n then (l, 0) else ([], 2) := by
  unfold Sh.listed
  rw [if_neg (by omega), ← Sh.hashR_eq]
  rfl
theorem H0_S : Sh.listed Sh.H0 5 4 2 = ([5, 13], 0) := by
  rw [hash_listed _ _ _ (by decide)]
  decide
theorem listed_some {H : Sh.Hp} {f r n : Int} {l : List Int} (h : Sh.listed H f r n = (l, 0)) : Sh.list f H r = some l := by
  unfold Sh.listed at h
  split at h
  · cases h
  · rcases hl : Sh.list f H r with _ | m
    · rw [hl] at h; cases h
    · rw [hl] at h
      simp only at h
      split at h
      · cases h; rfl
      · cases h
theorem list5 (H : Sh.Hp) (r : Int) : Sh.list 5 H r = Sh.listHash H r := by unfold Sh.list; simp
def MadeOk (H : Sh.Hp) (f : Int) (l : List Int) (m : Nat) (w' : World) (e : Ending) : Prop := ∃ A c K r, e = .returned (.tuple #[.slice A (K : Sh.Hp).length c, shV f r l.length, .int .i64 0]) ∧ Kd.R kSN 95 w' 0 (fun _ => True) (.slice A K.length c) (sn K) ∧ Sh.Has H K f r l m
theorem Out3.made {base : Nat} {w' : World} {e : Ending} {H K : Sh.Hp} {f r n : Int} {l : List Int} {m : Nat} (h : Out3 base w' e K f r n 0) (hn : n = l.length) (hh : Sh.Has H K f r l m) : MadeOk H f l m w' e := by
  obtain ⟨v, rfl, hr⟩ := h
  obtain ⟨A, c, rfl⟩ := Kd.R_slice hr
  rw [sn_len] at hr ⊢
  subst hn
  exact ⟨A, c, K, r, rfl, Kd.R_lower hr (Nat.zero_le _), hh⟩
theorem put_ex (A : Option Addr) (c : Nat) (w : World) (hC : Nodes w A Sh.H0) : Calls Tryz.prog 36 #[.slice A 6 c, shV 5 4 2, .int .i64 21] w fun e w' => MadeOk Sh.H0 5 [5, 13, 21] 1 w' e ∧ Below w.heap.size w w' := by
  have hs : Sh.sought Sh.H0 5 4 2 21 = ([5, 13], 0) := by unfold Sh.sought; rw [H0_S]; rfl
  have hput : ∀ (base hb : Nat) (W : World), HeapAt W base hb Sh.H0 → Calls Tryz.prog 192 #[.agg #[], .pointer (some ⟨hb, 0, none⟩), .int .i64 4, .int .i64 21] W fun e w' => e = .returned (.int .i64 6) ∧ HeapAt w' base hb (Sh.H0 ++ [(Sh.putH [-1, 5, 13, -1, -1, -1, -1, -1] 21, [])]) ∧ Below base W w' := fun base hb W hH =>
    hput_calls hH 4 21 (by decide) (t := [-1, 5, 13, -1, -1, -1, -1, -1]) (by decide) (l := [5, 13]) (listed_some H0_S) (by decide) (by decide) (by omega) (by omega) (fun p hp => (Sh.H0_small p hp).1) (by decide)
  refine (Put_of hC (fun W hW => changed_more hW (H0_lists nd5) hs (by decide) (by decide) (by decide) Sh.H0_small (by omega) (by omega) hput)).mono ?_
  rintro e w' ⟨h, hB⟩
  refine ⟨h.made (by decide) ⟨⟨_, rfl, by decide⟩, ?_⟩, hB⟩
  unfold Sh.elems
  rw [list5, Sh.hashR_eq]
  decide
theorem drop_ex (A : Option Addr) (c : Nat) (w : World) (hC : Nodes w A Sh.H0) : Calls Tryz.prog 37 #[.slice A 6 c, shV 1 0 3, .int .i64 9] w fun e w' => MadeOk Sh.H0 1 [5, 12] 1 w' e ∧ Below w.heap.size w w' := by
  have hs : Sh.sought Sh.H0 1 0 3 9 = ([5, 9, 12], 0) := by unfold Sh.sought; rw [H0_A]; rfl
  have hdr : ∀ (base hb : Nat) (W : World), HeapAt W base hb Sh.H0 → Calls Tryz.prog 160 #[.agg #[], .pointer (some ⟨hb, 0, none⟩), .int .i64 0, .int .i64 9] W fun e w' => e = .returned (.int .i64 6) ∧ HeapAt w' base hb (Sh.H0 ++ [(([5, 9, 12] : List Int).take 1 ++ ([5, 9, 12] : List Int).drop (1 + 1), [])]) ∧ Below base W w' := fun base hb W hH =>
    adrop_calls hH 0 9 (by decide) (l := [5, 9, 12]) (by decide) (by decide) 1 (by decide) (by decide) (by decide) (by decide)
  refine (Drop_of hC (fun W hW => changed_less hW (H0_lists nd1) hs (by decide) (by decide) (by decide) Sh.H0_small (by omega) (by omega) hdr)).mono ?_
  rintro e w' ⟨h, hB⟩
  exact ⟨h.made (by decide) ⟨⟨_, rfl, by decide⟩, by decide⟩, hB⟩
theorem els_lit {l : List Int} (h : Sh.rising l = true) : Sh.Els l := Sh.rising_iff.1 h
theorem make_ok {H : Sh.Hp} {f : Int} {l : List Int} {A A1 : Option Addr} {c c1 : Nat} {w : World} (hC : Nodes w A H) (hL : Kd.C kI w A1 l.length l) (h : H.length ≤ 3000 ∧ l.length ≤ 2000) (hf : 1 ≤ f ∧ f ≤ 5) (hb : (l.any fun x => !(Sh.el x)) = false) (hbig : ∀ p ∈ H, p.1.length ≤ 1000000 ∧ p.2.length ≤ 1000000) :
    Calls Tryz.prog 29 #[.slice A H.length c, .int .i64 f, .slice A1 l.length c1] w fun e w' => MadeOk H f (Sh.sortF l) (2 * (Sh.sortF l).length + 80) w' e ∧ Below w.heap.size w w' := by
  have hx : ∀ x ∈ l, 0 ≤ x ∧ x ≤ 1023 := by
    intro x hx
    have := List.any_eq_false.1 hb x hx
    unfold Sh.el at this
    simp at this
    omega
  obtain ⟨h1, h2⟩ := Sh.compact_sort hx
  have hm := Make_calls (A := A) (A1 := A1) (c := c) (c1 := c1) hC hL h hf hb (by rw [h1]; exact laysF_all h2 (by omega)) hbig
  rw [h1] at hm
  exact hm.mono fun e w' h => ⟨h.1.made rfl (Sh.has_lay H hf.1 hf.2 h2), h.2⟩
theorem make_ex (A : Option Addr) (c : Nat) (A1 : Option Addr) (c1 : Nat) (w : World) (hC : Nodes w A Sh.H0) (hL : Kd.C kI w A1 3 [7, 0, 7]) : Calls Tryz.prog 29 #[.slice A 6 c, .int .i64 4, .slice A1 3 c1] w fun e w' => MadeOk Sh.H0 4 [0, 7] 86 w' e ∧ Below w.heap.size w w' := by
  have := make_ok (H := Sh.H0) (f := 4) (l := [7, 0, 7]) (A := A) (A1 := A1) (c := c) (c1 := c1) hC hL (by decide) (by omega) (by decide) Sh.H0_small
  rw [show Sh.sortF [7, 0, 7] = [0, 7] by decide] at this
  exact this.mono fun e w' h => ⟨by obtain ⟨A, c, K, r, a, b, g⟩ := h.1; exact ⟨A, c, K, r, a, b, g.le (by decide)⟩, h.2⟩
theorem turn_ex (A : Option Addr) (c : Nat) (w : World) (hC : Nodes w A Sh.H0) : Calls Tryz.prog 34 #[.slice A 6 c, shV 3 3 3, .int .i64 2] w fun e w' => MadeOk Sh.H0 2 [5, 9, 12] 86 w' e ∧ Below w.heap.size w w' := by
  have hE : Sh.Els [5, 9, 12] := els_lit (by decide)
  refine (Turn_calls hC (H0_lists nd3) nd3 H0_T (by omega) (by omega) (laysF_all hE (by decide)) (by decide) Sh.H0_small (by decide)).mono ?_
  rintro e w' ⟨h, hB⟩
  exact ⟨h.made rfl ((Sh.has_lay Sh.H0 (by omega) (by omega) hE).le (by decide)), hB⟩
theorem union_ex (A : Option Addr) (c : Nat) (w : World) (hC : Nodes w A Sh.H0) : Calls Tryz.prog 41 #[.slice A 6 c, shV 1 0 3, shV 5 4 2] w fun e w' => MadeOk Sh.H0 1 [5, 9, 12, 13] 90 w' e ∧ Below w.heap.size w w' := by
  have hE : Sh.Els [5, 9, 12, 13] := els_lit (by decide)
  refine (Union_calls hC (H0_lists nd1) (H0_lists nd5) nd1 nd5 H0_A H0_S (by omega) (by omega) (M := [5, 9, 12, 13]) (by decide) (laysF_all hE (by decide)) (by decide) Sh.H0_small (by decide) (by decide)).mono ?_
  rintro e w' ⟨h, hB⟩
  exact ⟨h.made rfl ((Sh.has_lay Sh.H0 (by omega) (by omega) hE).le (by decide)), hB⟩
theorem meet_ex (A : Option Addr) (c : Nat) (w : World) (hC : Nodes w A Sh.H0) : Calls Tryz.prog 42 #[.slice A 6 c, shV 1 0 3, shV 5 4 2] w fun e w' => MadeOk Sh.H0 1 [5] 90 w' e ∧ Below w.heap.size w w' := by
  have hE : Sh.Els [5] := els_lit (by decide)
  refine (Meet_calls hC (H0_lists nd1) (H0_lists nd5) nd1 nd5 H0_A H0_S (by omega) (by omega) (M := [5]) (by decide) (laysF_all hE (by decide)) (by decide) Sh.H0_small (by decide) (by decide)).mono ?_
  rintro e w' ⟨h, hB⟩
  exact ⟨h.made rfl ((Sh.has_lay Sh.H0 (by omega) (by omega) hE).le (by decide)), hB⟩
theorem minus_ex (A : Option Addr) (c : Nat) (w : World) (hC : Nodes w A Sh.H0) : Calls Tryz.prog 43 #[.slice A 6 c, shV 3 3 3, shV 5 4 2] w fun e w' => MadeOk Sh.H0 3 [9, 12] 90 w' e ∧ Below w.heap.size w w' := by
  have hE : Sh.Els [9, 12] := els_lit (by decide)
  refine (Minus_calls hC (H0_lists nd3) (H0_lists nd5) nd3 nd5 H0_T H0_S (by omega) (by omega) (M := [9, 12]) (by decide) (laysF_all hE (by decide)) (by decide) Sh.H0_small (by decide) (by decide)).mono ?_
  rintro e w' ⟨h, hB⟩
  exact ⟨h.made rfl ((Sh.has_lay Sh.H0 (by omega) (by omega) hE).le (by decide)), hB⟩
end Go.Proofs.YtbfedeedicnedaaGreat
end
