/-
  Texts of this claim: ShBS.
-/
import Derived.Test.YtbfedeedicnedaaGreatKn03
import Derived.Test.YtbfedeedicnedaaGreatWb01
import Derived.Test.YtbfedeedicnedaaGreatWb02
import Derived.Test.YtbfedeedicnedaaGreatWb03
import Derived.Test.YtbfedeedicnedaaGreatWb04
import Derived.Test.YtbfedeedicnedaaGreatWb05
import Derived.Test.YtbfedeedicnedaaGreatWb06
import Derived.Test.YtbfedeedicnedaaGreatWb07
import Derived.Test.YtbfedeedicnedaaGreatWb08
import Derived.Test.YtbfedeedicnedaaGreatWb09
import Derived.Test.YtbfedeedicnedaaGreatWb10
import Derived.Test.YtbfedeedicnedaaGreatWb11
import Derived.Test.YtbfedeedicnedaaGreatWb12
import Derived.Test.YtbfedeedicnedaaGreatWb13
import Derived.Test.YtbfedeedicnedaaGreatWb14
import Derived.Test.YtbfedeedicnedaaGreatWb15
import Derived.Test.YtbfedeedicnedaaGreatWb16
import Derived.Test.YtbfedeedicnedaaGreatWb17
import Derived.Test.YtbfedeedicnedaaGreatWb18
import Derived.Test.YtbfedeedicnedaaGreatWb19
import Derived.Test.YtbfedeedicnedaaGreatWb20
import Derived.Test.YtbfedeedicnedaaGreatWb21
import Derived.Test.YtbfedeedicnedaaGreatWb22
import Derived.Test.YtbfedeedicnedaaGreatWb23
import Derived.Test.YtbfedeedicnedaaGreatWb24
import Derived.Test.YtbfedeedicnedaaGreatWb25
import Derived.Test.YtbfedeedicnedaaGreatWb26
import Derived.Test.YtbfedeedicnedaaGreatWb27
import Derived.Test.YtbfedeedicnedaaGreatWb28
import Derived.Test.YtbfedeedicnedaaGreatWb29
import Derived.Test.YtbfedeedicnedaaGreatWb30
import Derived.Test.YtbfedeedicnedaaGreatWb31
import Derived.Test.YtbfedeedicnedaaGreatWb32
import Derived.Test.YtbfedeedicnedaaGreatWb33
import Derived.Test.YtbfedeedicnedaaGreatWb34
import Derived.Test.YtbfedeedicnedaaGreatWb35
import Derived.Test.YtbfedeedicnedaaGreatWb36
import Derived.Test.YtbfedeedicnedaaGreatWb37
import Derived.Test.YtbfedeedicnedaaGreatWb38
import Derived.Test.YtbfedeedicnedaaGreatWb39
import Derived.Test.YtbfedeedicnedaaGreatWb40
import Derived.Test.YtbfedeedicnedaaGreatWb41
import Derived.Test.YtbfedeedicnedaaGreatWb42
import Derived.Outline
import Derived.Deep.DeepCutAuto

section
set_option linter.unusedVariables false
set_option linter.unusedSimpArgs false
namespace Go.Proofs.YtbfedeedicnedaaGreat
open Go.RowKit
open Go.Proofs.YtbfedeedicnedaaGreatW.PrintWords
set_option maxRecDepth 100000 in
set_option maxHeartbeats 8000000 in
theorem ShapeKnown_calls (hwk : ∀ w : World, Calls Tryz.prog 15 #[] w fun e w' => e = .returned (.bool true) ∧ Below w.heap.size w w') (w : World) : Calls Tryz.prog 11 #[] w fun e w' => e = .returned (.bool true) ∧ Below w.heap.size w w' := by
  replace hwk := Lib.hid hwk
  go_enter Tryz.func11, Tryz.ntmps11
  have B_0 := Lib.hid (Below.refl w.heap.size w)
  go_wp2_with fail
  refine (H_calls _).mono ?_
  rintro e w1 ⟨⟨AN, cN, rfl, hcN, hN⟩, hb⟩
  have B_1 := Lib.hid (B_0.out.trans (hb.mono B_0.out.size))
  clear hb B_0
  have N_1 := Lib.hid hN
  clear hN
  go_wp2_with fail
  refine (A_calls _).mono ?_
  rintro e w2 ⟨rfl, hb⟩
  have B_2 := Lib.hid (B_1.out.trans (hb.mono B_1.out.size))
  have N_2 := Lib.hid (Kd.C_below N_1.out hb)
  clear hb B_1 N_1
  go_wp2_with fail
  refine (check_ex (e0 := 0) nd1 (by rw [H0_A]) _ _ _ N_2.out).mono ?_
  rintro e w3 ⟨rfl, hb⟩
  have B_3 := Lib.hid (B_2.out.trans (hb.mono B_2.out.size))
  have N_3 := Lib.hid (Kd.C_below N_2.out hb)
  clear hb B_2 N_2
  go_wp2_with fail
  refine (T_calls _).mono ?_
  rintro e w4 ⟨rfl, hb⟩
  have B_4 := Lib.hid (B_3.out.trans (hb.mono B_3.out.size))
  have N_4 := Lib.hid (Kd.C_below N_3.out hb)
  clear hb B_3 N_3
  go_wp2_with fail
  refine (check_ex (e0 := 0) nd3 (by rw [H0_T]) _ _ _ N_4.out).mono ?_
  rintro e w5 ⟨rfl, hb⟩
  have B_5 := Lib.hid (B_4.out.trans (hb.mono B_4.out.size))
  have N_5 := Lib.hid (Kd.C_below N_4.out hb)
  clear hb B_4 N_4
  go_wp2_with fail
  refine (S_calls _).mono ?_
  rintro e w6 ⟨rfl, hb⟩
  have B_6 := Lib.hid (B_5.out.trans (hb.mono B_5.out.size))
  have N_6 := Lib.hid (Kd.C_below N_5.out hb)
  clear hb B_5 N_5
  go_wp2_with fail
  refine (check_ex (e0 := 0) nd5 (by rw [H0_S]) _ _ _ N_6.out).mono ?_
  rintro e w7 ⟨rfl, hb⟩
  have B_7 := Lib.hid (B_6.out.trans (hb.mono B_6.out.size))
  have N_7 := Lib.hid (Kd.C_below N_6.out hb)
  clear hb B_6 N_6
  go_wp2_with fail
  refine (check_ex nd1 (show (Sh.listed Sh.H0 1 0 2).2 = 2 by decide) _ _ _ N_7.out).mono ?_
  rintro e w8 ⟨rfl, hb⟩
  have B_8 := Lib.hid (B_7.out.trans (hb.mono B_7.out.size))
  have N_8 := Lib.hid (Kd.C_below N_7.out hb)
  clear hb B_7 N_7
  go_wp2_with fail
  refine (check_ex nd3 (show (Sh.listed Sh.H0 3 6 3).2 = 2 by decide) _ _ _ N_8.out).mono ?_
  rintro e w9 ⟨rfl, hb⟩
  have B_9 := Lib.hid (B_8.out.trans (hb.mono B_8.out.size))
  have N_9 := Lib.hid (Kd.C_below N_8.out hb)
  clear hb B_8 N_8
  go_wp2_with fail
  refine (check_ex nd3 (show (Sh.listed Sh.H0 3 4 3).2 = 2 by decide) _ _ _ N_9.out).mono ?_
  rintro e w10 ⟨rfl, hb⟩
  have B_10 := Lib.hid (B_9.out.trans (hb.mono B_9.out.size))
  have N_10 := Lib.hid (Kd.C_below N_9.out hb)
  clear hb B_9 N_9
  go_wp2_with fail
  refine (A_calls _).mono ?_
  rintro e w11 ⟨rfl, hb⟩
  have B_11 := Lib.hid (B_10.out.trans (hb.mono B_10.out.size))
  have N_11 := Lib.hid (Kd.C_below N_10.out hb)
  clear hb B_10 N_10
  go_wp2_with fail
  refine (A_calls _).mono ?_
  rintro e w12 ⟨rfl, hb⟩
  have B_12 := Lib.hid (B_11.out.trans (hb.mono B_11.out.size))
  have N_12 := Lib.hid (Kd.C_below N_11.out hb)
  clear hb B_11 N_11
  go_wp2_with fail
  refine (A_calls _).mono ?_
  rintro e w13 ⟨rfl, hb⟩
  have B_13 := Lib.hid (B_12.out.trans (hb.mono B_12.out.size))
  have N_13 := Lib.hid (Kd.C_below N_12.out hb)
  clear hb B_12 N_12
  go_wp2_with fail
  refine (T_calls _).mono ?_
  rintro e w14 ⟨rfl, hb⟩
  have B_14 := Lib.hid (B_13.out.trans (hb.mono B_13.out.size))
  have N_14 := Lib.hid (Kd.C_below N_13.out hb)
  clear hb B_13 N_13
  go_wp2_with fail
  refine (T_calls _).mono ?_
  rintro e w15 ⟨rfl, hb⟩
  have B_15 := Lib.hid (B_14.out.trans (hb.mono B_14.out.size))
  have N_15 := Lib.hid (Kd.C_below N_14.out hb)
  clear hb B_14 N_14
  go_wp2_with fail
  refine (T_calls _).mono ?_
  rintro e w16 ⟨rfl, hb⟩
  have B_16 := Lib.hid (B_15.out.trans (hb.mono B_15.out.size))
  have N_16 := Lib.hid (Kd.C_below N_15.out hb)
  clear hb B_15 N_15
  go_wp2_with fail
  refine (S_calls _).mono ?_
  rintro e w17 ⟨rfl, hb⟩
  have B_17 := Lib.hid (B_16.out.trans (hb.mono B_16.out.size))
  have N_17 := Lib.hid (Kd.C_below N_16.out hb)
  clear hb B_16 N_16
  go_wp2_with fail
  refine (S_calls _).mono ?_
  rintro e w18 ⟨rfl, hb⟩
  have B_18 := Lib.hid (B_17.out.trans (hb.mono B_17.out.size))
  have N_18 := Lib.hid (Kd.C_below N_17.out hb)
  clear hb B_17 N_17
  go_wp2_with fail
  refine (None_calls _).mono ?_
  rintro e w19 ⟨rfl, hb⟩
  have B_19 := Lib.hid (B_18.out.trans (hb.mono B_18.out.size))
  have N_19 := Lib.hid (Kd.C_below N_18.out hb)
  clear hb B_18 N_18
  go_wp2_with fail
  obtain ⟨w20, hw20⟩ : ∃ W, W = w19.alloc (.cells #[.int .i64 1, .int .i64 0, .int .i64 3, .int .i64 9, .int .i64 1, .int .i64 1, .int .i64 0, .int .i64 3, .int .i64 12, .int .i64 2, .int .i64 1, .int .i64 0, .int .i64 3, .int .i64 1, .int .i64 2, .int .i64 3, .int .i64 3, .int .i64 3, .int .i64 9, .int .i64 1, .int .i64 3, .int .i64 3, .int .i64 3, .int .i64 12, .int .i64 2, .int .i64 3, .int .i64 3, .int .i64 3, .int .i64 10, .int .i64 2, .int .i64 5, .int .i64 4, .int .i64 2, .int .i64 13, .int .i64 2, .int .i64 5, .int .i64 4, .int .i64 2, .int .i64 9, .int .i64 1, .int .i64 3, .int .i64 (-1), .int .i64 0, .int .i64 1, .int .i64 0] 75) := ⟨_, rfl⟩
  have hb : Below w19.heap.size w19 w20 := by rw [hw20]; exact (Below.refl _ _).alloc (Nat.le_refl _) _
  have B_20 := Lib.hid (B_19.out.trans (hb.mono B_19.out.size))
  have N_20 := Lib.hid (Kd.C_below N_19.out hb)
  clear hb B_19 N_19
  have X_20 := Lib.hid (show w20.heap[w19.heap.size]? = some (.cells #[.int .i64 1, .int .i64 0, .int .i64 3, .int .i64 9, .int .i64 1, .int .i64 1, .int .i64 0, .int .i64 3, .int .i64 12, .int .i64 2, .int .i64 1, .int .i64 0, .int .i64 3, .int .i64 1, .int .i64 2, .int .i64 3, .int .i64 3, .int .i64 3, .int .i64 9, .int .i64 1, .int .i64 3, .int .i64 3, .int .i64 3, .int .i64 12, .int .i64 2, .int .i64 3, .int .i64 3, .int .i64 3, .int .i64 10, .int .i64 2, .int .i64 5, .int .i64 4, .int .i64 2, .int .i64 13, .int .i64 2, .int .i64 5, .int .i64 4, .int .i64 2, .int .i64 9, .int .i64 1, .int .i64 3, .int .i64 (-1), .int .i64 0, .int .i64 1, .int .i64 0] 75 (0, 0)) by rw [hw20]; exact heap_alloc_new _ _)
  rw [← hw20]
  clear hw20
  obtain ⟨gt, hgt⟩ : ∃ g, g = w19.heap.size := ⟨_, rfl⟩
  rw [← hgt] at X_20 ⊢
  clear hgt
  go_loopg [78] 9 (fun gg v78 wr => ∃ k : Nat, v78 = .int .i64 k ∧ k ≤ 9 ∧ Hid (gg + k = 9) ∧ Hid (Below w.heap.size w wr) ∧ Hid (Nodes wr AN Sh.H0) ∧ Hid (wr.heap[gt]? = some (.cells #[.int .i64 1, .int .i64 0, .int .i64 3, .int .i64 9, .int .i64 1, .int .i64 1, .int .i64 0, .int .i64 3, .int .i64 12, .int .i64 2, .int .i64 1, .int .i64 0, .int .i64 3, .int .i64 1, .int .i64 2, .int .i64 3, .int .i64 3, .int .i64 3, .int .i64 9, .int .i64 1, .int .i64 3, .int .i64 3, .int .i64 3, .int .i64 12, .int .i64 2, .int .i64 3, .int .i64 3, .int .i64 3, .int .i64 10, .int .i64 2, .int .i64 5, .int .i64 4, .int .i64 2, .int .i64 13, .int .i64 2, .int .i64 5, .int .i64 4, .int .i64 2, .int .i64 9, .int .i64 1, .int .i64 3, .int .i64 (-1), .int .i64 0, .int .i64 1, .int .i64 0] 75 (0, 0))))
  case atStart => exact ⟨0, rfl, by omega, Lib.hid rfl, B_20, N_20, X_20⟩
  case round =>
    clear B_20 N_20 X_20
    obtain ⟨k, rfl, hk, hg, hB, hN, hX⟩ := hrel
    by_cases hlt : k < 9
    · obtain rfl | rfl | rfl | rfl | rfl | rfl | rfl | rfl | rfl : k = 0 ∨ k = 1 ∨ k = 2 ∨ k = 3 ∨ k = 4 ∨ k = 5 ∨ k = 6 ∨ k = 7 ∨ k = 8 := by omega
      · have hz := blk_frozen hX.out
        have hc0 : wr.cell? ⟨gt, 0, none⟩ = some (.int .i64 1) := by rw [blk_cell hX.out]; rfl
        have hc1 : wr.cell? ⟨gt, 1, none⟩ = some (.int .i64 0) := by rw [blk_cell hX.out]; rfl
        have hc2 : wr.cell? ⟨gt, 2, none⟩ = some (.int .i64 3) := by rw [blk_cell hX.out]; rfl
        have hc3 : wr.cell? ⟨gt, 3, none⟩ = some (.int .i64 9) := by rw [blk_cell hX.out]; rfl
        have hc4 : wr.cell? ⟨gt, 4, none⟩ = some (.int .i64 1) := by rw [blk_cell hX.out]; rfl
        go_wp2_with fail
        refine (st_A9 _ _ _ (Kd.C_alloc hN.out _)).mono ?_
        rintro e w2 ⟨rfl, hb⟩
        have hb0 : Below wr.heap.size wr w2 := below_step ((Below.refl _ _).alloc (Nat.le_refl _) _) hb
        have hr2 : w2.heap[wr.heap.size]? = some (.cells #[.int .i64 1, .int .i64 0, .int .i64 3, .int .i64 9, .int .i64 1] 75 (0, 0)) := blk_below (heap_alloc_new _ _) hb
        have hz2 := blk_frozen hr2
        have hd2 : w2.cell? ⟨wr.heap.size, 4, none⟩ = some (.int .i64 1) := by rw [blk_cell hr2]; rfl
        replace hr2 := Lib.hid hr2
        have hB2 := Lib.hid (hB.out.trans (hb0.mono hB.out.size))
        have hN2 := Lib.hid (Kd.C_below hN.out hb0)
        have hX2 := Lib.hid (blk_below hX.out hb0)
        clear hb hb0 hB hN hX hz hc0 hc1 hc2 hc3 hc4
        go_wp2
        go_roundg (9 - 1)
        case measure => have := hg.out; omega
        case rel => exact ⟨1, by go_num, by omega, Lib.hid (by omega), hB2, hN2, hX2⟩
      · have hz := blk_frozen hX.out
        have hc0 : wr.cell? ⟨gt, 5, none⟩ = some (.int .i64 1) := by rw [blk_cell hX.out]; rfl
        have hc1 : wr.cell? ⟨gt, 6, none⟩ = some (.int .i64 0) := by rw [blk_cell hX.out]; rfl
        have hc2 : wr.cell? ⟨gt, 7, none⟩ = some (.int .i64 3) := by rw [blk_cell hX.out]; rfl
        have hc3 : wr.cell? ⟨gt, 8, none⟩ = some (.int .i64 12) := by rw [blk_cell hX.out]; rfl
        have hc4 : wr.cell? ⟨gt, 9, none⟩ = some (.int .i64 2) := by rw [blk_cell hX.out]; rfl
        go_wp2_with fail
        refine (st_A12 _ _ _ (Kd.C_alloc hN.out _)).mono ?_
        rintro e w2 ⟨rfl, hb⟩
        have hb0 : Below wr.heap.size wr w2 := below_step ((Below.refl _ _).alloc (Nat.le_refl _) _) hb
        have hr2 : w2.heap[wr.heap.size]? = some (.cells #[.int .i64 1, .int .i64 0, .int .i64 3, .int .i64 12, .int .i64 2] 75 (0, 0)) := blk_below (heap_alloc_new _ _) hb
        have hz2 := blk_frozen hr2
        have hd2 : w2.cell? ⟨wr.heap.size, 4, none⟩ = some (.int .i64 2) := by rw [blk_cell hr2]; rfl
        replace hr2 := Lib.hid hr2
        have hB2 := Lib.hid (hB.out.trans (hb0.mono hB.out.size))
        have hN2 := Lib.hid (Kd.C_below hN.out hb0)
        have hX2 := Lib.hid (blk_below hX.out hb0)
        clear hb hb0 hB hN hX hz hc0 hc1 hc2 hc3 hc4
        go_wp2
        go_roundg (9 - 2)
        case measure => have := hg.out; omega
        case rel => exact ⟨2, by go_num, by omega, Lib.hid (by omega), hB2, hN2, hX2⟩
      · have hz := blk_frozen hX.out
        have hc0 : wr.cell? ⟨gt, 10, none⟩ = some (.int .i64 1) := by rw [blk_cell hX.out]; rfl
        have hc1 : wr.cell? ⟨gt, 11, none⟩ = some (.int .i64 0) := by rw [blk_cell hX.out]; rfl
        have hc2 : wr.cell? ⟨gt, 12, none⟩ = some (.int .i64 3) := by rw [blk_cell hX.out]; rfl
        have hc3 : wr.cell? ⟨gt, 13, none⟩ = some (.int .i64 1) := by rw [blk_cell hX.out]; rfl
        have hc4 : wr.cell? ⟨gt, 14, none⟩ = some (.int .i64 2) := by rw [blk_cell hX.out]; rfl
        go_wp2_with fail
        refine (st_A1 _ _ _ (Kd.C_alloc hN.out _)).mono ?_
        rintro e w2 ⟨rfl, hb⟩
        have hb0 : Below wr.heap.size wr w2 := below_step ((Below.refl _ _).alloc (Nat.le_refl _) _) hb
        have hr2 : w2.heap[wr.heap.size]? = some (.cells #[.int .i64 1, .int .i64 0, .int .i64 3, .int .i64 1, .int .i64 2] 75 (0, 0)) := blk_below (heap_alloc_new _ _) hb
        have hz2 := blk_frozen hr2
        have hd2 : w2.cell? ⟨wr.heap.size, 4, none⟩ = some (.int .i64 2) := by rw [blk_cell hr2]; rfl
        replace hr2 := Lib.hid hr2
        have hB2 := Lib.hid (hB.out.trans (hb0.mono hB.out.size))
        have hN2 := Lib.hid (Kd.C_below hN.out hb0)
        have hX2 := Lib.hid (blk_below hX.out hb0)
        clear hb hb0 hB hN hX hz hc0 hc1 hc2 hc3 hc4
        go_wp2
        go_roundg (9 - 3)
        case measure => have := hg.out; omega
        case rel => exact ⟨3, by go_num, by omega, Lib.hid (by omega), hB2, hN2, hX2⟩
      · have hz := blk_frozen hX.out
        have hc0 : wr.cell? ⟨gt, 15, none⟩ = some (.int .i64 3) := by rw [blk_cell hX.out]; rfl
        have hc1 : wr.cell? ⟨gt, 16, none⟩ = some (.int .i64 3) := by rw [blk_cell hX.out]; rfl
        have hc2 : wr.cell? ⟨gt, 17, none⟩ = some (.int .i64 3) := by rw [blk_cell hX.out]; rfl
        have hc3 : wr.cell? ⟨gt, 18, none⟩ = some (.int .i64 9) := by rw [blk_cell hX.out]; rfl
        have hc4 : wr.cell? ⟨gt, 19, none⟩ = some (.int .i64 1) := by rw [blk_cell hX.out]; rfl
        go_wp2_with fail
        refine (st_T9 _ _ _ (Kd.C_alloc hN.out _)).mono ?_
        rintro e w2 ⟨rfl, hb⟩
        have hb0 : Below wr.heap.size wr w2 := below_step ((Below.refl _ _).alloc (Nat.le_refl _) _) hb
        have hr2 : w2.heap[wr.heap.size]? = some (.cells #[.int .i64 3, .int .i64 3, .int .i64 3, .int .i64 9, .int .i64 1] 75 (0, 0)) := blk_below (heap_alloc_new _ _) hb
        have hz2 := blk_frozen hr2
        have hd2 : w2.cell? ⟨wr.heap.size, 4, none⟩ = some (.int .i64 1) := by rw [blk_cell hr2]; rfl
        replace hr2 := Lib.hid hr2
        have hB2 := Lib.hid (hB.out.trans (hb0.mono hB.out.size))
        have hN2 := Lib.hid (Kd.C_below hN.out hb0)
        have hX2 := Lib.hid (blk_below hX.out hb0)
        clear hb hb0 hB hN hX hz hc0 hc1 hc2 hc3 hc4
        go_wp2
        go_roundg (9 - 4)
        case measure => have := hg.out; omega
        case rel => exact ⟨4, by go_num, by omega, Lib.hid (by omega), hB2, hN2, hX2⟩
      · have hz := blk_frozen hX.out
        have hc0 : wr.cell? ⟨gt, 20, none⟩ = some (.int .i64 3) := by rw [blk_cell hX.out]; rfl
        have hc1 : wr.cell? ⟨gt, 21, none⟩ = some (.int .i64 3) := by rw [blk_cell hX.out]; rfl
        have hc2 : wr.cell? ⟨gt, 22, none⟩ = some (.int .i64 3) := by rw [blk_cell hX.out]; rfl
        have hc3 : wr.cell? ⟨gt, 23, none⟩ = some (.int .i64 12) := by rw [blk_cell hX.out]; rfl
        have hc4 : wr.cell? ⟨gt, 24, none⟩ = some (.int .i64 2) := by rw [blk_cell hX.out]; rfl
        go_wp2_with fail
        refine (st_T12 _ _ _ (Kd.C_alloc hN.out _)).mono ?_
        rintro e w2 ⟨rfl, hb⟩
        have hb0 : Below wr.heap.size wr w2 := below_step ((Below.refl _ _).alloc (Nat.le_refl _) _) hb
        have hr2 : w2.heap[wr.heap.size]? = some (.cells #[.int .i64 3, .int .i64 3, .int .i64 3, .int .i64 12, .int .i64 2] 75 (0, 0)) := blk_below (heap_alloc_new _ _) hb
        have hz2 := blk_frozen hr2
        have hd2 : w2.cell? ⟨wr.heap.size, 4, none⟩ = some (.int .i64 2) := by rw [blk_cell hr2]; rfl
        replace hr2 := Lib.hid hr2
        have hB2 := Lib.hid (hB.out.trans (hb0.mono hB.out.size))
        have hN2 := Lib.hid (Kd.C_below hN.out hb0)
        have hX2 := Lib.hid (blk_below hX.out hb0)
        clear hb hb0 hB hN hX hz hc0 hc1 hc2 hc3 hc4
        go_wp2
        go_roundg (9 - 5)
        case measure => have := hg.out; omega
        case rel => exact ⟨5, by go_num, by omega, Lib.hid (by omega), hB2, hN2, hX2⟩
      · have hz := blk_frozen hX.out
        have hc0 : wr.cell? ⟨gt, 25, none⟩ = some (.int .i64 3) := by rw [blk_cell hX.out]; rfl
        have hc1 : wr.cell? ⟨gt, 26, none⟩ = some (.int .i64 3) := by rw [blk_cell hX.out]; rfl
        have hc2 : wr.cell? ⟨gt, 27, none⟩ = some (.int .i64 3) := by rw [blk_cell hX.out]; rfl
        have hc3 : wr.cell? ⟨gt, 28, none⟩ = some (.int .i64 10) := by rw [blk_cell hX.out]; rfl
        have hc4 : wr.cell? ⟨gt, 29, none⟩ = some (.int .i64 2) := by rw [blk_cell hX.out]; rfl
        go_wp2_with fail
        refine (st_T10 _ _ _ (Kd.C_alloc hN.out _)).mono ?_
        rintro e w2 ⟨rfl, hb⟩
        have hb0 : Below wr.heap.size wr w2 := below_step ((Below.refl _ _).alloc (Nat.le_refl _) _) hb
        have hr2 : w2.heap[wr.heap.size]? = some (.cells #[.int .i64 3, .int .i64 3, .int .i64 3, .int .i64 10, .int .i64 2] 75 (0, 0)) := blk_below (heap_alloc_new _ _) hb
        have hz2 := blk_frozen hr2
        have hd2 : w2.cell? ⟨wr.heap.size, 4, none⟩ = some (.int .i64 2) := by rw [blk_cell hr2]; rfl
        replace hr2 := Lib.hid hr2
        have hB2 := Lib.hid (hB.out.trans (hb0.mono hB.out.size))
        have hN2 := Lib.hid (Kd.C_below hN.out hb0)
        have hX2 := Lib.hid (blk_below hX.out hb0)
        clear hb hb0 hB hN hX hz hc0 hc1 hc2 hc3 hc4
        go_wp2
        go_roundg (9 - 6)
        case measure => have := hg.out; omega
        case rel => exact ⟨6, by go_num, by omega, Lib.hid (by omega), hB2, hN2, hX2⟩
      · have hz := blk_frozen hX.out
        have hc0 : wr.cell? ⟨gt, 30, none⟩ = some (.int .i64 5) := by rw [blk_cell hX.out]; rfl
        have hc1 : wr.cell? ⟨gt, 31, none⟩ = some (.int .i64 4) := by rw [blk_cell hX.out]; rfl
        have hc2 : wr.cell? ⟨gt, 32, none⟩ = some (.int .i64 2) := by rw [blk_cell hX.out]; rfl
        have hc3 : wr.cell? ⟨gt, 33, none⟩ = some (.int .i64 13) := by rw [blk_cell hX.out]; rfl
        have hc4 : wr.cell? ⟨gt, 34, none⟩ = some (.int .i64 2) := by rw [blk_cell hX.out]; rfl
        go_wp2_with fail
        refine (st_S13 _ _ _ (Kd.C_alloc hN.out _)).mono ?_
        rintro e w2 ⟨rfl, hb⟩
        have hb0 : Below wr.heap.size wr w2 := below_step ((Below.refl _ _).alloc (Nat.le_refl _) _) hb
        have hr2 : w2.heap[wr.heap.size]? = some (.cells #[.int .i64 5, .int .i64 4, .int .i64 2, .int .i64 13, .int .i64 2] 75 (0, 0)) := blk_below (heap_alloc_new _ _) hb
        have hz2 := blk_frozen hr2
        have hd2 : w2.cell? ⟨wr.heap.size, 4, none⟩ = some (.int .i64 2) := by rw [blk_cell hr2]; rfl
        replace hr2 := Lib.hid hr2
        have hB2 := Lib.hid (hB.out.trans (hb0.mono hB.out.size))
        have hN2 := Lib.hid (Kd.C_below hN.out hb0)
        have hX2 := Lib.hid (blk_below hX.out hb0)
        clear hb hb0 hB hN hX hz hc0 hc1 hc2 hc3 hc4
        go_wp2
        go_roundg (9 - 7)
        case measure => have := hg.out; omega
        case rel => exact ⟨7, by go_num, by omega, Lib.hid (by omega), hB2, hN2, hX2⟩
      · have hz := blk_frozen hX.out
        have hc0 : wr.cell? ⟨gt, 35, none⟩ = some (.int .i64 5) := by rw [blk_cell hX.out]; rfl
        have hc1 : wr.cell? ⟨gt, 36, none⟩ = some (.int .i64 4) := by rw [blk_cell hX.out]; rfl
        have hc2 : wr.cell? ⟨gt, 37, none⟩ = some (.int .i64 2) := by rw [blk_cell hX.out]; rfl
        have hc3 : wr.cell? ⟨gt, 38, none⟩ = some (.int .i64 9) := by rw [blk_cell hX.out]; rfl
        have hc4 : wr.cell? ⟨gt, 39, none⟩ = some (.int .i64 1) := by rw [blk_cell hX.out]; rfl
        go_wp2_with fail
        refine (st_S9 _ _ _ (Kd.C_alloc hN.out _)).mono ?_
        rintro e w2 ⟨rfl, hb⟩
        have hb0 : Below wr.heap.size wr w2 := below_step ((Below.refl _ _).alloc (Nat.le_refl _) _) hb
        have hr2 : w2.heap[wr.heap.size]? = some (.cells #[.int .i64 5, .int .i64 4, .int .i64 2, .int .i64 9, .int .i64 1] 75 (0, 0)) := blk_below (heap_alloc_new _ _) hb
        have hz2 := blk_frozen hr2
        have hd2 : w2.cell? ⟨wr.heap.size, 4, none⟩ = some (.int .i64 1) := by rw [blk_cell hr2]; rfl
        replace hr2 := Lib.hid hr2
        have hB2 := Lib.hid (hB.out.trans (hb0.mono hB.out.size))
        have hN2 := Lib.hid (Kd.C_below hN.out hb0)
        have hX2 := Lib.hid (blk_below hX.out hb0)
        clear hb hb0 hB hN hX hz hc0 hc1 hc2 hc3 hc4
        go_wp2
        go_roundg (9 - 8)
        case measure => have := hg.out; omega
        case rel => exact ⟨8, by go_num, by omega, Lib.hid (by omega), hB2, hN2, hX2⟩
      · have hz := blk_frozen hX.out
        have hc0 : wr.cell? ⟨gt, 40, none⟩ = some (.int .i64 3) := by rw [blk_cell hX.out]; rfl
        have hc1 : wr.cell? ⟨gt, 41, none⟩ = some (.int .i64 (-1)) := by rw [blk_cell hX.out]; rfl
        have hc2 : wr.cell? ⟨gt, 42, none⟩ = some (.int .i64 0) := by rw [blk_cell hX.out]; rfl
        have hc3 : wr.cell? ⟨gt, 43, none⟩ = some (.int .i64 1) := by rw [blk_cell hX.out]; rfl
        have hc4 : wr.cell? ⟨gt, 44, none⟩ = some (.int .i64 0) := by rw [blk_cell hX.out]; rfl
        go_wp2_with fail
        refine (st_N1 _ _ _ (Kd.C_alloc hN.out _)).mono ?_
        rintro e w2 ⟨rfl, hb⟩
        have hb0 : Below wr.heap.size wr w2 := below_step ((Below.refl _ _).alloc (Nat.le_refl _) _) hb
        have hr2 : w2.heap[wr.heap.size]? = some (.cells #[.int .i64 3, .int .i64 (-1), .int .i64 0, .int .i64 1, .int .i64 0] 75 (0, 0)) := blk_below (heap_alloc_new _ _) hb
        have hz2 := blk_frozen hr2
        have hd2 : w2.cell? ⟨wr.heap.size, 4, none⟩ = some (.int .i64 0) := by rw [blk_cell hr2]; rfl
        replace hr2 := Lib.hid hr2
        have hB2 := Lib.hid (hB.out.trans (hb0.mono hB.out.size))
        have hN2 := Lib.hid (Kd.C_below hN.out hb0)
        have hX2 := Lib.hid (blk_below hX.out hb0)
        clear hb hb0 hB hN hX hz hc0 hc1 hc2 hc3 hc4
        go_wp2
        go_roundg (9 - 9)
        case measure => have := hg.out; omega
        case rel => exact ⟨9, by go_num, by omega, Lib.hid (by omega), hB2, hN2, hX2⟩
    · obtain rfl : k = 9 := by omega
      clear hX
      go_wp2_with fail
      have B_21 := hB
      have K_21 := Lib.hid (Below.refl wr.heap.size wr)
      have NR := hN
      have N_21 := hN
      clear hB hN
      go_wp2_with fail
      refine (S_calls _).mono ?_
      rintro e w22 ⟨rfl, hb⟩
      have B_22 := Lib.hid (B_21.out.trans (hb.mono B_21.out.size))
      have K_22 := Lib.hid (K_21.out.trans (hb.mono K_21.out.size))
      have N_22 := Lib.hid (Kd.C_below N_21.out hb)
      clear hb B_21 K_21 N_21
      go_wp2_with fail
      refine (list_S _ _ _ N_22.out).mono ?_
      rintro e w23 ⟨⟨A6, c6, rfl, hc6, hC6⟩, hb⟩
      have B_23 := Lib.hid (B_22.out.trans (hb.mono B_22.out.size))
      have K_23 := Lib.hid (K_22.out.trans (hb.mono K_22.out.size))
      have N_23 := Lib.hid (Kd.C_below N_22.out hb)
      clear hb B_22 K_22 N_22
      have C_23 := Lib.hid hC6
      clear hC6
      go_wp2_with fail
      refine (None_calls _).mono ?_
      rintro e w24 ⟨rfl, hb⟩
      have B_24 := Lib.hid (B_23.out.trans (hb.mono B_23.out.size))
      have K_24 := Lib.hid (K_23.out.trans (hb.mono K_23.out.size))
      have N_24 := Lib.hid (Kd.C_below N_23.out hb)
      have C_24 := Lib.hid (Kd.C_below C_23.out hb)
      clear hb B_23 K_23 N_23 C_23
      go_wp2_with fail
      refine (list_N _ _ _ N_24.out).mono ?_
      rintro e w25 ⟨⟨A8, c8, rfl, hc8, hC8⟩, hb⟩
      have B_25 := Lib.hid (B_24.out.trans (hb.mono B_24.out.size))
      have K_25 := Lib.hid (K_24.out.trans (hb.mono K_24.out.size))
      have N_25 := Lib.hid (Kd.C_below N_24.out hb)
      have C_25 := Lib.hid (Kd.C_below C_24.out hb)
      clear hb B_24 K_24 N_24 C_24
      clear hC8
      go_wp2_with fail
      refine (S_calls _).mono ?_
      rintro e w26 ⟨rfl, hb⟩
      have B_26 := Lib.hid (B_25.out.trans (hb.mono B_25.out.size))
      have K_26 := Lib.hid (K_25.out.trans (hb.mono K_25.out.size))
      have N_26 := Lib.hid (Kd.C_below N_25.out hb)
      have C_26 := Lib.hid (Kd.C_below C_25.out hb)
      clear hb B_25 K_25 N_25 C_25
      go_wp2_with fail
      refine (has_S21 _ _ _ N_26.out).mono ?_
      rintro e w27 ⟨rfl, hb⟩
      have B_27 := Lib.hid (B_26.out.trans (hb.mono B_26.out.size))
      have K_27 := Lib.hid (K_26.out.trans (hb.mono K_26.out.size))
      have N_27 := Lib.hid (Kd.C_below N_26.out hb)
      have C_27 := Lib.hid (Kd.C_below C_26.out hb)
      clear hb B_26 K_26 N_26 C_26
      go_wp2_with fail
      refine (T_calls _).mono ?_
      rintro e w28 ⟨rfl, hb⟩
      have B_28 := Lib.hid (B_27.out.trans (hb.mono B_27.out.size))
      have K_28 := Lib.hid (K_27.out.trans (hb.mono K_27.out.size))
      have N_28 := Lib.hid (Kd.C_below N_27.out hb)
      have C_28 := Lib.hid (Kd.C_below C_27.out hb)
      clear hb B_27 K_27 N_27 C_27
      go_wp2_with fail
      refine (has_T1024 _ _ _ N_28.out).mono ?_
      rintro e w29 ⟨rfl, hb⟩
      have B_29 := Lib.hid (B_28.out.trans (hb.mono B_28.out.size))
      have K_29 := Lib.hid (K_28.out.trans (hb.mono K_28.out.size))
      have N_29 := Lib.hid (Kd.C_below N_28.out hb)
      have C_29 := Lib.hid (Kd.C_below C_28.out hb)
      clear hb B_28 K_28 N_28 C_28
      go_wp2_with fail
      refine (A_calls _).mono ?_
      rintro e w30 ⟨rfl, hb⟩
      have B_30 := Lib.hid (B_29.out.trans (hb.mono B_29.out.size))
      have K_30 := Lib.hid (K_29.out.trans (hb.mono K_29.out.size))
      have N_30 := Lib.hid (Kd.C_below N_29.out hb)
      have C_30 := Lib.hid (Kd.C_below C_29.out hb)
      clear hb B_29 K_29 N_29 C_29
      go_wp2_with fail
      refine (T_calls _).mono ?_
      rintro e w31 ⟨rfl, hb⟩
      have B_31 := Lib.hid (B_30.out.trans (hb.mono B_30.out.size))
      have K_31 := Lib.hid (K_30.out.trans (hb.mono K_30.out.size))
      have N_31 := Lib.hid (Kd.C_below N_30.out hb)
      have C_31 := Lib.hid (Kd.C_below C_30.out hb)
      clear hb B_30 K_30 N_30 C_30
      go_wp2_with fail
      refine (nodes_AT _ _ _ N_31.out).mono ?_
      rintro e w32 ⟨rfl, hb⟩
      have B_32 := Lib.hid (B_31.out.trans (hb.mono B_31.out.size))
      have K_32 := Lib.hid (K_31.out.trans (hb.mono K_31.out.size))
      have N_32 := Lib.hid (Kd.C_below N_31.out hb)
      have C_32 := Lib.hid (Kd.C_below C_31.out hb)
      clear hb B_31 K_31 N_31 C_31
      go_wp2_with fail
      refine (T_calls _).mono ?_
      rintro e w33 ⟨rfl, hb⟩
      have B_33 := Lib.hid (B_32.out.trans (hb.mono B_32.out.size))
      have K_33 := Lib.hid (K_32.out.trans (hb.mono K_32.out.size))
      have N_33 := Lib.hid (Kd.C_below N_32.out hb)
      have C_33 := Lib.hid (Kd.C_below C_32.out hb)
      clear hb B_32 K_32 N_32 C_32
      go_wp2_with fail
      refine (nodes_T1 _ _ _ N_33.out).mono ?_
      rintro e w34 ⟨rfl, hb⟩
      have B_34 := Lib.hid (B_33.out.trans (hb.mono B_33.out.size))
      have K_34 := Lib.hid (K_33.out.trans (hb.mono K_33.out.size))
      have N_34 := Lib.hid (Kd.C_below N_33.out hb)
      have C_34 := Lib.hid (Kd.C_below C_33.out hb)
      clear hb B_33 K_33 N_33 C_33
      go_wp2_with fail
      refine (list_calls _ _).mono ?_
      rintro e wz ⟨rfl, rfl⟩
      have hl := lit_C w34 [5, 13] #[.int .i64 5, .int .i64 13] rfl (by decide)
      obtain ⟨w35, hw35⟩ : ∃ W, W = w34.alloc (.cells #[.int .i64 5, .int .i64 13] 3) := ⟨_, rfl⟩
      have hb : Below w34.heap.size w34 w35 := by rw [hw35]; exact (Below.refl _ _).alloc (Nat.le_refl _) _
      have B_35 := Lib.hid (B_34.out.trans (hb.mono B_34.out.size))
      have K_35 := Lib.hid (K_34.out.trans (hb.mono K_34.out.size))
      have N_35 := Lib.hid (Kd.C_below N_34.out hb)
      have C_35 := Lib.hid (Kd.C_below C_34.out hb)
      clear hb B_34 K_34 N_34 C_34
      rw [← hw35] at hl
      have L_35 := Lib.hid hl
      clear hl
      rw [← hw35]
      clear hw35
      go_wp2_with fail
      refine (same_calls (r := true) [5, 13] [5, 13] _ _ _ _ _ C_35.out hc6 L_35.out (by decide) (by decide) (by decide)).mono ?_
      rintro e wz ⟨rfl, nq, rfl⟩
      obtain ⟨w36, hw36⟩ : ∃ W, W = w35.drewN nq := ⟨_, rfl⟩
      have hb : Below w35.heap.size w35 w36 := by rw [hw36]; exact pw_below_drewN (Below.refl _ _) nq
      have B_36 := Lib.hid (B_35.out.trans (hb.mono B_35.out.size))
      have K_36 := Lib.hid (K_35.out.trans (hb.mono K_35.out.size))
      have N_36 := Lib.hid (Kd.C_below N_35.out hb)
      have C_36 := Lib.hid (Kd.C_below C_35.out hb)
      have L_36 := Lib.hid (Kd.C_below L_35.out hb)
      clear hb B_35 K_35 N_35 C_35 L_35
      rw [← hw36]
      clear hw36
      clear C_36
      clear L_36
      go_wp2_with fail
      refine (make_b1 _ _ _ N_36.out).mono ?_
      rintro e w37 ⟨⟨Am1, qm1, cm1, fm1, rm1, nm1, rfl⟩, hb⟩
      have B_37 := Lib.hid (B_36.out.trans (hb.mono B_36.out.size))
      have K_37 := Lib.hid (K_36.out.trans (hb.mono K_36.out.size))
      have N_37 := Lib.hid (Kd.C_below N_36.out hb)
      clear hb B_36 K_36 N_36
      go_wp2_with fail
      refine (list_calls _ _).mono ?_
      rintro e wz ⟨rfl, rfl⟩
      have hl := lit_C w37 [1024] #[.int .i64 1024] rfl (by decide)
      obtain ⟨w38, hw38⟩ : ∃ W, W = w37.alloc (.cells #[.int .i64 1024] 3) := ⟨_, rfl⟩
      have hb : Below w37.heap.size w37 w38 := by rw [hw38]; exact (Below.refl _ _).alloc (Nat.le_refl _) _
      have B_38 := Lib.hid (B_37.out.trans (hb.mono B_37.out.size))
      have K_38 := Lib.hid (K_37.out.trans (hb.mono K_37.out.size))
      have N_38 := Lib.hid (Kd.C_below N_37.out hb)
      clear hb B_37 K_37 N_37
      rw [← hw38] at hl
      have L_38 := Lib.hid hl
      clear hl
      rw [← hw38]
      clear hw38
      go_wp2_with fail
      refine (make_b2 _ _ _ _ _ N_38.out L_38.out).mono ?_
      rintro e w39 ⟨⟨Am2, qm2, cm2, fm2, rm2, nm2, rfl⟩, hb⟩
      have B_39 := Lib.hid (B_38.out.trans (hb.mono B_38.out.size))
      have K_39 := Lib.hid (K_38.out.trans (hb.mono K_38.out.size))
      have N_39 := Lib.hid (Kd.C_below N_38.out hb)
      have L_39 := Lib.hid (Kd.C_below L_38.out hb)
      clear hb B_38 K_38 N_38 L_38
      clear L_39
      go_wp2_with fail
      refine (A_calls _).mono ?_
      rintro e w40 ⟨rfl, hb⟩
      have B_40 := Lib.hid (B_39.out.trans (hb.mono B_39.out.size))
      have K_40 := Lib.hid (K_39.out.trans (hb.mono K_39.out.size))
      have N_40 := Lib.hid (Kd.C_below N_39.out hb)
      clear hb B_39 K_39 N_39
      go_wp2_with fail
      refine (turn_b _ _ _ N_40.out).mono ?_
      rintro e w41 ⟨⟨Am3, qm3, cm3, fm3, rm3, nm3, rfl⟩, hb⟩
      have B_41 := Lib.hid (B_40.out.trans (hb.mono B_40.out.size))
      have K_41 := Lib.hid (K_40.out.trans (hb.mono K_40.out.size))
      have N_41 := Lib.hid (Kd.C_below N_40.out hb)
      clear hb B_40 K_40 N_40
      go_wp2_with fail
      refine (A_calls _).mono ?_
      rintro e w42 ⟨rfl, hb⟩
      have B_42 := Lib.hid (B_41.out.trans (hb.mono B_41.out.size))
      have K_42 := Lib.hid (K_41.out.trans (hb.mono K_41.out.size))
      have N_42 := Lib.hid (Kd.C_below N_41.out hb)
      clear hb B_41 K_41 N_41
      go_wp2_with fail
      refine (put_b _ _ _ N_42.out).mono ?_
      rintro e w43 ⟨⟨Am4, qm4, cm4, fm4, rm4, nm4, rfl⟩, hb⟩
      have B_43 := Lib.hid (B_42.out.trans (hb.mono B_42.out.size))
      have K_43 := Lib.hid (K_42.out.trans (hb.mono K_42.out.size))
      have N_43 := Lib.hid (Kd.C_below N_42.out hb)
      clear hb B_42 K_42 N_42
      go_wp2_with fail
      refine (A_calls _).mono ?_
      rintro e w44 ⟨rfl, hb⟩
      have B_44 := Lib.hid (B_43.out.trans (hb.mono B_43.out.size))
      have K_44 := Lib.hid (K_43.out.trans (hb.mono K_43.out.size))
      have N_44 := Lib.hid (Kd.C_below N_43.out hb)
      clear hb B_43 K_43 N_43
      go_wp2_with fail
      refine (made_v (drop_same _ _ _ N_44.out) 3 (by decide)).mono ?_
      rintro e w45 ⟨⟨A50, q50, c50, r50, rfl, h50⟩, hb⟩
      have B_45 := Lib.hid (B_44.out.trans (hb.mono B_44.out.size))
      have K_45 := Lib.hid (K_44.out.trans (hb.mono K_44.out.size))
      have N_45 := Lib.hid (Kd.C_below N_44.out hb)
      clear hb B_44 K_44 N_44
      have M_45 := Lib.hid h50
      clear h50
      go_upto_region 24 with fail
      have hgw21 := Lib.hid (B_45.out.size)
      have hgk21 := Lib.hid (K_45.out.size)
      obtain ⟨w46, hw46⟩ : ∃ W, W = w45.alloc (.cells #[.int .i64 1, .int .i64 r50, .int .i64 3] 25) := ⟨_, rfl⟩
      have hb : Below w45.heap.size w45 w46 := by rw [hw46]; exact (Below.refl _ _).alloc (Nat.le_refl _) _
      have B_46 := Lib.hid (B_45.out.trans (hb.mono B_45.out.size))
      have K_46 := Lib.hid (K_45.out.trans (hb.mono K_45.out.size))
      have N_46 := Lib.hid (Kd.C_below N_45.out hb)
      have M_46 := Lib.hid (M_45.out.below hb)
      clear hb B_45 K_45 N_45 M_45
      have X21_46 := Lib.hid (show w46.heap[w45.heap.size]? = some (.cells #[.int .i64 1, .int .i64 r50, .int .i64 3] 25 (0, 0)) by rw [hw46]; exact heap_alloc_new _ _)
      rw [← hw46]
      clear hw46
      obtain ⟨g21, hg21⟩ : ∃ g, g = w45.heap.size := ⟨_, rfl⟩
      rw [← hg21] at X21_46 hgw21 hgk21  ⊢
      clear hg21
      go_upto_region 24 with fail
      go_cut [254] (fun sx wx => sx = .bool false ∧ Below w46.heap.size w46 wx)
      case first => as_aux_lemma =>
        have hBd := Lib.hid (show Below w46.heap.size w46 w46.drew from (Below.refl _ _).drew)
        have hkk := Lib.hid (fun W (hW : Below w46.heap.size w46 W) => (⟨hW, by rw [blk_cell (blk_below X21_46.out hW)]; rfl, by rw [blk_cell (blk_below X21_46.out hW)]; rfl, by rw [blk_cell (blk_below X21_46.out hW)]; rfl⟩ : Below w46.heap.size w46 W ∧ W.cell? ⟨g21, 0, none⟩ = some (.int .i64 1) ∧ W.cell? ⟨g21, 1, none⟩ = some (.int .i64 r50) ∧ W.cell? ⟨g21, 2, none⟩ = some (.int .i64 3)))
        have hM := Lib.hid (fun W (hW : Below w46.heap.size w46 W) => M_46.out.below hW)
        have hNN := Lib.hid (fun W (hW : Below w46.heap.size w46 W) => Kd.C_below N_46.out hW)
        have hLdM := Lib.hid (fun v W => list_litd v W [5, 9, 12] #[.int .i64 5, .int .i64 9, .int .i64 12] rfl (by decide))
        have hHdM := Lib.hid (fun W => H_litd W [5, 9, 12] #[.int .i64 5, .int .i64 9, .int .i64 12] rfl (by decide))
        have hHlM := Lib.hid (fun W => H_lit W [5, 9, 12] #[.int .i64 5, .int .i64 9, .int .i64 12] rfl (by decide))
        have hLlM := Lib.hid (fun v W => list_lit v W [5, 9, 12] #[.int .i64 5, .int .i64 9, .int .i64 12] rfl (by decide))
        go_region_held3 (fun W => Below w46.heap.size w46 W ∧ W.cell? ⟨g21, 0, none⟩ = some (.int .i64 1) ∧ W.cell? ⟨g21, 1, none⟩ = some (.int .i64 r50) ∧ W.cell? ⟨g21, 2, none⟩ = some (.int .i64 3))
          (first
            | (refine hkk.out _ ?_; repeat' (with_reducible first | assumption | exact Below.refl _ _ | refine Below.drew ?_ | refine below_more ?_ _))
            | fail)
          (first
            | (first | (go_at_call 40; with_reducible (refine (hLlM.out _ _).mono ?_); rintro e wL ⟨rfl, hLA, hBL⟩; have hBA : Below w46.heap.size w46 wL := (by refine below_step ?_ hBL; repeat' (with_reducible first | assumption | exact Below.refl _ _ | refine Below.drew ?_ | refine below_more ?_ _)); replace hLA := Lib.hid hLA; clear hBL) | fail)
            | (first | (go_at_call 40; with_reducible (refine (hLdM.out _ _).mono ?_); rintro e wL ⟨rfl, hLA, hBL⟩; have hBA : Below w46.heap.size w46 wL := (by refine below_step ?_ hBL; repeat' (with_reducible first | assumption | exact Below.refl _ _ | refine Below.drew ?_ | refine below_more ?_ _)); replace hLA := Lib.hid hLA; clear hBL) | fail)
            | (first | (go_at_call 32; rename Hid (Kd.C kI _ _ _ [5, 9, 12]) => hLB; refine (holds_at (hM.out _ hBA) (k := 3) (by decide) (by decide) (by decide) _ _ (hNN.out _ hBA) hcN _ _ hLB.out (Nat.le_refl _) (by decide)).mono ?_; rintro e wF ⟨rfl, hBF⟩; have hBF' : Below w46.heap.size w46 wF := below_step hBA hBF; clear hBF hLB) | fail))
        all_goals (go_wp2_with fail; go_meet; exact ⟨rfl, by assumption⟩)
      case rest => as_aux_lemma =>
        obtain ⟨rfl, hb⟩ := hcut
        clear M_46
        revert hb
        revert wc
        intro w47 hb
        have B_47 := Lib.hid (B_46.out.trans (hb.mono B_46.out.size))
        have K_47 := Lib.hid (K_46.out.trans (hb.mono K_46.out.size))
        have N_47 := Lib.hid (Kd.C_below N_46.out hb)
        have X21_47 := Lib.hid (blk_below X21_46.out hb)
        clear hb B_46 K_46 N_46 X21_46
        go_wp2_with fail
        refine (T_calls _).mono ?_
        rintro e w48 ⟨rfl, hb⟩
        have B_48 := Lib.hid (B_47.out.trans (hb.mono B_47.out.size))
        have K_48 := Lib.hid (K_47.out.trans (hb.mono K_47.out.size))
        have N_48 := Lib.hid (Kd.C_below N_47.out hb)
        have X21_48 := Lib.hid (blk_below X21_47.out hb)
        clear hb B_47 K_47 N_47 X21_47
        go_wp2_with fail
        refine (split_10 _ _ _ N_48.out).mono ?_
        rintro e w49 ⟨⟨A80, q80, c80, r80, r81, rfl, h80, h81⟩, hb⟩
        have B_49 := Lib.hid (B_48.out.trans (hb.mono B_48.out.size))
        have K_49 := Lib.hid (K_48.out.trans (hb.mono K_48.out.size))
        have N_49 := Lib.hid (Kd.C_below N_48.out hb)
        have X21_49 := Lib.hid (blk_below X21_48.out hb)
        clear hb B_48 K_48 N_48 X21_48
        have Ma_49 := Lib.hid h80
        clear h80
        have Mb_49 := Lib.hid h81
        clear h81
        have hgw22 := Lib.hid (B_49.out.size)
        have hgk22 := Lib.hid (K_49.out.size)
        have hlt21_22 := Lib.hid (blk_lt X21_49.out)
        obtain ⟨w50, hwa⟩ : ∃ W, w49.alloc (.cells #[.int .i64 0, .int .i64 0, .int .i64 0] 25) = W := ⟨_, rfl⟩
        have hb : Below w49.heap.size w49 w50 := by rw [← hwa]; exact (Below.refl _ _).alloc (Nat.le_refl _) _
        have B_50 := Lib.hid (B_49.out.trans (hb.mono B_49.out.size))
        have K_50 := Lib.hid (K_49.out.trans (hb.mono K_49.out.size))
        have N_50 := Lib.hid (Kd.C_below N_49.out hb)
        have X21_50 := Lib.hid (blk_below X21_49.out hb)
        have Ma_50 := Lib.hid (Ma_49.out.below hb)
        have Mb_50 := Lib.hid (Mb_49.out.below hb)
        clear hb B_49 K_49 N_49 X21_49 Ma_49 Mb_49
        have X22_50 := Lib.hid (show w50.heap[w49.heap.size]? = some (.cells #[.int .i64 0, .int .i64 0, .int .i64 0] 25 (0, 0)) by rw [← hwa]; exact heap_alloc_new _ _)
        obtain ⟨g22, hg22⟩ : ∃ g, w49.heap.size = g := ⟨_, rfl⟩
        rw [hg22] at X22_50 hgw22 hgk22 hlt21_22
        obtain ⟨va51, vb51, w51, ⟨sa51, sb51, sc51⟩, ⟨ca51, cb51, cc51⟩, ⟨za51, zb51, zc51⟩, hw51⟩ := store3 X21_50.out 3 r80 2
        have B_51 := Lib.hid (show Below w.heap.size w w51 by rw [hw51]; exact below_setk B_50.out hgw21.out _ _ _)
        have K_51 := Lib.hid (show Below wr.heap.size wr w51 by rw [hw51]; exact below_setk K_50.out hgk21.out _ _ _)
        have N_51 := Lib.hid (Kd.C_below NR.out K_51.out)
        have X21_51 := Lib.hid (show w51.heap[g21]? = some (.cells #[.int .i64 3, .int .i64 r80, .int .i64 2] 25 (0, 0)) by rw [hw51]; exact blk_set (blk_set (blk_set X21_50.out 0 (.int .i64 3)) 1 (.int .i64 r80)) 2 (.int .i64 2))
        have Ma_51 := Lib.hid (Ma_50.out.set X21_50.out (.int .i64 3) (.int .i64 r80) (.int .i64 2))
        rw [← hw51] at Ma_51
        have Mb_51 := Lib.hid (Mb_50.out.set X21_50.out (.int .i64 3) (.int .i64 r80) (.int .i64 2))
        rw [← hw51] at Mb_51
        have X22_51 := Lib.hid (show w51.heap[g22]? = some (.cells #[.int .i64 0, .int .i64 0, .int .i64 0] 25 (0, 0)) by rw [hw51]; exact blk_store3 X22_50.out (by have := hlt21_22.out; omega) _ _ _)
        clear hw51 B_50 K_50 N_50 X21_50 Ma_50 Mb_50 X22_50
        obtain ⟨va52, vb52, w52, ⟨sa52, sb52, sc52⟩, ⟨ca52, cb52, cc52⟩, ⟨za52, zb52, zc52⟩, hw52⟩ := store3 X22_51.out 3 r81 1
        have B_52 := Lib.hid (show Below w.heap.size w w52 by rw [hw52]; exact below_setk B_51.out hgw22.out _ _ _)
        have K_52 := Lib.hid (show Below wr.heap.size wr w52 by rw [hw52]; exact below_setk K_51.out hgk22.out _ _ _)
        have N_52 := Lib.hid (Kd.C_below NR.out K_52.out)
        have X21_52 := Lib.hid (show w52.heap[g21]? = some (.cells #[.int .i64 3, .int .i64 r80, .int .i64 2] 25 (0, 0)) by rw [hw52]; exact blk_store3 X21_51.out (by have := hlt21_22.out; omega) _ _ _)
        have Ma_52 := Lib.hid (Ma_51.out.set X22_51.out (.int .i64 3) (.int .i64 r81) (.int .i64 1))
        rw [← hw52] at Ma_52
        have Mb_52 := Lib.hid (Mb_51.out.set X22_51.out (.int .i64 3) (.int .i64 r81) (.int .i64 1))
        rw [← hw52] at Mb_52
        have X22_52 := Lib.hid (show w52.heap[g22]? = some (.cells #[.int .i64 3, .int .i64 r81, .int .i64 1] 25 (0, 0)) by rw [hw52]; exact blk_set (blk_set (blk_set X22_51.out 0 (.int .i64 3)) 1 (.int .i64 r81)) 2 (.int .i64 1))
        clear hw52 B_51 K_51 N_51 X21_51 Ma_51 Mb_51 X22_51
        go_upto_region 27 with fail
        clear sa51 sb51 sc51 ca51 cb51 cc51 za51 zb51 zc51 sa52 sb52 sc52 ca52 cb52 cc52 za52 zb52 zc52
        clear hwa hg22
        go_wp2_with fail
        refine (A_calls _).mono ?_
        rintro e w53 ⟨rfl, hb⟩
        have B_53 := Lib.hid (B_52.out.trans (hb.mono B_52.out.size))
        have K_53 := Lib.hid (K_52.out.trans (hb.mono K_52.out.size))
        have N_53 := Lib.hid (Kd.C_below N_52.out hb)
        have X21_53 := Lib.hid (blk_below X21_52.out hb)
        have Ma_53 := Lib.hid (Ma_52.out.below hb)
        have Mb_53 := Lib.hid (Mb_52.out.below hb)
        have X22_53 := Lib.hid (blk_below X22_52.out hb)
        clear hb B_52 K_52 N_52 X21_52 Ma_52 Mb_52 X22_52
        go_wp2_with fail
        refine (split_b _ _ _ N_53.out).mono ?_
        rintro e w54 ⟨⟨Ab, qb, cb, fb, rb1, nb1, rb2, nb2, bb, rfl⟩, hb⟩
        have B_54 := Lib.hid (B_53.out.trans (hb.mono B_53.out.size))
        have K_54 := Lib.hid (K_53.out.trans (hb.mono K_53.out.size))
        have N_54 := Lib.hid (Kd.C_below N_53.out hb)
        have X21_54 := Lib.hid (blk_below X21_53.out hb)
        have Ma_54 := Lib.hid (Ma_53.out.below hb)
        have Mb_54 := Lib.hid (Mb_53.out.below hb)
        have X22_54 := Lib.hid (blk_below X22_53.out hb)
        clear hb B_53 K_53 N_53 X21_53 Ma_53 Mb_53 X22_53
        go_wp2_with fail
        refine (T_calls _).mono ?_
        rintro e w55 ⟨rfl, hb⟩
        have B_55 := Lib.hid (B_54.out.trans (hb.mono B_54.out.size))
        have K_55 := Lib.hid (K_54.out.trans (hb.mono K_54.out.size))
        have N_55 := Lib.hid (Kd.C_below N_54.out hb)
        have X21_55 := Lib.hid (blk_below X21_54.out hb)
        have Ma_55 := Lib.hid (Ma_54.out.below hb)
        have Mb_55 := Lib.hid (Mb_54.out.below hb)
        have X22_55 := Lib.hid (blk_below X22_54.out hb)
        clear hb B_54 K_54 N_54 X21_54 Ma_54 Mb_54 X22_54
        go_wp2_with fail
        refine (None_calls _).mono ?_
        rintro e w56 ⟨rfl, hb⟩
        have B_56 := Lib.hid (B_55.out.trans (hb.mono B_55.out.size))
        have K_56 := Lib.hid (K_55.out.trans (hb.mono K_55.out.size))
        have N_56 := Lib.hid (Kd.C_below N_55.out hb)
        have X21_56 := Lib.hid (blk_below X21_55.out hb)
        have Ma_56 := Lib.hid (Ma_55.out.below hb)
        have Mb_56 := Lib.hid (Mb_55.out.below hb)
        have X22_56 := Lib.hid (blk_below X22_55.out hb)
        clear hb B_55 K_55 N_55 X21_55 Ma_55 Mb_55 X22_55
        go_wp2_with fail
        refine (join_b1 _ _ _ N_56.out).mono ?_
        rintro e w57 ⟨⟨Am5, qm5, cm5, fm5, rm5, nm5, rfl⟩, hb⟩
        have B_57 := Lib.hid (B_56.out.trans (hb.mono B_56.out.size))
        have K_57 := Lib.hid (K_56.out.trans (hb.mono K_56.out.size))
        have N_57 := Lib.hid (Kd.C_below N_56.out hb)
        have X21_57 := Lib.hid (blk_below X21_56.out hb)
        have Ma_57 := Lib.hid (Ma_56.out.below hb)
        have Mb_57 := Lib.hid (Mb_56.out.below hb)
        have X22_57 := Lib.hid (blk_below X22_56.out hb)
        clear hb B_56 K_56 N_56 X21_56 Ma_56 Mb_56 X22_56
        go_wp2_with fail
        refine (A_calls _).mono ?_
        rintro e w58 ⟨rfl, hb⟩
        have B_58 := Lib.hid (B_57.out.trans (hb.mono B_57.out.size))
        have K_58 := Lib.hid (K_57.out.trans (hb.mono K_57.out.size))
        have N_58 := Lib.hid (Kd.C_below N_57.out hb)
        have X21_58 := Lib.hid (blk_below X21_57.out hb)
        have Ma_58 := Lib.hid (Ma_57.out.below hb)
        have Mb_58 := Lib.hid (Mb_57.out.below hb)
        have X22_58 := Lib.hid (blk_below X22_57.out hb)
        clear hb B_57 K_57 N_57 X21_57 Ma_57 Mb_57 X22_57
        go_wp2_with fail
        refine (T_calls _).mono ?_
        rintro e w59 ⟨rfl, hb⟩
        have B_59 := Lib.hid (B_58.out.trans (hb.mono B_58.out.size))
        have K_59 := Lib.hid (K_58.out.trans (hb.mono K_58.out.size))
        have N_59 := Lib.hid (Kd.C_below N_58.out hb)
        have X21_59 := Lib.hid (blk_below X21_58.out hb)
        have Ma_59 := Lib.hid (Ma_58.out.below hb)
        have Mb_59 := Lib.hid (Mb_58.out.below hb)
        have X22_59 := Lib.hid (blk_below X22_58.out hb)
        clear hb B_58 K_58 N_58 X21_58 Ma_58 Mb_58 X22_58
        go_wp2_with fail
        refine (join_b2 _ _ _ N_59.out).mono ?_
        rintro e w60 ⟨⟨Am6, qm6, cm6, fm6, rm6, nm6, rfl⟩, hb⟩
        have B_60 := Lib.hid (B_59.out.trans (hb.mono B_59.out.size))
        have K_60 := Lib.hid (K_59.out.trans (hb.mono K_59.out.size))
        have N_60 := Lib.hid (Kd.C_below N_59.out hb)
        have X21_60 := Lib.hid (blk_below X21_59.out hb)
        have Ma_60 := Lib.hid (Ma_59.out.below hb)
        have Mb_60 := Lib.hid (Mb_59.out.below hb)
        have X22_60 := Lib.hid (blk_below X22_59.out hb)
        clear hb B_59 K_59 N_59 X21_59 Ma_59 Mb_59 X22_59
        go_upto_region 30 with fail
        go_cut [0] (fun sx wx => sx = .bool true ∧ Below w60.heap.size w60 wx)
        case first => as_aux_lemma =>
          have hBd := Lib.hid (show Below w60.heap.size w60 w60.drew from (Below.refl _ _).drew)
          have hkk := Lib.hid (fun W (hW : Below w60.heap.size w60 W) => (⟨hW, by rw [blk_cell (blk_below X21_60.out hW)]; rfl, by rw [blk_cell (blk_below X21_60.out hW)]; rfl, by rw [blk_cell (blk_below X21_60.out hW)]; rfl, by rw [blk_cell (blk_below X22_60.out hW)]; rfl, by rw [blk_cell (blk_below X22_60.out hW)]; rfl, by rw [blk_cell (blk_below X22_60.out hW)]; rfl⟩ : Below w60.heap.size w60 W ∧ W.cell? ⟨g21, 0, none⟩ = some (.int .i64 3) ∧ W.cell? ⟨g21, 1, none⟩ = some (.int .i64 r80) ∧ W.cell? ⟨g21, 2, none⟩ = some (.int .i64 2) ∧ W.cell? ⟨g22, 0, none⟩ = some (.int .i64 3) ∧ W.cell? ⟨g22, 1, none⟩ = some (.int .i64 r81) ∧ W.cell? ⟨g22, 2, none⟩ = some (.int .i64 1)))
          have hMa := Lib.hid (fun W (hW : Below w60.heap.size w60 W) => Ma_60.out.below hW)
          have hMb := Lib.hid (fun W (hW : Below w60.heap.size w60 W) => Mb_60.out.below hW)
          have hNN := Lib.hid (fun W (hW : Below w60.heap.size w60 W) => Kd.C_below N_60.out hW)
          have hLdMa := Lib.hid (fun v W => list_litd v W [5, 9] #[.int .i64 5, .int .i64 9] rfl (by decide))
          have hHdMa := Lib.hid (fun W => H_litd W [5, 9] #[.int .i64 5, .int .i64 9] rfl (by decide))
          have hHlMa := Lib.hid (fun W => H_lit W [5, 9] #[.int .i64 5, .int .i64 9] rfl (by decide))
          have hLlMa := Lib.hid (fun v W => list_lit v W [5, 9] #[.int .i64 5, .int .i64 9] rfl (by decide))
          have hLdMb := Lib.hid (fun v W => list_litd v W [12] #[.int .i64 12] rfl (by decide))
          have hHdMb := Lib.hid (fun W => H_litd W [12] #[.int .i64 12] rfl (by decide))
          have hHlMb := Lib.hid (fun W => H_lit W [12] #[.int .i64 12] rfl (by decide))
          have hLlMb := Lib.hid (fun v W => list_lit v W [12] #[.int .i64 12] rfl (by decide))
          go_region_held3 (fun W => Below w60.heap.size w60 W ∧ W.cell? ⟨g21, 0, none⟩ = some (.int .i64 3) ∧ W.cell? ⟨g21, 1, none⟩ = some (.int .i64 r80) ∧ W.cell? ⟨g21, 2, none⟩ = some (.int .i64 2) ∧ W.cell? ⟨g22, 0, none⟩ = some (.int .i64 3) ∧ W.cell? ⟨g22, 1, none⟩ = some (.int .i64 r81) ∧ W.cell? ⟨g22, 2, none⟩ = some (.int .i64 1))
            (first
              | (refine hkk.out _ ?_; repeat' (with_reducible first | assumption | exact Below.refl _ _ | refine Below.drew ?_ | refine below_more ?_ _))
              | fail)
            (first
              | (first | (go_at_call 40; with_reducible (refine (hLlMa.out _ _).mono ?_); rintro e wL ⟨rfl, hLA, hBL⟩; have hBA : Below w60.heap.size w60 wL := (by refine below_step ?_ hBL; repeat' (with_reducible first | assumption | exact Below.refl _ _ | refine Below.drew ?_ | refine below_more ?_ _)); replace hLA := Lib.hid hLA; clear hBL) | fail)
              | (first | (go_at_call 40; with_reducible (refine (hLdMa.out _ _).mono ?_); rintro e wL ⟨rfl, hLA, hBL⟩; have hBA : Below w60.heap.size w60 wL := (by refine below_step ?_ hBL; repeat' (with_reducible first | assumption | exact Below.refl _ _ | refine Below.drew ?_ | refine below_more ?_ _)); replace hLA := Lib.hid hLA; clear hBL) | fail)
              | (first | (go_at_call 40; with_reducible (refine (hLlMb.out _ _).mono ?_); rintro e wL ⟨rfl, hLA, hBL⟩; have hBA : Below w60.heap.size w60 wL := (by refine below_step ?_ hBL; repeat' (with_reducible first | assumption | exact Below.refl _ _ | refine Below.drew ?_ | refine below_more ?_ _)); replace hLA := Lib.hid hLA; clear hBL) | fail)
              | (first | (go_at_call 40; with_reducible (refine (hLdMb.out _ _).mono ?_); rintro e wL ⟨rfl, hLA, hBL⟩; have hBA : Below w60.heap.size w60 wL := (by refine below_step ?_ hBL; repeat' (with_reducible first | assumption | exact Below.refl _ _ | refine Below.drew ?_ | refine below_more ?_ _)); replace hLA := Lib.hid hLA; clear hBL) | fail)
              | (first | (go_at_call 32; rename Hid (Kd.C kI _ _ _ [5, 9]) => hLB; refine (holds_at (hMa.out _ hBA) (k := 2) (by decide) (by decide) (by decide) _ _ (hNN.out _ hBA) hcN _ _ hLB.out (Nat.le_refl _) (by decide)).mono ?_; rintro e wF ⟨rfl, hBF⟩; have hBF' : Below w60.heap.size w60 wF := below_step hBA hBF; clear hBF hLB) | fail)
              | (first | (go_at_call 32; rename Hid (Kd.C kI _ _ _ [12]) => hLB; refine (holds_at (hMb.out _ hBA) (k := 1) (by decide) (by decide) (by decide) _ _ (hNN.out _ hBA) hcN _ _ hLB.out (Nat.le_refl _) (by decide)).mono ?_; rintro e wF ⟨rfl, hBF⟩; have hBF' : Below w60.heap.size w60 wF := below_step hBA hBF; clear hBF hLB) | fail)
              | (first | (go_at_call 15; refine (hwk.out _).mono ?_; rintro e wG ⟨rfl, hBG⟩; have hBG' : Below w60.heap.size w60 wG := below_step hBF' hBG; clear hBG) | fail))
          all_goals (go_wp2_with fail; go_meet; exact ⟨rfl, by assumption⟩)
        case rest => as_aux_lemma =>
          obtain ⟨rfl, hb⟩ := hcut
          clear Ma_60
          clear Mb_60
          revert hb
          revert wc
          intro w61 hb
          have B_61 := Lib.hid (B_60.out.trans (hb.mono B_60.out.size))
          have K_61 := Lib.hid (K_60.out.trans (hb.mono K_60.out.size))
          have N_61 := Lib.hid (Kd.C_below N_60.out hb)
          have X21_61 := Lib.hid (blk_below X21_60.out hb)
          have X22_61 := Lib.hid (blk_below X22_60.out hb)
          clear hb B_60 K_60 N_60 X21_60 X22_60
          go_wp2
          go_ret
          exact ⟨rfl, B_61.out⟩
end Go.Proofs.YtbfedeedicnedaaGreat
end
