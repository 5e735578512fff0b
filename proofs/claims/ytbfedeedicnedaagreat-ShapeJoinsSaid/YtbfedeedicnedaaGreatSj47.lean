/-
  Texts of this claim: ShBR.
-/
import Derived.Test.YtbfedeedicnedaaGreatSj39
import Derived.Test.YtbfedeedicnedaaGreatSj40
import Derived.Test.YtbfedeedicnedaaGreatSj46
set_option linter.unusedVariables false
set_option linter.unusedSimpArgs false
set_option maxHeartbeats 8000000
set_option maxRecDepth 100000
section
namespace Go.Proofs.YtbfedeedicnedaaGreat
open Go.RowKit
open Go.Proofs.YtbfedeedicnedaaGreatW.PrintWords
theorem works_calls (w : World) : Calls Tryz.prog 15 #[] w fun e w' => e = .returned (.bool true) ∧ Below w.heap.size w w' := by
  go_enter Tryz.func15, Tryz.ntmps15
  have B_0 := Lib.hid (Below.refl w.heap.size w)
  go_wp2_with fail
  refine (H_calls _).mono ?_
  rintro e w1 ⟨⟨AN, cN, rfl, hcN, hN⟩, hb⟩
  have B_1 := Lib.hid (B_0.out.trans (hb.mono B_0.out.size))
  clear hb B_0
  have N_1 := Lib.hid hN
  clear hN
  go_wp2_with fail
  refine (T_calls _).mono ?_
  rintro e w2 ⟨rfl, hb⟩
  have B_2 := Lib.hid (B_1.out.trans (hb.mono B_1.out.size))
  have N_2 := Lib.hid (Kd.C_below N_1.out hb)
  clear hb B_1 N_1
  go_wp2_with fail
  refine (list_T _ _ _ N_2.out).mono ?_
  rintro e w3 ⟨⟨A3, c3, rfl, hc3, hC3⟩, hb⟩
  have B_3 := Lib.hid (B_2.out.trans (hb.mono B_2.out.size))
  have N_3 := Lib.hid (Kd.C_below N_2.out hb)
  clear hb B_2 N_2
  have C_3 := Lib.hid hC3
  clear hC3
  clear N_3
  go_wp2_with fail
  refine (H_calls _).mono ?_
  rintro e w4 ⟨⟨AN, cN, rfl, hcN, hN⟩, hb⟩
  have B_4 := Lib.hid (B_3.out.trans (hb.mono B_3.out.size))
  have C_4 := Lib.hid (Kd.C_below C_3.out hb)
  clear hb B_3 C_3
  have N_4 := Lib.hid hN
  clear hN
  go_wp2_with fail
  refine (A_calls _).mono ?_
  rintro e w5 ⟨rfl, hb⟩
  have B_5 := Lib.hid (B_4.out.trans (hb.mono B_4.out.size))
  have C_5 := Lib.hid (Kd.C_below C_4.out hb)
  have N_5 := Lib.hid (Kd.C_below N_4.out hb)
  clear hb B_4 C_4 N_4
  go_wp2_with fail
  refine (has_ex _ _ _ N_5.out).mono ?_
  rintro e w6 ⟨rfl, hb⟩
  have B_6 := Lib.hid (B_5.out.trans (hb.mono B_5.out.size))
  have C_6 := Lib.hid (Kd.C_below C_5.out hb)
  have N_6 := Lib.hid (Kd.C_below N_5.out hb)
  clear hb B_5 C_5 N_5
  clear N_6
  go_wp2_with fail
  refine (H_calls _).mono ?_
  rintro e w7 ⟨⟨AN, cN, rfl, hcN, hN⟩, hb⟩
  have B_7 := Lib.hid (B_6.out.trans (hb.mono B_6.out.size))
  have C_7 := Lib.hid (Kd.C_below C_6.out hb)
  clear hb B_6 C_6
  have N_7 := Lib.hid hN
  clear hN
  go_wp2_with fail
  refine (S_calls _).mono ?_
  rintro e w8 ⟨rfl, hb⟩
  have B_8 := Lib.hid (B_7.out.trans (hb.mono B_7.out.size))
  have C_8 := Lib.hid (Kd.C_below C_7.out hb)
  have N_8 := Lib.hid (Kd.C_below N_7.out hb)
  clear hb B_7 C_7 N_7
  go_wp2_with fail
  refine (steps_S _ _ _ N_8.out).mono ?_
  rintro e w9 ⟨rfl, hb⟩
  have B_9 := Lib.hid (B_8.out.trans (hb.mono B_8.out.size))
  have C_9 := Lib.hid (Kd.C_below C_8.out hb)
  have N_9 := Lib.hid (Kd.C_below N_8.out hb)
  clear hb B_8 C_8 N_8
  clear N_9
  go_wp2_with fail
  refine (H_calls _).mono ?_
  rintro e w10 ⟨⟨AN, cN, rfl, hcN, hN⟩, hb⟩
  have B_10 := Lib.hid (B_9.out.trans (hb.mono B_9.out.size))
  have C_10 := Lib.hid (Kd.C_below C_9.out hb)
  clear hb B_9 C_9
  have N_10 := Lib.hid hN
  clear hN
  go_wp2_with fail
  refine (T_calls _).mono ?_
  rintro e w11 ⟨rfl, hb⟩
  have B_11 := Lib.hid (B_10.out.trans (hb.mono B_10.out.size))
  have C_11 := Lib.hid (Kd.C_below C_10.out hb)
  have N_11 := Lib.hid (Kd.C_below N_10.out hb)
  clear hb B_10 C_10 N_10
  go_wp2_with fail
  refine (T_calls _).mono ?_
  rintro e w12 ⟨rfl, hb⟩
  have B_12 := Lib.hid (B_11.out.trans (hb.mono B_11.out.size))
  have C_12 := Lib.hid (Kd.C_below C_11.out hb)
  have N_12 := Lib.hid (Kd.C_below N_11.out hb)
  clear hb B_11 C_11 N_11
  go_wp2_with fail
  refine (nodes_TT _ _ _ N_12.out).mono ?_
  rintro e w13 ⟨rfl, hb⟩
  have B_13 := Lib.hid (B_12.out.trans (hb.mono B_12.out.size))
  have C_13 := Lib.hid (Kd.C_below C_12.out hb)
  have N_13 := Lib.hid (Kd.C_below N_12.out hb)
  clear hb B_12 C_12 N_12
  clear N_13
  go_wp2_with fail
  refine (list_calls _ _).mono ?_
  rintro e wz ⟨rfl, rfl⟩
  have hl := lit_C w13 [5, 9, 12] #[.int .i64 5, .int .i64 9, .int .i64 12] rfl (by decide)
  obtain ⟨w14, hw14⟩ : ∃ W, W = w13.alloc (.cells #[.int .i64 5, .int .i64 9, .int .i64 12] 3) := ⟨_, rfl⟩
  have hb : Below w13.heap.size w13 w14 := by rw [hw14]; exact (Below.refl _ _).alloc (Nat.le_refl _) _
  have B_14 := Lib.hid (B_13.out.trans (hb.mono B_13.out.size))
  have C_14 := Lib.hid (Kd.C_below C_13.out hb)
  clear hb B_13 C_13
  rw [← hw14] at hl
  have L_14 := Lib.hid hl
  clear hl
  rw [← hw14]
  clear hw14
  go_wp2_with fail
  refine (same_calls (r := true) [5, 9, 12] [5, 9, 12] _ _ _ _ _ C_14.out hc3 L_14.out (by decide) (by decide) (by decide)).mono ?_
  rintro e wz ⟨rfl, nq, rfl⟩
  obtain ⟨w15, hw15⟩ : ∃ W, W = w14.drewN nq := ⟨_, rfl⟩
  have hb : Below w14.heap.size w14 w15 := by rw [hw15]; exact pw_below_drewN (Below.refl _ _) nq
  have B_15 := Lib.hid (B_14.out.trans (hb.mono B_14.out.size))
  have C_15 := Lib.hid (Kd.C_below C_14.out hb)
  have L_15 := Lib.hid (Kd.C_below L_14.out hb)
  clear hb B_14 C_14 L_14
  rw [← hw15]
  clear hw15
  clear C_15
  clear L_15
  go_wp2_with fail
  refine (H_calls _).mono ?_
  rintro e w16 ⟨⟨AN, cN, rfl, hcN, hN⟩, hb⟩
  have B_16 := Lib.hid (B_15.out.trans (hb.mono B_15.out.size))
  clear hb B_15
  have N_16 := Lib.hid hN
  clear hN
  go_wp2_with fail
  refine (None_calls _).mono ?_
  rintro e w17 ⟨rfl, hb⟩
  have B_17 := Lib.hid (B_16.out.trans (hb.mono B_16.out.size))
  have N_17 := Lib.hid (Kd.C_below N_16.out hb)
  clear hb B_16 N_16
  go_wp2_with fail
  refine (check_ex nd3 (by rw [H0_N]) _ _ _ N_17.out (e0 := 0)).mono ?_
  rintro e w18 ⟨rfl, hb⟩
  have B_18 := Lib.hid (B_17.out.trans (hb.mono B_17.out.size))
  have N_18 := Lib.hid (Kd.C_below N_17.out hb)
  clear hb B_17 N_17
  clear N_18
  go_wp2_with fail
  refine (H_calls _).mono ?_
  rintro e w19 ⟨⟨AN, cN, rfl, hcN, hN⟩, hb⟩
  have B_19 := Lib.hid (B_18.out.trans (hb.mono B_18.out.size))
  clear hb B_18
  have N_19 := Lib.hid hN
  clear hN
  go_wp2_with fail
  refine (check_ex nd1 (show (Sh.listed Sh.H0 1 3 3).2 = 2 by decide) _ _ _ N_19.out).mono ?_
  rintro e w20 ⟨rfl, hb⟩
  have B_20 := Lib.hid (B_19.out.trans (hb.mono B_19.out.size))
  have N_20 := Lib.hid (Kd.C_below N_19.out hb)
  clear hb B_19 N_19
  clear N_20
  go_wp2_with fail
  refine (H_calls _).mono ?_
  rintro e w21 ⟨⟨AN, cN, rfl, hcN, hN⟩, hb⟩
  have B_21 := Lib.hid (B_20.out.trans (hb.mono B_20.out.size))
  clear hb B_20
  have N_21 := Lib.hid hN
  clear hN
  go_wp2_with fail
  refine (S_calls _).mono ?_
  rintro e w22 ⟨rfl, hb⟩
  have B_22 := Lib.hid (B_21.out.trans (hb.mono B_21.out.size))
  have N_22 := Lib.hid (Kd.C_below N_21.out hb)
  clear hb B_21 N_21
  go_wp2_with fail
  refine (made_v (put_ex _ _ _ N_22.out) 3 (by decide)).mono ?_
  rintro e w23 ⟨⟨A10, q10, c10, r10, rfl, h10⟩, hb⟩
  have B_23 := Lib.hid (B_22.out.trans (hb.mono B_22.out.size))
  have N_23 := Lib.hid (Kd.C_below N_22.out hb)
  clear hb B_22 N_22
  have M_23 := Lib.hid h10
  clear h10
  clear N_23
  go_upto_region 8 with fail
  have hgw11 := Lib.hid (B_23.out.size)
  obtain ⟨w24, hw24⟩ : ∃ W, W = w23.alloc (.cells #[.int .i64 5, .int .i64 r10, .int .i64 3] 25) := ⟨_, rfl⟩
  have hb : Below w23.heap.size w23 w24 := by rw [hw24]; exact (Below.refl _ _).alloc (Nat.le_refl _) _
  have B_24 := Lib.hid (B_23.out.trans (hb.mono B_23.out.size))
  have M_24 := Lib.hid (M_23.out.below hb)
  clear hb B_23 M_23
  have X11_24 := Lib.hid (show w24.heap[w23.heap.size]? = some (.cells #[.int .i64 5, .int .i64 r10, .int .i64 3] 25 (0, 0)) by rw [hw24]; exact heap_alloc_new _ _)
  rw [← hw24]
  clear hw24
  obtain ⟨g11, hg11⟩ : ∃ g, g = w23.heap.size := ⟨_, rfl⟩
  rw [← hg11] at X11_24 hgw11  ⊢
  clear hg11
  go_upto_region 8 with fail
  go_cut [108] (fun sx wx => sx = .bool false ∧ Below w24.heap.size w24 wx)
  case first =>
    have hKK := ‹∀ (a' : Act) (w' : World), Met _ a' w' → _›
    refine reg8_ok ?hcd M_24.out X11_24.out (fun v0 v1 v2 v3 v4 v5 v6 v7 v8 v9 wx hB => hKK _ _ ?_)
    case hcd => kernel_rfl
    go_meet
    exact ⟨rfl, hB⟩
  case rest =>
    obtain ⟨rfl, hb⟩ := hcut
    clear M_24
    revert hb
    revert wc
    intro w25 hb
    have B_25 := Lib.hid (B_24.out.trans (hb.mono B_24.out.size))
    have X11_25 := Lib.hid (blk_below X11_24.out hb)
    clear hb B_24 X11_24
    go_wp2_with fail
    refine (H_calls _).mono ?_
    rintro e w26 ⟨⟨AN, cN, rfl, hcN, hN⟩, hb⟩
    have B_26 := Lib.hid (B_25.out.trans (hb.mono B_25.out.size))
    have X11_26 := Lib.hid (blk_below X11_25.out hb)
    clear hb B_25 X11_25
    have N_26 := Lib.hid hN
    clear hN
    go_wp2_with fail
    refine (A_calls _).mono ?_
    rintro e w27 ⟨rfl, hb⟩
    have B_27 := Lib.hid (B_26.out.trans (hb.mono B_26.out.size))
    have X11_27 := Lib.hid (blk_below X11_26.out hb)
    have N_27 := Lib.hid (Kd.C_below N_26.out hb)
    clear hb B_26 X11_26 N_26
    go_wp2_with fail
    refine (made_v (drop_ex _ _ _ N_27.out) 2 (by decide)).mono ?_
    rintro e w28 ⟨⟨A20, q20, c20, r20, rfl, h20⟩, hb⟩
    have B_28 := Lib.hid (B_27.out.trans (hb.mono B_27.out.size))
    have X11_28 := Lib.hid (blk_below X11_27.out hb)
    have N_28 := Lib.hid (Kd.C_below N_27.out hb)
    clear hb B_27 X11_27 N_27
    have M_28 := Lib.hid h20
    clear h20
    clear N_28
    obtain ⟨va29, vb29, w29, ⟨sa29, sb29, sc29⟩, ⟨ca29, cb29, cc29⟩, ⟨za29, zb29, zc29⟩, hw29⟩ := store3 X11_28.out 1 r20 2
    have B_29 := Lib.hid (show Below w.heap.size w w29 by rw [hw29]; exact below_setk B_28.out hgw11.out _ _ _)
    have X11_29 := Lib.hid (show w29.heap[g11]? = some (.cells #[.int .i64 1, .int .i64 r20, .int .i64 2] 25 (0, 0)) by rw [hw29]; exact blk_set (blk_set (blk_set X11_28.out 0 (.int .i64 1)) 1 (.int .i64 r20)) 2 (.int .i64 2))
    have M_29 := Lib.hid (M_28.out.set X11_28.out (.int .i64 1) (.int .i64 r20) (.int .i64 2))
    rw [← hw29] at M_29
    clear hw29 B_28 X11_28 M_28
    go_upto_region 11 with fail
    clear sa29 sb29 sc29 ca29 cb29 cc29 za29 zb29 zc29
    go_upto_region 11 with fail
    go_cut [126] (fun sx wx => sx = .bool false ∧ Below w29.heap.size w29 wx)
    case first =>
      have hKK := ‹∀ (a' : Act) (w' : World), Met _ a' w' → _›
      refine reg11_ok ?hcd M_29.out X11_29.out (fun v0 v1 v2 v3 v4 v5 v6 v7 v8 v9 wx hB => hKK _ _ ?_)
      case hcd => kernel_rfl
      go_meet
      exact ⟨rfl, hB⟩
    case rest =>
      obtain ⟨rfl, hb⟩ := hcut
      clear M_29
      revert hb
      revert wc
      intro w30 hb
      have B_30 := Lib.hid (B_29.out.trans (hb.mono B_29.out.size))
      have X11_30 := Lib.hid (blk_below X11_29.out hb)
      clear hb B_29 X11_29
      go_step
      go_step
      go_step
      go_step
      go_step
      refine works11_ok ?hcd B_30.out hgw11.out X11_30.out
      case hcd => kernel_rfl
end Go.Proofs.YtbfedeedicnedaaGreat
end
