/-
  Texts of this claim: ShD, ShE, ShF, ShI.
-/
import Derived.Test.YtbfedeedicnedaaGreatSj06
import Derived.StillTailTactics
set_option linter.unusedVariables false
set_option linter.unusedSimpArgs false
set_option maxHeartbeats 8000000
set_option maxRecDepth 100000
section
namespace Go.Proofs.YtbfedeedicnedaaGreat
open Go.RowKit
open Go.Proofs.YtbfedeedicnedaaGreatW.PrintWords
theorem tr_ok {H : Sh.Hp} {r lo hi t : Int} {l : List Int} (T : Sh.Tr H r lo hi l t) : r = -1 ∨ (0 ≤ r ∧ r < (H.length : Int) ∧ 2 ≤ (Sh.nd H r).1.length) := by
  rcases T.root with ⟨h, _⟩ | ⟨h0, h1, _, _⟩
  · exact .inl h
  · obtain ⟨x, a, b, la, lb, ha, hb, e, _⟩ := T.parts (by omega)
    exact .inr ⟨h0, h1, by rw [e]; exact Nat.le_refl 2⟩
theorem height_at {W : World} {H : Sh.Hp} {A : Option Addr} {c : Nat} (hC : Nodes W A H) {r lo hi t : Int} {l : List Int} (T : Sh.Tr H r lo hi l t) (n : Nat) :
    Calls Tryz.prog 113 #[.slice A H.length c, .int .i64 r] (W.drewN n) fun e w' => e = .returned (.int .i64 t) ∧ w' = W.drewN n := by
  rw [← T.height]
  exact height_calls A c H r _ (Kd.C_drewN hC n) (tr_ok T)
theorem parts_tr {base hb : Nat} {H : Sh.Hp} {w : World} (hH : HeapAt w base hb H) {r lo hi t : Int} {l : List Int} (T : Sh.Tr H r lo hi l t) (ht : 1 ≤ t) :
    Calls Tryz.prog 109 #[.pointer (some ⟨hb, 0, none⟩), .int .i64 r] w fun e w' => e = .returned (.tuple #[.int .i64 (Sh.lft H r), .int .i64 (Sh.elt H r), .int .i64 (Sh.rgt H r)]) ∧ HeapAt w' base hb H ∧ Below base w w' := by
  have hr : 0 ≤ r ∧ r < (H.length : Int) := by
    rcases T.root with ⟨h, _, h2⟩ | ⟨h0, h1, _, _⟩
    · omega
    · exact ⟨h0, h1⟩
  obtain ⟨x, a, b, la, lb, ha, hb', e, _⟩ := T.parts (by omega)
  refine (parts_calls base hb H r w hH hr.1 hr.2 (by rw [e]; show 1 ≤ 2; omega) (by rw [e]; exact Nat.le_refl 2)).mono ?_
  rintro e w' ⟨rfl, hB⟩
  exact ⟨rfl, hH.step hB, hB.mono (by have := hH.1; have := hH.lt; omega)⟩
theorem node_tr {base hb : Nat} {H : Sh.Hp} {w : World} (hH : HeapAt w base hb H) {a b x lo hi lo' hi' ha hb' : Int} {la lb : List Int} (ta : Sh.Tr H a lo hi la ha) (tb : Sh.Tr H b lo' hi' lb hb') (h1 : ha ≤ 100000) (h2 : hb' ≤ 100000) (hl : H.length ≤ 1000000) :
    Calls Tryz.prog 115 #[.pointer (some ⟨hb, 0, none⟩), .int .i64 a, .int .i64 x, .int .i64 b] w fun e w' => e = .returned (.int .i64 (Sh.node H a x b).2) ∧ HeapAt w' base hb (Sh.node H a x b).1 ∧ Below base w w' := by
  have := ta.nonneg
  have := tb.nonneg
  exact node_calls base hb H a x b w hH (tr_ok ta) (tr_ok tb) (by rw [ta.height]; omega) (by rw [ta.height]; omega) (by rw [tb.height]; omega) (by rw [tb.height]; omega) hl
theorem node_len (H : Sh.Hp) (a x b : Int) : (Sh.node H a x b).1.length = H.length + 1 := by unfold Sh.node; simp
theorem HeapAt.drewN {w : World} {base hb : Nat} {H : Sh.Hp} (h : HeapAt w base hb H) (n : Nat) : HeapAt (w.drewN n) base hb H := h.step (pw_below_drewN (Below.refl _ _) n)
theorem balance_calls {base hb : Nat} {H : Sh.Hp} {w : World} (hH : HeapAt w base hb H) {a b x lo hi ha hb' : Int} {la lb : List Int} (ta : Sh.Tr H a lo x la ha) (tb : Sh.Tr H b x hi lb hb') (hlo : lo < x) (hhi : x < hi) (h1 : ha ≤ hb' + 2) (h2 : hb' ≤ ha + 2) (h3 : ha ≤ 10000) (h4 : hb' ≤ 10000) (hl : H.length ≤ 900000) :
    Calls Tryz.prog 114 #[.pointer (some ⟨hb, 0, none⟩), .int .i64 a, .int .i64 x, .int .i64 b] w fun e w' => e = .returned (.int .i64 (Sh.balance H a x b).2) ∧ HeapAt w' base hb (Sh.balance H a x b).1 ∧ Below base w w' := by
  have na := ta.nonneg
  have nb := tb.nonneg
  have hleans := leans_calls ha hb'
  obtain ⟨A, c, hcell, hc, hC⟩ := hH.cell
  have hla := Lib.hid (fun n => height_at (c := c) hC ta n)
  have hlb := Lib.hid (fun n => height_at (c := c) hC tb n)
  have hHh := Lib.hid hH
  unfold Sh.balance
  rw [ta.height, tb.height]
  by_cases c1 : hb' + 1 < ha
  · rw [if_pos c1]
    obtain ⟨l1, l2, t1, t2, rfl, e1, q1, q2, T1, T2, q3, q4⟩ := Sh.open_at ta (by omega)
    have n1 := T1.nonneg
    have n2 := T2.nonneg
    rw [T1.height, T2.height]
    have hle := Lib.hid (fun (n : Nat) => show Calls Tryz.prog 112 #[.int .i64 ha, .int .i64 hb'] (w.drewN n) (fun e w' => e = .returned (.int .i64 0) ∧ w' = w.drewN n) by have := leans_calls ha hb' (w.drewN n) (by omega) (by omega) (by omega) (by omega); rwa [if_pos c1] at this)
    have hpa := Lib.hid (fun (W : World) (hW : HeapAt W base hb H) => parts_tr hW ta (by omega))
    by_cases c2 : t2 ≤ t1
    · rw [if_pos c2]
      have G1 := Sh.node_ok T2 tb (by omega) hhi (by omega) (by omega)
      have hn1 := Lib.hid (fun (W : World) (hW : HeapAt W base hb H) => node_tr (x := x) hW T2 tb (by omega) (by omega) (by omega))
      have hn2 := Lib.hid (fun (W : World) (hW : HeapAt W base hb (Sh.node H (Sh.rgt H a) x b).1) => node_tr (x := Sh.elt H a) hW (G1.at T1) G1.2 (by omega) (by omega) (by rw [node_len]; omega))
      have T1' := Lib.hid T1
      have T2' := Lib.hid T2
      clear T1 T2 ta tb G1 hleans hH e1 q1 q2 hlo hhi
      generalize Sh.rgt H a = r at *
      generalize Sh.lft H a = l at *
      generalize Sh.elt H a = y at *
      go_enter Tryz.func114, Tryz.ntmps114
      go_wp2
      go_quiet (first
        | (go_at_call 113; with_reducible exact Calls.quiet_of_same (hla.out _))
        | (go_at_call 113; with_reducible exact Calls.quiet_of_same (hlb.out _))
        | (go_at_call 112; with_reducible exact Calls.quiet_of_same (hle.out _)))
      go_wp2_with fail
      refine (hpa.out _ (hHh.out.drewN _)).mono ?_
      rintro e w1 ⟨rfl, hH1, hB1⟩
      replace hB1 := Lib.hid (Below.trans (pw_below_drewN (Below.refl base w) nq) hB1)
      clear hcell hC hla hlb hpa
      obtain ⟨A1, d1, hcell, _, hC⟩ := hH1.cell
      have hla := Lib.hid (fun n => height_at (c := d1) hC T1'.out n)
      have hlb := Lib.hid (fun n => height_at (c := d1) hC T2'.out n)
      replace hH1 := Lib.hid hH1
      clear hC
      go_wp2
      go_quiet (first
        | (go_at_call 113; with_reducible exact Calls.quiet_of_same (hla.out _))
        | (go_at_call 113; with_reducible exact Calls.quiet_of_same (hlb.out _)))
      go_wp2_with fail
      refine (hn1.out _ (hH1.out.drewN _)).mono ?_
      rintro e w2 ⟨rfl, hH2, hB2⟩
      replace hB2 := Lib.hid (Below.trans (pw_below_drewN hB1.out nq) hB2)
      replace hH2 := Lib.hid hH2
      clear hcell hla hlb
      go_wp2_with fail
      refine (hn2.out _ hH2.out).mono ?_
      rintro e w3 ⟨rfl, hH3, hB3⟩
      replace hB3 := Lib.hid (Below.trans hB2.out hB3)
      replace hH3 := Lib.hid hH3
      go_wp2
      go_ret
      exact ⟨rfl, hH3.out, hB3.out⟩
    · rw [if_neg c2]
      obtain ⟨l3, l4, t3, t4, rfl, e2, q5, q6, T3, T4, q7, q8⟩ := Sh.open_at T2 (by omega)
      have n3 := T3.nonneg
      have n4 := T4.nonneg
      have G1 := Sh.node_ok T1 T3 (by omega) (by omega) (by omega) (by omega)
      have G2 := Sh.node_ok (G1.at T4) (G1.at tb) (by omega) (by omega) (by omega) (by omega)
      have hpb := Lib.hid (fun (W : World) (hW : HeapAt W base hb H) => parts_tr hW T2 (by omega))
      have hn1 := Lib.hid (fun (W : World) (hW : HeapAt W base hb H) => node_tr (x := Sh.elt H a) hW T1 T3 (by omega) (by omega) (by omega))
      have hn2 := Lib.hid (fun (W : World) (hW : HeapAt W base hb (Sh.node H (Sh.lft H a) (Sh.elt H a) (Sh.lft H (Sh.rgt H a))).1) => node_tr (x := x) hW (G1.at T4) (G1.at tb) (by omega) (by omega) (by rw [node_len]; omega))
      have hn3 := Lib.hid (fun (W : World) (hW : HeapAt W base hb (Sh.node (Sh.node H (Sh.lft H a) (Sh.elt H a) (Sh.lft H (Sh.rgt H a))).1 (Sh.rgt H (Sh.rgt H a)) x b).1) => node_tr (x := Sh.elt H (Sh.rgt H a)) hW (G2.at G1.2) G2.2 (by omega) (by omega) (by rw [node_len, node_len]; omega))
      have T1' := Lib.hid T1
      have T2' := Lib.hid T2
      clear T1 T2 T3 T4 ta tb G1 G2 hleans hH e1 q1 q2 hlo hhi
      dsimp only
      generalize Sh.lft H (Sh.rgt H a) = rl at *
      generalize Sh.rgt H (Sh.rgt H a) = rr at *
      generalize Sh.elt H (Sh.rgt H a) = ry at *
      generalize Sh.rgt H a = r at *
      generalize Sh.lft H a = l at *
      generalize Sh.elt H a = y at *
      go_enter Tryz.func114, Tryz.ntmps114
      go_wp2
      go_quiet (first
        | (go_at_call 113; with_reducible exact Calls.quiet_of_same (hla.out _))
        | (go_at_call 113; with_reducible exact Calls.quiet_of_same (hlb.out _))
        | (go_at_call 112; with_reducible exact Calls.quiet_of_same (hle.out _)))
      go_wp2_with fail
      refine (hpa.out _ (hHh.out.drewN _)).mono ?_
      rintro e w1 ⟨rfl, hH1, hB1⟩
      replace hB1 := Lib.hid (Below.trans (pw_below_drewN (Below.refl base w) nq) hB1)
      clear hcell hC hla hlb hpa
      obtain ⟨A1, d1, hcell, _, hC⟩ := hH1.cell
      have hla := Lib.hid (fun n => height_at (c := d1) hC T1'.out n)
      have hlb := Lib.hid (fun n => height_at (c := d1) hC T2'.out n)
      replace hH1 := Lib.hid hH1
      clear hC
      go_wp2
      go_quiet (first
        | (go_at_call 113; with_reducible exact Calls.quiet_of_same (hla.out _))
        | (go_at_call 113; with_reducible exact Calls.quiet_of_same (hlb.out _)))
      go_wp2_with fail
      refine (hpb.out _ (hH1.out.drewN _)).mono ?_
      rintro e w1b ⟨rfl, hH1b, hB1b⟩
      replace hB1b := Lib.hid (Below.trans (pw_below_drewN hB1.out nq) hB1b)
      replace hH1b := Lib.hid hH1b
      clear hcell hla hlb
      go_wp2_with fail
      refine (hn1.out _ hH1b.out).mono ?_
      rintro e w2 ⟨rfl, hH2, hB2⟩
      replace hB2 := Lib.hid (Below.trans hB1b.out hB2)
      replace hH2 := Lib.hid hH2
      go_wp2_with fail
      refine (hn2.out _ hH2.out).mono ?_
      rintro e w3 ⟨rfl, hH3, hB3⟩
      replace hB3 := Lib.hid (Below.trans hB2.out hB3)
      replace hH3 := Lib.hid hH3
      go_wp2_with fail
      refine (hn3.out _ hH3.out).mono ?_
      rintro e w4 ⟨rfl, hH4, hB4⟩
      replace hB4 := Lib.hid (Below.trans hB3.out hB4)
      replace hH4 := Lib.hid hH4
      go_wp2
      go_ret
      exact ⟨rfl, hH4.out, hB4.out⟩
  · rw [if_neg c1]
    by_cases c3 : ha + 1 < hb'
    · rw [if_pos c3]
      obtain ⟨l1, l2, t1, t2, rfl, e1, q1, q2, T1, T2, q3, q4⟩ := Sh.open_at tb (by omega)
      have n1 := T1.nonneg
      have n2 := T2.nonneg
      rw [T1.height, T2.height]
      have hle := Lib.hid (fun (n : Nat) => show Calls Tryz.prog 112 #[.int .i64 ha, .int .i64 hb'] (w.drewN n) (fun e w' => e = .returned (.int .i64 2) ∧ w' = w.drewN n) by have := leans_calls ha hb' (w.drewN n) (by omega) (by omega) (by omega) (by omega); rwa [if_neg c1, if_pos c3] at this)
      have hpa := Lib.hid (fun (W : World) (hW : HeapAt W base hb H) => parts_tr hW tb (by omega))
      by_cases c2 : t1 ≤ t2
      · rw [if_pos c2]
        have G1 := Sh.node_ok ta T1 (by omega) (by omega) (by omega) (by omega)
        have hn1 := Lib.hid (fun (W : World) (hW : HeapAt W base hb H) => node_tr (x := x) hW ta T1 (by omega) (by omega) (by omega))
        have hn2 := Lib.hid (fun (W : World) (hW : HeapAt W base hb (Sh.node H a x (Sh.lft H b)).1) => node_tr (x := Sh.elt H b) hW G1.2 (G1.at T2) (by omega) (by omega) (by rw [node_len]; omega))
        have T1' := Lib.hid T1
        have T2' := Lib.hid T2
        clear T1 T2 ta tb G1 hleans hH e1 q1 q2 hlo hhi
        generalize Sh.rgt H b = r at *
        generalize Sh.lft H b = l at *
        generalize Sh.elt H b = y at *
        go_enter Tryz.func114, Tryz.ntmps114
        go_wp2
        go_quiet (first
          | (go_at_call 113; with_reducible exact Calls.quiet_of_same (hla.out _))
          | (go_at_call 113; with_reducible exact Calls.quiet_of_same (hlb.out _))
          | (go_at_call 112; with_reducible exact Calls.quiet_of_same (hle.out _)))
        go_wp2_with fail
        refine (hpa.out _ (hHh.out.drewN _)).mono ?_
        rintro e w1 ⟨rfl, hH1, hB1⟩
        replace hB1 := Lib.hid (Below.trans (pw_below_drewN (Below.refl base w) nq) hB1)
        clear hcell hC hla hlb hpa
        obtain ⟨A1, d1, hcell, _, hC⟩ := hH1.cell
        have hla := Lib.hid (fun n => height_at (c := d1) hC T1'.out n)
        have hlb := Lib.hid (fun n => height_at (c := d1) hC T2'.out n)
        replace hH1 := Lib.hid hH1
        clear hC
        go_wp2
        go_quiet (first
          | (go_at_call 113; with_reducible exact Calls.quiet_of_same (hla.out _))
          | (go_at_call 113; with_reducible exact Calls.quiet_of_same (hlb.out _)))
        go_wp2_with fail
        refine (hn1.out _ (hH1.out.drewN _)).mono ?_
        rintro e w2 ⟨rfl, hH2, hB2⟩
        replace hB2 := Lib.hid (Below.trans (pw_below_drewN hB1.out nq) hB2)
        replace hH2 := Lib.hid hH2
        clear hcell hla hlb
        go_wp2_with fail
        refine (hn2.out _ hH2.out).mono ?_
        rintro e w3 ⟨rfl, hH3, hB3⟩
        replace hB3 := Lib.hid (Below.trans hB2.out hB3)
        replace hH3 := Lib.hid hH3
        go_wp2
        go_ret
        exact ⟨rfl, hH3.out, hB3.out⟩
      · rw [if_neg c2]
        obtain ⟨l3, l4, t3, t4, rfl, e2, q5, q6, T3, T4, q7, q8⟩ := Sh.open_at T1 (by omega)
        have n3 := T3.nonneg
        have n4 := T4.nonneg
        have G1 := Sh.node_ok ta T3 (by omega) (by omega) (by omega) (by omega)
        have G2 := Sh.node_ok (G1.at T4) (G1.at T2) (by omega) (by omega) (by omega) (by omega)
        have hpb := Lib.hid (fun (W : World) (hW : HeapAt W base hb H) => parts_tr hW T1 (by omega))
        have hn1 := Lib.hid (fun (W : World) (hW : HeapAt W base hb H) => node_tr (x := x) hW ta T3 (by omega) (by omega) (by omega))
        have hn2 := Lib.hid (fun (W : World) (hW : HeapAt W base hb (Sh.node H a x (Sh.lft H (Sh.lft H b))).1) => node_tr (x := Sh.elt H b) hW (G1.at T4) (G1.at T2) (by omega) (by omega) (by rw [node_len]; omega))
        have hn3 := Lib.hid (fun (W : World) (hW : HeapAt W base hb (Sh.node (Sh.node H a x (Sh.lft H (Sh.lft H b))).1 (Sh.rgt H (Sh.lft H b)) (Sh.elt H b) (Sh.rgt H b)).1) => node_tr (x := Sh.elt H (Sh.lft H b)) hW (G2.at G1.2) G2.2 (by omega) (by omega) (by rw [node_len, node_len]; omega))
        have T1' := Lib.hid T1
        have T2' := Lib.hid T2
        clear T1 T2 T3 T4 ta tb G1 G2 hleans hH e1 q1 q2 hlo hhi
        dsimp only
        generalize Sh.lft H (Sh.lft H b) = rl at *
        generalize Sh.rgt H (Sh.lft H b) = rr at *
        generalize Sh.elt H (Sh.lft H b) = ry at *
        generalize Sh.rgt H b = r at *
        generalize Sh.lft H b = l at *
        generalize Sh.elt H b = y at *
        go_enter Tryz.func114, Tryz.ntmps114
        go_wp2
        go_quiet (first
          | (go_at_call 113; with_reducible exact Calls.quiet_of_same (hla.out _))
          | (go_at_call 113; with_reducible exact Calls.quiet_of_same (hlb.out _))
          | (go_at_call 112; with_reducible exact Calls.quiet_of_same (hle.out _)))
        go_wp2_with fail
        refine (hpa.out _ (hHh.out.drewN _)).mono ?_
        rintro e w1 ⟨rfl, hH1, hB1⟩
        replace hB1 := Lib.hid (Below.trans (pw_below_drewN (Below.refl base w) nq) hB1)
        clear hcell hC hla hlb hpa
        obtain ⟨A1, d1, hcell, _, hC⟩ := hH1.cell
        have hla := Lib.hid (fun n => height_at (c := d1) hC T1'.out n)
        have hlb := Lib.hid (fun n => height_at (c := d1) hC T2'.out n)
        replace hH1 := Lib.hid hH1
        clear hC
        go_wp2
        go_quiet (first
          | (go_at_call 113; with_reducible exact Calls.quiet_of_same (hla.out _))
          | (go_at_call 113; with_reducible exact Calls.quiet_of_same (hlb.out _)))
        go_wp2_with fail
        refine (hpb.out _ (hH1.out.drewN _)).mono ?_
        rintro e w1b ⟨rfl, hH1b, hB1b⟩
        replace hB1b := Lib.hid (Below.trans (pw_below_drewN hB1.out nq) hB1b)
        replace hH1b := Lib.hid hH1b
        clear hcell hla hlb
        go_wp2_with fail
        refine (hn1.out _ hH1b.out).mono ?_
        rintro e w2 ⟨rfl, hH2, hB2⟩
        replace hB2 := Lib.hid (Below.trans hB1b.out hB2)
        replace hH2 := Lib.hid hH2
        go_wp2_with fail
        refine (hn2.out _ hH2.out).mono ?_
        rintro e w3 ⟨rfl, hH3, hB3⟩
        replace hB3 := Lib.hid (Below.trans hB2.out hB3)
        replace hH3 := Lib.hid hH3
        go_wp2_with fail
        refine (hn3.out _ hH3.out).mono ?_
        rintro e w4 ⟨rfl, hH4, hB4⟩
        replace hB4 := Lib.hid (Below.trans hB3.out hB4)
        replace hH4 := Lib.hid hH4
        go_wp2
        go_ret
        exact ⟨rfl, hH4.out, hB4.out⟩
    · rw [if_neg c3]
      have hle := Lib.hid (fun (n : Nat) => show Calls Tryz.prog 112 #[.int .i64 ha, .int .i64 hb'] (w.drewN n) (fun e w' => e = .returned (.int .i64 1) ∧ w' = w.drewN n) by have := leans_calls ha hb' (w.drewN n) (by omega) (by omega) (by omega) (by omega); rwa [if_neg c1, if_neg c3] at this)
      have hn1 := Lib.hid (fun (W : World) (hW : HeapAt W base hb H) => node_tr (x := x) hW ta tb (by omega) (by omega) (by omega))
      clear ta tb hleans hH hlo hhi
      go_enter Tryz.func114, Tryz.ntmps114
      go_wp2
      go_quiet (first
        | (go_at_call 113; with_reducible exact Calls.quiet_of_same (hla.out _))
        | (go_at_call 113; with_reducible exact Calls.quiet_of_same (hlb.out _))
        | (go_at_call 112; with_reducible exact Calls.quiet_of_same (hle.out _)))
      go_wp2_with fail
      refine (hn1.out _ (hHh.out.drewN _)).mono ?_
      rintro e w1 ⟨rfl, hH1, hB1⟩
      replace hB1 := Lib.hid (Below.trans (pw_below_drewN (Below.refl base w) nq) hB1)
      replace hH1 := Lib.hid hH1
      go_wp2
      go_ret
      exact ⟨rfl, hH1.out, hB1.out⟩
end Go.Proofs.YtbfedeedicnedaaGreat
end
section
namespace Go.Proofs.YtbfedeedicnedaaGreat
open Go.RowKit
open Go.Proofs.YtbfedeedicnedaaGreatW.PrintWords
theorem join_calls (base hb : Nat) : ∀ (g : Nat) (H : Sh.Hp) (w : World), HeapAt w base hb H → ∀ (a b x lo hi ha hb' : Int) (la lb : List Int), Sh.Tr H a lo x la ha → Sh.Tr H b x hi lb hb' → lo < x → x < hi → (ha - hb').natAbs < g → ha ≤ 5000 → hb' ≤ 5000 → H.length + 3 * (ha - hb').natAbs ≤ 800000 →
    Calls Tryz.prog 90 #[.agg #[], .pointer (some ⟨hb, 0, none⟩), .int .i64 a, .int .i64 x, .int .i64 b] w fun e w' => e = .returned (.int .i64 (Sh.join g H a x b).2) ∧ HeapAt w' base hb (Sh.join g H a x b).1 ∧ Below base w w' := by
  intro g
  induction g with
  | zero => intro H w _ a b x lo hi ha hb' la lb _ _ _ _ h; omega
  | succ g ih =>
    intro H w hH a b x lo hi ha hb' la lb ta tb hlo hhi hg h3 h4 hl
    have na := ta.nonneg
    have nb := tb.nonneg
    have hH0 := hH.step (w1 := w.alloc (.cells #[] 119)) ((Below.refl _ _).alloc (Nat.le_refl _) _)
    have hB0 := Lib.hid (show Below base w (w.alloc (.cells #[] 119)) from (Below.refl _ _).alloc (by have := hH.1; have := hH.lt; omega) _)
    obtain ⟨A, c, hcell, hc, hC⟩ := hH0.cell
    have hla := Lib.hid (fun n => height_at (c := c) hC ta n)
    have hlb := Lib.hid (fun n => height_at (c := c) hC tb n)
    have hHh := Lib.hid hH0
    have hleans := leans_calls ha hb'
    unfold Sh.join
    rw [ta.height, tb.height]
    by_cases c1 : hb' + 1 < ha
    · rw [if_pos c1]
      obtain ⟨l1, l2, t1, t2, rfl, e1, q1, q2, T1, T2, q3, q4⟩ := Sh.open_at ta (by omega)
      have n1 := T1.nonneg
      have n2 := T2.nonneg
      have hle := Lib.hid (fun (n : Nat) => show Calls Tryz.prog 112 #[.int .i64 ha, .int .i64 hb'] ((w.alloc (.cells #[] 119)).drewN n) (fun e w' => e = .returned (.int .i64 0) ∧ w' = (w.alloc (.cells #[] 119)).drewN n) by have := leans_calls ha hb' ((w.alloc (.cells #[] 119)).drewN n) (by omega) (by omega) (by omega) (by omega); rwa [if_pos c1] at this)
      have hpa := Lib.hid (fun (W : World) (hW : HeapAt W base hb H) => parts_tr hW ta (by omega))
      obtain ⟨t, G, g1, g2⟩ := Sh.join_ok g T2 tb q2 hhi (by omega)
      have hj := Lib.hid (fun (W : World) (hW : HeapAt W base hb H) => ih H W hW _ _ _ _ _ _ _ _ _ T2 tb q2 hhi (by omega) (by omega) h4 (by omega))
      have hlen : (Sh.join g H (Sh.rgt H a) x b).1.length ≤ 800000 := by
        obtain ⟨e, he, hel⟩ := G.1
        rw [he, List.length_append]
        omega
      have hbal := Lib.hid (fun (W : World) (hW : HeapAt W base hb (Sh.join g H (Sh.rgt H a) x b).1) => balance_calls hW (G.at T1) G.2 q1 (by omega) (by omega) (by omega) (by omega) (by omega) (by omega))
      clear G ta tb T1 T2 ih hleans hH hH0 hC hlo hhi hlen e1 q1 q2
      generalize Sh.join g H (Sh.rgt H a) x b = J at *
      generalize Sh.rgt H a = r at *
      generalize Sh.lft H a = l at *
      generalize Sh.elt H a = y at *
      go_enter Tryz.func90, Tryz.ntmps90
      go_wp2
      go_quiet (first
        | (go_at_call 113; with_reducible exact Calls.quiet_of_same (hla.out _))
        | (go_at_call 113; with_reducible exact Calls.quiet_of_same (hlb.out _))
        | (go_at_call 112; with_reducible exact Calls.quiet_of_same (hle.out _)))
      go_wp2_with fail
      refine (hpa.out _ (hHh.out.drewN _)).mono ?_
      rintro e w1 ⟨rfl, hH1, hB1⟩
      replace hB1 := Lib.hid (Below.trans (pw_below_drewN hB0.out nq) hB1)
      replace hH1 := Lib.hid hH1
      clear hcell hla hlb hpa hle
      go_wp2_with fail
      refine (hj.out _ hH1.out).mono ?_
      rintro e w2 ⟨rfl, hH2, hB2⟩
      replace hB2 := Lib.hid (Below.trans hB1.out hB2)
      replace hH2 := Lib.hid hH2
      go_wp2_with fail
      refine (hbal.out _ hH2.out).mono ?_
      rintro e w3 ⟨rfl, hH3, hB3⟩
      replace hB3 := Lib.hid (Below.trans hB2.out hB3)
      replace hH3 := Lib.hid hH3
      go_wp2
      go_ret
      exact ⟨rfl, hH3.out, hB3.out⟩
    · rw [if_neg c1]
      by_cases c3 : ha + 1 < hb'
      · rw [if_pos c3]
        obtain ⟨l1, l2, t1, t2, rfl, e1, q1, q2, T1, T2, q3, q4⟩ := Sh.open_at tb (by omega)
        have n1 := T1.nonneg
        have n2 := T2.nonneg
        have hle := Lib.hid (fun (n : Nat) => show Calls Tryz.prog 112 #[.int .i64 ha, .int .i64 hb'] ((w.alloc (.cells #[] 119)).drewN n) (fun e w' => e = .returned (.int .i64 2) ∧ w' = (w.alloc (.cells #[] 119)).drewN n) by have := leans_calls ha hb' ((w.alloc (.cells #[] 119)).drewN n) (by omega) (by omega) (by omega) (by omega); rwa [if_neg c1, if_pos c3] at this)
        have hpa := Lib.hid (fun (W : World) (hW : HeapAt W base hb H) => parts_tr hW tb (by omega))
        obtain ⟨t, G, g1, g2⟩ := Sh.join_ok g ta T1 hlo q1 (by omega)
        have hj := Lib.hid (fun (W : World) (hW : HeapAt W base hb H) => ih H W hW _ _ _ _ _ _ _ _ _ ta T1 hlo q1 (by omega) (by omega) (by omega) (by omega))
        have hlen : (Sh.join g H a x (Sh.lft H b)).1.length ≤ 800000 := by
          obtain ⟨e, he, hel⟩ := G.1
          rw [he, List.length_append]
          omega
        have hbal := Lib.hid (fun (W : World) (hW : HeapAt W base hb (Sh.join g H a x (Sh.lft H b)).1) => balance_calls hW G.2 (G.at T2) (by omega) q2 (by omega) (by omega) (by omega) (by omega) (by omega))
        clear G ta tb T1 T2 ih hleans hH hH0 hC hlo hhi hlen e1 q1 q2
        generalize Sh.join g H a x (Sh.lft H b) = J at *
        generalize Sh.rgt H b = r at *
        generalize Sh.lft H b = l at *
        generalize Sh.elt H b = y at *
        go_enter Tryz.func90, Tryz.ntmps90
        go_wp2
        go_quiet (first
          | (go_at_call 113; with_reducible exact Calls.quiet_of_same (hla.out _))
          | (go_at_call 113; with_reducible exact Calls.quiet_of_same (hlb.out _))
          | (go_at_call 112; with_reducible exact Calls.quiet_of_same (hle.out _)))
        go_wp2_with fail
        refine (hpa.out _ (hHh.out.drewN _)).mono ?_
        rintro e w1 ⟨rfl, hH1, hB1⟩
        replace hB1 := Lib.hid (Below.trans (pw_below_drewN hB0.out nq) hB1)
        replace hH1 := Lib.hid hH1
        clear hcell hla hlb hpa hle
        go_wp2_with fail
        refine (hj.out _ hH1.out).mono ?_
        rintro e w2 ⟨rfl, hH2, hB2⟩
        replace hB2 := Lib.hid (Below.trans hB1.out hB2)
        replace hH2 := Lib.hid hH2
        go_wp2_with fail
        refine (hbal.out _ hH2.out).mono ?_
        rintro e w3 ⟨rfl, hH3, hB3⟩
        replace hB3 := Lib.hid (Below.trans hB2.out hB3)
        replace hH3 := Lib.hid hH3
        go_wp2
        go_ret
        exact ⟨rfl, hH3.out, hB3.out⟩
      · rw [if_neg c3]
        have hle := Lib.hid (fun (n : Nat) => show Calls Tryz.prog 112 #[.int .i64 ha, .int .i64 hb'] ((w.alloc (.cells #[] 119)).drewN n) (fun e w' => e = .returned (.int .i64 1) ∧ w' = (w.alloc (.cells #[] 119)).drewN n) by have := leans_calls ha hb' ((w.alloc (.cells #[] 119)).drewN n) (by omega) (by omega) (by omega) (by omega); rwa [if_neg c1, if_neg c3] at this)
        have hn1 := Lib.hid (fun (W : World) (hW : HeapAt W base hb H) => node_tr (x := x) hW ta tb (by omega) (by omega) (by omega))
        clear ta tb ih hleans hH hH0 hC hlo hhi
        go_enter Tryz.func90, Tryz.ntmps90
        go_wp2
        go_quiet (first
          | (go_at_call 113; with_reducible exact Calls.quiet_of_same (hla.out _))
          | (go_at_call 113; with_reducible exact Calls.quiet_of_same (hlb.out _))
          | (go_at_call 112; with_reducible exact Calls.quiet_of_same (hle.out _)))
        go_wp2_with fail
        refine (hn1.out _ (hHh.out.drewN _)).mono ?_
        rintro e w1 ⟨rfl, hH1, hB1⟩
        replace hB1 := Lib.hid (Below.trans (pw_below_drewN hB0.out nq) hB1)
        replace hH1 := Lib.hid hH1
        go_wp2
        go_ret
        exact ⟨rfl, hH1.out, hB1.out⟩
theorem split_calls (base hb : Nat) : ∀ (g : Nat) (H : Sh.Hp) (w : World), HeapAt w base hb H → ∀ (r lo hi t : Int) (l : List Int) (x : Int), Sh.Tr H r lo hi l t → t < g → t ≤ 1000 → H.length ≤ 600000 →
    Calls Tryz.prog 88 #[.agg #[], .pointer (some ⟨hb, 0, none⟩), .int .i64 r, .int .i64 x] w fun e w' => e = .returned (.tuple #[.int .i64 (Sh.split g H r x).2.1, .int .i64 (Sh.split g H r x).2.2]) ∧ HeapAt w' base hb (Sh.split g H r x).1 ∧ Below base w w' := by
  intro g
  induction g with
  | zero => intro H w _ r lo hi t l x T h; have := T.nonneg; omega
  | succ g ih =>
    intro H w hH r lo hi t l x T hg ht hl
    have nt := T.nonneg
    have hH0 := hH.step (w1 := w.alloc (.cells #[] 119)) ((Below.refl _ _).alloc (Nat.le_refl _) _)
    have hB0 := Lib.hid (show Below base w (w.alloc (.cells #[] 119)) from (Below.refl _ _).alloc (by have := hH.1; have := hH.lt; omega) _)
    obtain ⟨A, c, hcell, hc, hC⟩ := hH0.cell
    have hHh := Lib.hid hH0
    unfold Sh.split
    by_cases hr : r = -1
    · rw [if_pos hr]
      subst hr
      go_enter Tryz.func88, Tryz.ntmps88
      go_wp2
      go_ret2
      exact ⟨rfl, hHh.out, hB0.out⟩
    · rw [if_neg hr]
      have ht1 : 1 ≤ t := by
        rcases T.root with ⟨h0, _⟩ | ⟨_, _, _, h1⟩
        · exact absurd h0 hr
        · exact h1
      have hpa := Lib.hid (fun (W : World) (hW : HeapAt W base hb H) => parts_tr hW T ht1)
      obtain ⟨la, lb, ha, hb', rfl, e1, q1, q2, Ta, Tb, q3, q4⟩ := Sh.open_at T ht1
      have na := Ta.nonneg
      have nb := Tb.nonneg
      clear hcell
      by_cases c1 : x = Sh.elt H r
      · rw [if_pos c1]
        clear Ta Tb T ih hH hH0 hC q1 q2 e1
        subst c1
        generalize Sh.rgt H r = rr at *
        generalize Sh.lft H r = ll at *
        generalize Sh.elt H r = y at *
        go_enter Tryz.func88, Tryz.ntmps88
        go_wp2_with fail
        refine (hpa.out _ hHh.out).mono ?_
        rintro e w1 ⟨rfl, hH1, hB1⟩
        replace hB1 := Lib.hid (Below.trans hB0.out hB1)
        replace hH1 := Lib.hid hH1
        go_wp2
        go_ret2
        exact ⟨rfl, hH1.out, hB1.out⟩
      · rw [if_neg c1]
        by_cases c2 : x < Sh.elt H r
        ·
          rw [if_pos c2]
          obtain ⟨e, t1, t2, he, T1, T2, g1, g2, g3⟩ := Sh.split_ok g x Ta (by omega) (by omega)
          have n1 := T1.nonneg
          have n2 := T2.nonneg
          have Tb' : Sh.Tr (Sh.split g H (Sh.lft H r) x).1 (Sh.rgt H r) (Sh.elt H r) hi lb hb' := by rw [he]; exact Tb.mono e
          have hlen : (Sh.split g H (Sh.lft H r) x).1.length ≤ 700000 := by
            rw [he, List.length_append]
            omega
          have hs := Lib.hid (fun (W : World) (hW : HeapAt W base hb H) => ih H W hW _ _ _ _ _ x Ta (by omega) (by omega) (by omega))
          have hj := Lib.hid (fun (W : World) (hW : HeapAt W base hb (Sh.split g H (Sh.lft H r) x).1) => join_calls base hb 2000 _ W hW _ _ _ _ _ _ _ _ _ T2 Tb' q1 q2 (by omega) (by omega) (by omega) (by omega))
          clear he T1 T2 Ta Tb T ih hH hH0 hC q1 q2 e1 hlen g1 g2 g3 
          clear Tb'
          dsimp only
          generalize Sh.split g H (Sh.lft H r) x = S at *
          generalize Sh.rgt H r = rr at *
          generalize Sh.lft H r = ll at *
          generalize Sh.elt H r = y at *
          go_enter Tryz.func88, Tryz.ntmps88
          go_wp2_with fail
          refine (hpa.out _ hHh.out).mono ?_
          rintro e w1 ⟨rfl, hH1, hB1⟩
          replace hB1 := Lib.hid (Below.trans hB0.out hB1)
          replace hH1 := Lib.hid hH1
          go_wp2_with fail
          refine (hs.out _ hH1.out).mono ?_
          rintro e w2 ⟨rfl, hH2, hB2⟩
          replace hB2 := Lib.hid (Below.trans hB1.out hB2)
          replace hH2 := Lib.hid hH2
          go_wp2_with fail
          refine (hj.out _ hH2.out).mono ?_
          rintro e w3 ⟨rfl, hH3, hB3⟩
          replace hB3 := Lib.hid (Below.trans hB2.out hB3)
          replace hH3 := Lib.hid hH3
          go_wp2
          go_ret2
          exact ⟨rfl, hH3.out, hB3.out⟩
        ·
          rw [if_neg c2]
          obtain ⟨e, t1, t2, he, T1, T2, g1, g2, g3⟩ := Sh.split_ok g x Tb (by omega) (by omega)
          have n1 := T1.nonneg
          have n2 := T2.nonneg
          have Ta' : Sh.Tr (Sh.split g H (Sh.rgt H r) x).1 (Sh.lft H r) lo (Sh.elt H r) la ha := by rw [he]; exact Ta.mono e
          have hlen : (Sh.split g H (Sh.rgt H r) x).1.length ≤ 700000 := by
            rw [he, List.length_append]
            omega
          have hs := Lib.hid (fun (W : World) (hW : HeapAt W base hb H) => ih H W hW _ _ _ _ _ x Tb (by omega) (by omega) (by omega))
          have hj := Lib.hid (fun (W : World) (hW : HeapAt W base hb (Sh.split g H (Sh.rgt H r) x).1) => join_calls base hb 2000 _ W hW _ _ _ _ _ _ _ _ _ Ta' T1 q1 q2 (by omega) (by omega) (by omega) (by omega))
          clear he T1 T2 Ta Tb T ih hH hH0 hC q1 q2 e1 hlen g1 g2 g3 
          clear Ta'
          dsimp only
          generalize Sh.split g H (Sh.rgt H r) x = S at *
          generalize Sh.rgt H r = rr at *
          generalize Sh.lft H r = ll at *
          generalize Sh.elt H r = y at *
          go_enter Tryz.func88, Tryz.ntmps88
          go_wp2_with fail
          refine (hpa.out _ hHh.out).mono ?_
          rintro e w1 ⟨rfl, hH1, hB1⟩
          replace hB1 := Lib.hid (Below.trans hB0.out hB1)
          replace hH1 := Lib.hid hH1
          go_wp2_with fail
          refine (hs.out _ hH1.out).mono ?_
          rintro e w2 ⟨rfl, hH2, hB2⟩
          replace hB2 := Lib.hid (Below.trans hB1.out hB2)
          replace hH2 := Lib.hid hH2
          go_wp2_with fail
          refine (hj.out _ hH2.out).mono ?_
          rintro e w3 ⟨rfl, hH3, hB3⟩
          replace hB3 := Lib.hid (Below.trans hB2.out hB3)
          replace hH3 := Lib.hid hH3
          go_wp2
          go_ret2
          exact ⟨rfl, hH3.out, hB3.out⟩
end Go.Proofs.YtbfedeedicnedaaGreat
end
section
namespace Go.Proofs.YtbfedeedicnedaaGreat
open Go.RowKit
open Go.Proofs.YtbfedeedicnedaaGreatW.PrintWords
def Low (w : World) (base : Nat) (A : Option Addr) (l : List Int) : Prop := ∀ W, Below base w W → Kd.C kI W A l.length l
theorem Low.step {w w1 : World} {base : Nat} {A : Option Addr} {l : List Int} (h : Low w base A l) (hB : Below base w w1) : Low w1 base A l := fun W hW => h W (hB.trans hW)
theorem Low.now {w : World} {base : Nat} {A : Option Addr} {l : List Int} (h : Low w base A l) : Kd.C kI w A l.length l := h w (Below.refl _ _)
theorem int_info : ∃ i, Tryz.prog.info? 3 = some i ∧ i.size = 1 := by
  obtain ⟨i, hi, hz⟩ := Option.map_eq_some_iff.1 PAll.info3
  simp only [Prod.mk.injEq] at hz
  exact ⟨i, hi, hz.2.1⟩
theorem take_at (A : Option Addr) (c : Nat) (l : List Int) (k : Nat) (hk : k ≤ l.length) (hc : l.length ≤ c) :
    (∀ W : World, (Instr.slice 28 (.slice A l.length c) none (some (.int .i64 k)) none).run Tryz.prog W = .ok (.slice A (l.take k).length c) W) ∧
    (∀ w : World, Kd.C kI w A l.length l → Kd.C kI w A (l.take k).length (l.take k)) ∧ (l.take k).length ≤ c := by
  obtain ⟨i, hi, hz⟩ := int_info
  obtain ⟨h1, h2, h3⟩ := print_take_of (P := Tryz.prog) (Value.int .i64) (0 : Int) 28 3 .i64 (by kernel_rfl) hi hz A c l k (by omega) (by omega) hc
  rw [Int.toNat_natCast] at h1 h2 h3
  exact ⟨h1, fun w h => Kd.C_of_reads (h2 w (Kd.reads_of_C h)), h3⟩
theorem drop_at (A : Option Addr) (c : Nat) (l : List Int) (k : Nat) (hk : k ≤ l.length) (hc : l.length ≤ c) :
    ∃ A', (∀ W : World, (Instr.slice 28 (.slice A l.length c) (some (.int .i64 k)) none none).run Tryz.prog W = .ok (.slice A' (l.drop k).length (c - k)) W) ∧
    (∀ w : World, Kd.C kI w A l.length l → Kd.C kI w A' (l.drop k).length (l.drop k)) ∧ (l.drop k).length ≤ c - k := by
  obtain ⟨i, hi, hz⟩ := int_info
  obtain ⟨A', h1, h2, h3⟩ := print_drop_of (P := Tryz.prog) (Value.int .i64) (0 : Int) 28 3 .i64 (by kernel_rfl) hi hz A c l k (by omega) (by omega) hc
  rw [Int.toNat_natCast] at h1 h2 h3
  exact ⟨A', h1, fun w h => Kd.C_of_reads (h2 w (Kd.reads_of_C h)), h3⟩
theorem tlay_calls (base hb : Nat) : ∀ (g : Nat) (H : Sh.Hp) (w : World), HeapAt w base hb H → ∀ (l : List Int) (A : Option Addr) (c : Nat) (lo hi : Int), Low w base A l → l.length ≤ c → l.length ≤ g → g ≤ 10000 → l.Pairwise (· < ·) → (∀ y ∈ l, lo < y ∧ y < hi) → H.length + 2 * l.length ≤ 500000 →
    Calls Tryz.prog 154 #[.agg #[], .pointer (some ⟨hb, 0, none⟩), .slice A l.length c] w fun e w' => e = .returned (.int .i64 (Sh.layT (g + 1) H l).2) ∧ HeapAt w' base hb (Sh.layT (g + 1) H l).1 ∧ Below base w w' := by
  intro g
  induction g with
  | zero =>
    intro H w hH l A c lo hi hL hc hg _ hp hb_ hl
    obtain rfl : l = [] := List.length_eq_zero_iff.1 (by omega)
    have hH0 := Lib.hid (hH.step (w1 := w.alloc (.cells #[] 119)) ((Below.refl _ _).alloc (Nat.le_refl _) _))
    have hB0 := Lib.hid (show Below base w (w.alloc (.cells #[] 119)) from (Below.refl _ _).alloc (by have := hH.1; have := hH.lt; omega) _)
    unfold Sh.layT
    simp only [List.length_nil, if_true]
    go_enter Tryz.func154, Tryz.ntmps154
    go_wp2
    go_ret
    exact ⟨rfl, hH0.out, hB0.out⟩
  | succ g ih =>
    intro H w hH l A c lo hi hL hc hg hg2 hp hb_ hl
    have hH0 := Lib.hid (hH.step (w1 := w.alloc (.cells #[] 119)) ((Below.refl _ _).alloc (Nat.le_refl _) _))
    have hB0 := Lib.hid (show Below base w (w.alloc (.cells #[] 119)) from (Below.refl _ _).alloc (by have := hH.1; have := hH.lt; omega) _)
    unfold Sh.layT
    by_cases h0 : l.length = 0
    · rw [if_pos h0]
      clear ih
      go_enter Tryz.func154, Tryz.ntmps154
      go_wp2
      go_ret
      exact ⟨rfl, hH0.out, hB0.out⟩
    · rw [if_neg h0]
      have hk : l.length / 2 < l.length := by omega
      obtain ⟨k, hkd⟩ : ∃ k, k = l.length / 2 := ⟨_, rfl⟩
      rw [← hkd] at hk ⊢
      have hs := Sh.take_drop_at hk
      obtain ⟨x, hx⟩ : ∃ x, x = Sh.gi l k := ⟨_, rfl⟩
      rw [← hx] at hs ⊢
      have hp2 := hp
      rw [hs, List.pairwise_append] at hp2
      obtain ⟨p1, p2, p3⟩ := hp2
      rw [List.pairwise_cons] at p2
      have hxm : x ∈ l := by rw [hs]; simp
      have hxb := hb_ x hxm
      have hl1 : (l.take k).length = k := by rw [List.length_take]; omega
      have hl2 : (l.drop (k + 1)).length = l.length - (k + 1) := by rw [List.length_drop]
      have b1 : ∀ y ∈ l.take k, lo < y ∧ y < x := fun y hy => ⟨(hb_ y (List.mem_of_mem_take hy)).1, p3 y hy x (by simp)⟩
      have b2 : ∀ y ∈ l.drop (k + 1), x < y ∧ y < hi := fun y hy => ⟨p2.1 y hy, (hb_ y (List.mem_of_mem_drop hy)).2⟩
      have o1 := Sh.layT_ok g H lo x (l.take k) (by omega) p1 b1
      have o2 := Sh.layT_ok g (Sh.layT (g + 1) H (l.take k)).1 x hi (l.drop (k + 1)) (by omega) p2.2 b2
      obtain ⟨t1, t2, t3⟩ := take_at A c l k (by omega) hc
      obtain ⟨A', s1, s2, s3⟩ := drop_at A c l (k + 1) (by omega) hc
      have hlen1 : (Sh.layT (g + 1) H (l.take k)).1.length ≤ H.length + k := by
        obtain ⟨e, he, hel⟩ := o1.1
        rw [he, List.length_append]
        omega
      have hlen2 : (Sh.layT (g + 1) (Sh.layT (g + 1) H (l.take k)).1 (l.drop (k + 1))).1.length ≤ 500000 := by
        obtain ⟨e, he, hel⟩ := o2.1
        rw [he, List.length_append]
        omega
      have hr1 := Lib.hid (fun (W : World) (hW : HeapAt W base hb H) (hB : Below base w W) => ih H W hW (l.take k) A c lo x (fun W' hW' => t2 W' (hL W' (hB.trans hW'))) t3 (by omega) (by omega) p1 b1 (by omega))
      have hr2 := Lib.hid (fun (W : World) (hW : HeapAt W base hb (Sh.layT (g + 1) H (l.take k)).1) (hB : Below base w W) => ih _ W hW (l.drop (k + 1)) A' (c - (k + 1)) x hi (fun W' hW' => s2 W' (hL W' (hB.trans hW'))) s3 (by omega) (by omega) p2.2 b2 (by omega))
      have hh1 := Sh.high_nonneg g (l.take k).length
      have hh2 := o1.2.nonneg
      have hh : Sh.high g (l.take k).length ≤ 100000 ∧ Sh.high g (l.drop (k + 1)).length ≤ 100000 := by
        have q1 := o1.2.high
        have q2 := o2.2.high
        omega
      have hn := Lib.hid (fun (W : World) (hW : HeapAt W base hb (Sh.layT (g + 1) (Sh.layT (g + 1) H (l.take k)).1 (l.drop (k + 1))).1) => node_tr (x := x) hW (o2.at o1.2) o2.2 hh.1 hh.2 (by omega))
      have hxc : ∀ W, Below base w W → ∃ ad, A = some ad ∧ W.cell? (ad.add k) = some (.int .i64 x) := fun W hW => by
        obtain ⟨ad, e, h⟩ := at_int (hL W hW) k (by omega) (by omega)
        rw [Int.toNat_natCast] at h
        rw [hx]
        exact ⟨ad, e, h⟩
      obtain ⟨ad, rfl, _⟩ := hxc w (Below.refl _ _)
      replace hxc := Lib.hid hxc
      have hq : ((l.length : Int)).tdiv 2 = (k : Int) := by rw [Int.tdiv_eq_ediv_of_nonneg (by omega)]; omega
      have s1' : ∀ W : World, (Instr.slice 28 (.slice (some ad) l.length c) (some (.int .i64 ((k : Int) + 1))) none none).run Tryz.prog W = .ok (.slice A' (l.drop (k + 1)).length (c - (k + 1))) W := fun W => by have := s1 W; rwa [Int.natCast_add] at this
      rw [hl1] at hr1 t1
      obtain ⟨n2, hn2⟩ : ∃ n2, n2 = (l.drop (k + 1)).length := ⟨_, rfl⟩
      rw [← hn2] at hr2 s1'
      have hz := Lib.hid hn2
      have hw1 : IntKind.i64.wrap ((k : Int) + 1) = (k : Int) + 1 := IntWalk.i64_in _ (by omega)
      clear hn2
      clear s1 ih o1 o2 hh hh1 hh2 hlen1 hlen2 b1 b2 hxb hxm p1 p2 p3 hs hx hl1 hl2 t2 t3 s2 s3 hp hb_ hL hkd
      dsimp only
      generalize Sh.layT (g + 1) H (l.take k) = S1 at *
      generalize Sh.layT (g + 1) S1.1 (l.drop (k + 1)) = S2 at *
      go_enter Tryz.func154, Tryz.ntmps154
      go_wp2
      go_still_tail 5, (by kernel_rfl)
      change wpList _ _ _ _ _ (w.alloc (.cells #[] 119)).drew
      go_wp2_with fail
      refine (hr1.out _ (hH0.out.step (Below.refl _ _).drew) hB0.out.drew).mono ?_
      rintro e w1 ⟨rfl, hH1, hB1⟩
      replace hB1 := Lib.hid (Below.trans hB0.out.drew hB1)
      replace hH1 := Lib.hid hH1
      go_wp2
      go_still_tail 6, (by kernel_rfl)
      change wpList _ _ _ _ _ w1.drew
      go_wp2_with fail
      refine (hr2.out _ (hH1.out.step (Below.refl _ _).drew) hB1.out.drew).mono ?_
      rintro e w2 ⟨rfl, hH2, hB2⟩
      replace hB2 := Lib.hid (Below.trans hB1.out.drew hB2)
      replace hH2 := Lib.hid hH2
      obtain ⟨ad', e, hxk⟩ := hxc.out _ hB2.out
      cases e
      go_wp2_with fail
      refine (hn.out _ hH2.out).mono ?_
      rintro e w3 ⟨rfl, hH3, hB3⟩
      replace hB3 := Lib.hid (Below.trans hB2.out hB3)
      replace hH3 := Lib.hid hH3
      go_wp2
      go_ret
      exact ⟨rfl, hH3.out, hB3.out⟩
end Go.Proofs.YtbfedeedicnedaaGreat
end
section
namespace Go.Proofs.YtbfedeedicnedaaGreat
open Go.RowKit
open Go.Proofs.YtbfedeedicnedaaGreatW.PrintWords
abbrev Ints (w : World) (base : Nat) (v : Value) (l : List Int) : Prop := Kd.R kI 3 w base (fun _ => True) v l
def Got (base : Nat) (w' : World) (e : Ending) (r : Option (List Int)) : Prop := ∃ v, e = .returned (.tuple #[v, .bool r.isSome]) ∧ Ints w' base v (r.getD [])
theorem Ints.own {w : World} {base : Nat} {v : Value} {l : List Int} (h : Ints w base v l) : w.ownsRow base 3 1 v l.length (nums .i64 l) := Kd.own_of_R h
theorem Ints.mk {w : World} {base : Nat} {v : Value} {l : List Int} (h : w.ownsRow base 3 1 v l.length (nums .i64 l)) : Ints w base v l := Kd.R_of_own h (fun _ _ => trivial)
theorem Ints.other {w w1 : World} {base : Nat} {v : Value} {l : List Int} (h : Ints w base v l) {row : Option Nat} (hg : w.grownBy w1 row) (hr : ∀ k, row = some k → k < base) : Ints w1 base v l :=
  Kd.R_mono (Kd.R_grown (Kd.R_mono (Kd.R_bound h) (ok' := fun k => base ≤ k) (fun k hk => hk.2.1)) hg (fun k hk he => by have := hr k he.symm; omega)) (fun _ _ => trivial)
section
variable {ops : Array Oper} {rest : List Oper} {o : Oper} {a : Act} {Q : Exit → Act → World → Prop}
theorem app_one {w0 W : World} (base : Nat) (hgd : o.guard = none) (s x : Operand)
    (ho : o.op = .call { callee := .builtin .append, args := #[s, x], argTypes := #[28, 28] })
    (v : Value) (xs : List Int) (y : Int) (hs : a.eval s = v) (hx : a.eval x = .slice (some ⟨W.heap.size, 0, none⟩) 1 1)
    (HO : Ints W base v xs) (HB : Below base w0 W) (hbase : base ≤ W.heap.size) (hl : xs.length ≤ 1000000)
    (h : ∀ v1 w1, Ints w1 base v1 (xs ++ [y]) → Below base w0 w1 → W.grownBy w1 v.ownBlock → wpList Tryz.prog ops Q rest (a.put o.dst v1) w1) :
    wpList Tryz.prog ops Q (o :: rest) a (W.alloc (.cells #[.int .i64 y] 3)) :=
  print_append_num base hgd s x 28 3 .i64 8 ho (by kernel_rfl) PAll.info3 (by omega) v xs y hs hx HO.own HB hbase (by omega) (fun v1 w1 h1 h2 h3 _ => h v1 w1 (Ints.mk h1) h2 h3)
theorem app_all {w0 W : World} (base : Nat) (hgd : o.guard = none) (s x : Operand)
    (ho : o.op = .call { callee := .builtin .append, args := #[s, x], argTypes := #[28, 28] })
    (v : Value) (xs ys : List Int) (A : Option Addr) (m c : Nat) (hs : a.eval s = v) (hx : a.eval x = .slice A m c)
    (HO : Ints W base v xs) (HR : Kd.C kI W A m ys) (HB : Below base w0 W) (hbase : base ≤ W.heap.size) (hl : xs.length + m ≤ 1000000)
    (h : ∀ v1 w1, Ints w1 base v1 (xs ++ ys) → Below base w0 w1 → W.grownBy w1 v.ownBlock → wpList Tryz.prog ops Q rest (a.put o.dst v1) w1) :
    wpList Tryz.prog ops Q (o :: rest) a W :=
  print_append_row base hgd s x 28 3 .i64 8 ho (by kernel_rfl) PAll.info3 (by omega) v xs ys A m c hs hx HO.own (readsInt_of.2 (Kd.reads_of_C HR)) HB hbase (by omega) (fun v1 w1 h1 h2 h3 _ => h v1 w1 (Ints.mk h1) h2 h3)
end
theorem there_at {w : World} {A : Option Addr} {c : Nat} {H : Sh.Hp} {r : Int} {b : Bool} (h : Sh.there H r = b) : Calls Tryz.prog 159 #[.slice A H.length c, .int .i64 r] w fun e w' => e = .returned (.bool b) ∧ w' = w := by
  subst h
  exact there_calls A H.length c r w
end Go.Proofs.YtbfedeedicnedaaGreat
end
