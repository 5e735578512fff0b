/-
  Texts of this claim: ShJo.
-/
import Derived.Test.YtbfedeedicnedaaGreatSj48
set_option linter.unusedVariables false
set_option linter.unusedSimpArgs false
set_option maxHeartbeats 8000000
set_option maxRecDepth 100000
section
namespace Go.Proofs.YtbfedeedicnedaaGreat
open Go.RowKit
open Go.Proofs.YtbfedeedicnedaaGreatW.PrintWords
theorem joins_good (hwk : Works) (H : Sh.Hp) (ra na x rb nb ta tb : Int) (l m : List Int) (A : Option Addr) (c : Nat) (w : World) (hC : Nodes w A H) (hc : H.length ≤ c) (hb : Sh.largeB H = false) (h30 : H.length ≤ 3000)
    (ha : Sh.listed H 3 ra na = (l, 0)) (hs : Sh.sought H 3 rb nb x = (m, 0)) (hea : Sh.elems H 3 ra na = some l) (heb : Sh.elems H 3 rb nb = some m) (Ta : Sh.Tr H ra (-1) 1024 l ta) (Tb : Sh.Tr H rb (-1) 1024 m tb) (hbt : Sh.between l m x) (hx0 : 0 ≤ x) (hx1 : x ≤ 1023)
    (hjd : ∀ W, Below w.heap.size w W → Calls Tryz.prog 48 #[.slice A H.length c, shV 3 ra na, .int .i64 x, shV 3 rb nb] W fun e w' => e = .returned (.int .i64 0) ∧ Below W.heap.size W w') :
    Calls Tryz.prog 10 #[.slice A H.length c, shV 3 ra na, .int .i64 x, shV 3 rb nb] w fun e w' => e = .returned (.bool true) ∧ Below w.heap.size w w' := by
  have hwh := Lib.hid hwk
  obtain ⟨h400, hsm⟩ := (Sh.largeB_small hb).2 h30
  have hbig : ∀ p ∈ H, p.1.length ≤ 1000000 ∧ p.2.length ≤ 1000000 := fun p hp => ⟨by have := (hsm p hp).1; omega, by have := (hsm p hp).2; omega⟩
  have hll : l.length ≤ 1024 := Sh.els_len (Sh.listTree_els (Sh.listTree_iff.2 ⟨ta, Ta⟩))
  have hmm : m.length ≤ 1024 := Sh.els_len (Sh.listTree_els (Sh.listTree_iff.2 ⟨tb, Tb⟩))
  have hta := Ta.low
  have htb := Tb.low
  have ha0 := Ta.nonneg
  have hb0 := Tb.nonneg
  obtain ⟨W0, hW0⟩ : ∃ W0, W0 = (w.alloc (.cells #[.int .i64 3, .int .i64 ra, .int .i64 na] 25)).alloc (.cells #[.int .i64 3, .int .i64 rb, .int .i64 nb] 25) := ⟨_, rfl⟩
  obtain ⟨hB, h1, h2⟩ := two_shapes w 3 ra na 3 rb nb
  have hB0 := Lib.hid hB
  have hX1 := Lib.hid h1
  have hX2 := Lib.hid h2
  clear hB h1 h2
  rw [← hW0] at hB0 hX1 hX2
  have hBw := Lib.hid (fun W (hW : Below W0.heap.size W0 W) => (below_step hB0.out hW : Below w.heap.size w W))
  have hNo := Lib.hid (fun W (hW : Below W0.heap.size W0 W) => (Kd.C_below hC (hBw.out W hW) : Nodes W A H))
  have hlg := Lib.hid (large_calls H A c W0 (Kd.C_below hC hB0.out) hc hb)
  have hsh := Lib.hid (fun W (hW : Below W0.heap.size W0 W) => join_is (c := c) (hNo.out W hW) (listsF_plain (fun p hp => (hbig p hp).1) nd3) ha hs Ta Tb hbt hx0 hx1 (by omega) hbig)
  have hrc := Lib.hid (fun W (hW : Below W0.heap.size W0 W) => hjd W (hBw.out W hW))
  have hEa := Lib.hid (fun W (hW : Below W0.heap.size W0 W) => relems_of (c := c) (hNo.out W hW) hc (by omega) (fun _ => hbig) h30 hea)
  have hEb := Lib.hid (fun W (hW : Below W0.heap.size W0 W) => relems_of (c := c) (hNo.out W hW) hc (by omega) (fun _ => hbig) h30 heb)
  have hHa := Lib.hid (fun W (hW : Below W0.heap.size W0 W) => Height_calls Ta 3 na A c W (hNo.out W hW) hc)
  have hHb := Lib.hid (fun W (hW : Below W0.heap.size W0 W) => Height_calls Tb 3 nb A c W (hNo.out W hW) hc)
  obtain ⟨L, hL⟩ : ∃ L, L = l ++ x :: m := ⟨_, rfl⟩
  have hLl : L.length ≤ 1000000 := by rw [hL, List.length_append, List.length_cons]; omega
  obtain ⟨D, hD⟩ : ∃ D : Int, D = max ta tb - min ta tb := ⟨_, rfl⟩
  have hD0 : 0 ≤ D ∧ D ≤ 2000 := by omega
  have hho := Lib.hid (fun (K : Sh.Hp) (r : Int) (AG : Option Addr) (cG : Nat) (A2 : Option Addr) (c2 : Nat) (W : World) (hW : Below W0.heap.size W0 W) (hH : Sh.Has H K 3 r L (3 * ((ta - tb).natAbs - 1) + 1)) hG hcG hL2 hc2 =>
    holds_has hH (n := (L.length : Int)) (m' := 6 * (D + 2)) rfl (by omega) (by omega) A c AG cG A2 c2 W (hNo.out W hW) hc hG hcG hL2 hc2 (by omega) hLl hbig)
  rw [← hL] at hsh
  replace hL := Lib.hid hL
  replace hLl := Lib.hid hLl
  have hw1 : IntKind.i64.wrap (D + 2) = D + 2 := IntWalk.i64_in _ (by omega)
  have hw2 : IntKind.i64.wrap (6 * (D + 2)) = 6 * (D + 2) := IntWalk.i64_in _ (by omega)
  have hw3 : IntKind.i64.wrap (max ta tb - min ta tb) = D := by rw [← hD]; exact IntWalk.i64_in _ (by omega)
  clear hC hb hwk hsm hbig h400 h30 ha hs hea heb Ta Tb hbt hx0 hx1 hjd hNo hta htb ha0 hb0 hD hD0
  go_enter Tryz.func10, Tryz.ntmps10
  go_wp2_with fail
  rw [← hW0]
  clear hW0
  refine (hlg.out).mono ?_
  rintro e w1 ⟨rfl, hd⟩
  have hB1 := Lib.hid hd.below
  obtain ⟨c0, c1, c2⟩ := shape_cells hX1.out hB1.out
  obtain ⟨d0, d1, d2⟩ := shape_cells hX2.out hB1.out
  clear hd hlg
  go_wp2_with fail
  refine (hsh.out _ hB1.out).mono ?_
  rintro e w2 ⟨⟨A7, c7, K, r, rfl, hR, hHas⟩, hb⟩
  obtain ⟨k, hk⟩ : ∃ q, q = K.length := ⟨_, rfl⟩
  rw [← hk] at hR ⊢
  have hB2 := Lib.hid (below_step hB1.out hb)
  have hB3 := Lib.hid (show Below W0.heap.size W0 (w2.alloc (.cells #[.int .i64 3, .int .i64 r, .int .i64 L.length] 25)) from hB2.out.alloc hB2.out.size _)
  have hR3 := Lib.hid (show Kd.R kSN 95 (w2.alloc (.cells #[.int .i64 3, .int .i64 r, .int .i64 L.length] 25)) 0 (fun _ => True) (.slice A7 k c7) (sn K) from Kd.R_alloc hR _)
  have p1 := Lib.hid (heap_alloc_new w2 (.cells #[.int .i64 3, .int .i64 r, .int .i64 L.length] 25))
  obtain ⟨q0, q1, q2⟩ := shape_cells hX1.out hB3.out
  obtain ⟨r0, r1, r2⟩ := shape_cells hX2.out hB3.out
  have hHash := Lib.hid hHas
  replace hk := Lib.hid hk
  clear hb hR c0 c1 c2 d0 d1 d2 hHas hsh
  have hr3 := Lib.hid (hrc.out _ hB3.out)
  go_wp2_with fail
  refine (hr3.out).mono ?_
  rintro e w3 ⟨rfl, hb⟩
  have hB4 := Lib.hid (below_step hB3.out hb)
  have p1' := Lib.hid (blk_below p1.out hb)
  have hR4 := Lib.hid (Kd.R_below hR3.out hb)
  obtain ⟨c0, c1, c2⟩ := shape_cells hX1.out hB4.out
  clear hb q0 q1 q2 r0 r1 r2 hR3 p1 hr3 hrc
  go_wp2_with fail
  refine (hEa.out _ hB4.out).mono ?_
  rintro e w4 ⟨⟨A5, c5, rfl, hc5, hC5⟩, hb⟩
  have hB5 := Lib.hid (below_step hB4.out hb)
  have p1 := Lib.hid (blk_below p1'.out hb)
  have hR5 := Lib.hid (Kd.R_below hR4.out hb)
  obtain ⟨d0, d1, d2⟩ := shape_cells hX2.out hB5.out
  replace hc5 := Lib.hid hc5
  replace hC5 := Lib.hid hC5
  clear hb c0 c1 c2 hR4 p1' hEa
  go_wp2_with fail
  refine (hEb.out _ hB5.out).mono ?_
  rintro e w5 ⟨⟨A6, c6, rfl, hc6, hC6⟩, hb⟩
  have hB6 := Lib.hid (below_step hB5.out hb)
  have p1' := Lib.hid (blk_below p1.out hb)
  have hR6 := Lib.hid (Kd.R_below hR5.out hb)
  have hC5' := Lib.hid (Kd.C_below hC5.out hb)
  replace hc6 := Lib.hid hc6
  replace hC6 := Lib.hid hC6
  clear hb d0 d1 d2 hR5 p1 hEb hC5
  go_upto_region 11 with fail
  have hBd := Lib.hid (show Below w5.heap.size w5 w5.drew from (Below.refl _ _).drew)
  have hkk := Lib.hid (fun W1 (hW : Below w5.heap.size w5 W1) => (⟨hW, shape_cells hX1.out (below_step hB6.out hW), shape_cells hX2.out (below_step hB6.out hW)⟩ : Below w5.heap.size w5 W1 ∧ (W1.cell? ⟨w.heap.size, 0, none⟩ = some (.int .i64 3) ∧ W1.cell? ⟨w.heap.size, 1, none⟩ = some (.int .i64 ra) ∧ W1.cell? ⟨w.heap.size, 2, none⟩ = some (.int .i64 na)) ∧ W1.cell? ⟨w.heap.size + 1, 0, none⟩ = some (.int .i64 3) ∧ W1.cell? ⟨w.heap.size + 1, 1, none⟩ = some (.int .i64 rb) ∧ W1.cell? ⟨w.heap.size + 1, 2, none⟩ = some (.int .i64 nb)))
  have hHa5 := Lib.hid (fun W1 (hW : Below w5.heap.size w5 W1) => hHa.out W1 (below_step hB6.out hW))
  have hHb5 := Lib.hid (fun W1 (hW : Below w5.heap.size w5 W1) => hHb.out W1 (below_step hB6.out hW))
  clear hHa hHb
  go_region_held3 (fun W1 => Below w5.heap.size w5 W1 ∧ (W1.cell? ⟨w.heap.size, 0, none⟩ = some (.int .i64 3) ∧ W1.cell? ⟨w.heap.size, 1, none⟩ = some (.int .i64 ra) ∧ W1.cell? ⟨w.heap.size, 2, none⟩ = some (.int .i64 na)) ∧ W1.cell? ⟨w.heap.size + 1, 0, none⟩ = some (.int .i64 3) ∧ W1.cell? ⟨w.heap.size + 1, 1, none⟩ = some (.int .i64 rb) ∧ W1.cell? ⟨w.heap.size + 1, 2, none⟩ = some (.int .i64 nb))
    (first
      | exact hkk.out _ (by assumption)
      | exact hkk.out _ hBd.out
      | fail)
    (first
      | (go_at_call 46; refine (hHb5.out _ hBA).mono ?_; rintro e wB ⟨rfl, hbB⟩; have hBB : Below w5.heap.size w5 wB := below_step hBA hbB; clear hbB)
      | (go_at_call 46; refine (hHa5.out _ hBd.out).mono ?_; rintro e wA ⟨rfl, hbA⟩; have hBA : Below w5.heap.size w5 wA := below_step hBd.out hbA; clear hbA))
  have hBB' := Lib.hid hBB
  clear hBA hBB hkk hHa5 hHb5 hBd
  have hB7 := Lib.hid (below_step hB6.out hBB'.out)
  have p2 := Lib.hid (blk_below p1'.out hBB'.out)
  have hR7 := Lib.hid (Kd.R_below hR6.out hBB'.out)
  have hRa := Lib.hid (fun W (hW : Below wB.heap.size wB W) => (Kd.C_below (Kd.C_below hC5'.out hBB'.out) hW : Kd.C kI W A5 l.length l))
  have hRb := Lib.hid (fun W (hW : Below wB.heap.size wB W) => (Kd.C_below (Kd.C_below hC6.out hBB'.out) hW : Kd.C kI W A6 m.length m))
  have hkB := Lib.hid (fun W1 (hW : Below wB.heap.size wB W1) => (⟨hW, shape_cells p2.out hW⟩ : Below wB.heap.size wB W1 ∧ W1.cell? ⟨w2.heap.size, 0, none⟩ = some (.int .i64 3) ∧ W1.cell? ⟨w2.heap.size, 1, none⟩ = some (.int .i64 r) ∧ W1.cell? ⟨w2.heap.size, 2, none⟩ = some (.int .i64 L.length)))
  have hLe := Lib.hid (show l ++ [x] ++ m = L by rw [hL.out, List.append_assoc]; rfl)
  have hh1 := Lib.hid (fun A2 c2 W1 (hW : Below wB.heap.size wB W1) (hL2 : Kd.C kI W1 A2 L.length L) (hc2 : L.length ≤ c2) => (by
    have hrr := Kd.R_reads' (Kd.R_below hR7.out hW)
    rw [sn_len, ← hk.out] at hrr
    have := hho.out K r A7 c7 A2 c2 W1 (below_step hB7.out hW) hHash.out (by show Kd.C kSN W1 A7 K.length (sn K); rw [← hk.out]; exact hrr.2.2) (by rw [← hk.out]; exact hrr.2.1) hL2 hc2
    rw [← hk.out] at this
    exact this : Calls Tryz.prog 32 #[.slice A H.length c, .slice A7 k c7, shV 3 r L.length, .int .i64 3, .slice A2 L.length c2, .int .i64 (6 * (D + 2))] W1 fun e w' => e = .returned (.bool true) ∧ Below W1.heap.size W1 w'))
  have hl1 := Lib.hid hll
  have hl2 := Lib.hid hmm
  have hfin := Lib.hid (fun W1 (hW : Below wB.heap.size wB W1) => (hBw.out _ (below_step hB7.out hW) : Below w.heap.size w W1))
  clear hR7 hB7 hBB' p1' hR6 hC5' hC6 hho hHash hB6 hB5 hB4 hB3 hB2 hB1 hX1 hX2 hB0 hBw hll hmm hL hkB
  go_upto_region 12 with fail
  have hw1h := Lib.hid hw1
  have hw2h := Lib.hid hw2
  have hw3h := Lib.hid hw3
  clear hw1 hw2 hw3
  go_cut [8] (fun sx wx => sx = .bool true ∧ Below wB.heap.size wB wx)
  case first =>
    have hKK := ‹∀ (a' : Act) (w' : World), Met _ a' w' → _›
    refine jreg_ok ?hcd hwh.out hLe.out hl1.out hl2.out p2.out (hRa.out wB (Below.refl _ _)) (hRb.out wB (Below.refl _ _)) hw3h.out hw1h.out hw2h.out hh1.out (fun v65 v66 v67 v68 v69 v70 v71 v72 v73 v74 v75 v76 v77 v78 v79 v80 v81 v82 v83 v84 v85 v86 v87 wx hB => hKK _ _ ?_)
    case hcd => kernel_rfl
    go_meet
    exact ⟨rfl, hB⟩
  case rest =>
    obtain ⟨rfl, hb⟩ := hcut
    have hBz := Lib.hid (hfin.out _ hb)
    clear hb
    go_wp2
    go_ret
    exact ⟨rfl, hBz.out⟩
end Go.Proofs.YtbfedeedicnedaaGreat
end
