/-
  Texts of this claim: ShBL.
-/
import Derived.Test.YtbfedeedicnedaaGreatWb28
import Derived.Outline

section
set_option linter.unusedVariables false
set_option linter.unusedSimpArgs false
namespace Go.Proofs.YtbfedeedicnedaaGreat
open Go.RowKit
open Go.Proofs.YtbfedeedicnedaaGreatW.PrintWords
theorem HeapAt.set25 {w : World} {base hb g : Nat} {H : Sh.Hp} {cs : Array Value} (h : HeapAt w base hb H) (hg : w.heap[g]? = some (.cells cs 25 (0, 0))) (j : Nat) (v : Value) : HeapAt (w.setCell ⟨g, j, none⟩ v) base hb H := by
  obtain ⟨h0, v0, hv, hr⟩ := h
  have hne : hb ≠ g := fun e => by rw [e, hg] at hv; simp at hv
  exact ⟨h0, v0, blk_far hv hne v, Kd.R_set hr hg (fun q hq => by rcases kSN_E q hq with rfl | rfl <;> decide) j _⟩
set_option maxRecDepth 100000 in
set_option maxHeartbeats 1000000 in
theorem changed_more {H : Sh.Hp} {root n x : Int} {A : Option Addr} {c : Nat} {w : World} {l : List Int} (hC : Nodes w A H) (hLa : ListsF H 5) (ha : Sh.sought H 5 root n x = (l, 0)) (hh : l.contains x = false) (hll : l.length ≤ 5000) (hlH : H.length ≤ 100000) (hbig : ∀ p ∈ H, p.1.length ≤ 1000000 ∧ p.2.length ≤ 1000000) (hn0 : 0 ≤ n) (hn1 : n ≤ 100000) {K : Sh.Hp} {r : Int} (hP : ∀ (base hb : Nat) (W : World), HeapAt W base hb H → Calls Tryz.prog 192 #[.agg #[], .pointer (some ⟨hb, 0, none⟩), .int .i64 root, .int .i64 x] W fun e w' => e = .returned (.int .i64 r) ∧ HeapAt w' base hb K ∧ Below base W w') :
    Calls Tryz.prog 81 #[.slice A H.length c, shV 5 root n, .int .i64 x, .bool true] w fun e w' => Out3 w.heap.size w' e K 5 r (n + 1) 0 ∧ Below w.heap.size w w' := by
  obtain ⟨W0, hW0⟩ : ∃ W0, W0 = (w.alloc (.cells #[.int .i64 5, .int .i64 root, .int .i64 n] 25)).alloc zero25 := ⟨_, rfl⟩
  have hsz := Lib.hid (show W0.heap.size = w.heap.size + 2 by rw [hW0, World.size_alloc, World.size_alloc])
  have b1 := Lib.hid (show W0.heap[w.heap.size]? = some (.cells #[.int .i64 5, .int .i64 root, .int .i64 n] 25 (0, 0)) by
    rw [hW0]
    exact blk_alloc (heap_alloc_new w _) _)
  have b2 := Lib.hid (show W0.heap[w.heap.size + 1]? = some (.cells #[.int .i64 0, .int .i64 0, .int .i64 0] 25 (0, 0)) by
    have := heap_alloc_new (w.alloc (.cells #[.int .i64 5, .int .i64 root, .int .i64 n] 25)) zero25
    rw [World.size_alloc] at this
    rw [hW0]
    exact this)
  have hB0 := Lib.hid (show Below w.heap.size w W0 by rw [hW0]; exact two_alloc w _ _)
  have hBw := Lib.hid (fun W (hW : Below W0.heap.size W0 W) => (hB0.out.trans (hW.mono (by have := hsz.out; omega)) : Below w.heap.size w W))
  have hla := Lib.hid (fun W (hW : Below W0.heap.size W0 W) => by have := sought_calls H 5 root n x A c W (Kd.C_below hC (hBw.out W hW)) hLa; rw [ha] at this; exact this)
  have hgr := Lib.hid (fun W (hW : Below W0.heap.size W0 W) => grown_calls A c H W (Kd.C_below hC (hBw.out W hW)) hlH hbig)
  have hfD := Lib.hid (show ¬ Digital 5 by unfold Digital; omega)
  have hct := Lib.hid (fun base v W (hW : Ints W base v l) => contains_calls hW (by omega) x)
  rw [hh] at hct
  have hof := Lib.hid (fun W => of_calls 5 W (by omega) (by omega))
  rw [show formV 5 = .iface 157 (.agg #[]) from rfl] at hof
  have hmm : ∀ W : World, (method 312 157 (.agg #[]) "sward/shape.put").run Tryz.prog W = .ok (192, .agg #[]) W := fun _ => by kernel_rfl
  have hb9 : (false == true) = false := rfl
  have hPh := Lib.hid hP
  clear hC hLa ha hbig hh hP
  go_enter Tryz.func81, Tryz.ntmps81
  go_wp2_with fail
  rw [← hW0]
  clear hW0
  refine (hla.out _ (Below.refl _ _)).mono ?_
  rintro e w1 ⟨⟨v1, l1, rfl, o1, hx0, hx1⟩, hb1⟩
  obtain rfl : l1 = l := hx1 hfD.out
  have o1' := Lib.hid o1
  have hB1 := Lib.hid hb1
  obtain ⟨A1, c1, rfl, hc1, hC1⟩ := Kd.R_reads o1
  have p0 : w1.cell? ⟨w.heap.size, 0, none⟩ = some (.int .i64 5) := by rw [blk_cell (blk_below b1.out hb1)]; rfl
  clear hb1 o1 hx1 hx0 hC1
  have hgc := Lib.hid (hgr.out w1 hB1.out)
  obtain ⟨n1, hn1⟩ : ∃ n1, n1 = l1.length := ⟨_, rfl⟩
  rw [← hn1] at hll hc1 o1' ⊢
  replace hn1 := Lib.hid hn1
  go_wp2_with fail
  refine (hgc.out).mono ?_
  rintro e w3 ⟨hb, rfl, hH3, hB3⟩
  have hB3' := Lib.hid (hB1.out.trans (hB3.mono hB1.out.size))
  have o3 := Kd.R_below o1'.out hB3
  have hcc := Lib.hid (hct.out _ _ _ (by rw [hn1.out] at o3; exact o3))
  rw [← hn1.out] at hcc
  have hs2 := Lib.hid (show w.heap.size + 2 ≤ w1.heap.size by have := hB1.out.size; have := hsz.out; omega)
  replace hH3 := Lib.hid hH3
  clear hB3 o3
  go_wp2_with fail
  refine (hcc.out).mono ?_
  rintro e w5 ⟨rfl, rfl⟩
  obtain ⟨g9, hg9⟩ : ∃ g9, g9 = w.heap.size + 1 := ⟨_, rfl⟩
  obtain ⟨g5, hg5⟩ : ∃ g5, g5 = w.heap.size := ⟨_, rfl⟩
  have h56 := Lib.hid (show w5.heap[g5]? = some (.cells #[.int .i64 5, .int .i64 root, .int .i64 n] 25 (0, 0)) by rw [hg5]; exact blk_below b1.out hB3'.out)
  have h96 := Lib.hid (show w5.heap[g9]? = some (.cells #[.int .i64 0, .int .i64 0, .int .i64 0] 25 (0, 0)) by rw [hg9]; exact blk_below b2.out hB3'.out)
  have hB6 := Lib.hid (hBw.out _ hB3'.out)
  have hHp := Lib.hid (fun W (hW : Below w5.heap.size w5 W) => hPh.out _ _ W (hH3.out.step hW))
  have hs3 := Lib.hid (show w1.heap.size ≤ w5.heap.size by have := hH3.out.1; have := hH3.out.lt; omega)
  have hs4 := Lib.hid (show g9 < w5.heap.size from blk_lt h96.out)
  have hgl := Lib.hid (show g5 < w1.heap.size by have := hs2.out; omega)
  have hgl9 := Lib.hid (show g9 < w1.heap.size by have := hs2.out; omega)
  have hsw := Lib.hid (show w.heap.size ≤ w5.heap.size by have := hs3.out; have := hs2.out; omega)
  have hsw1 := Lib.hid (show w.heap.size ≤ w1.heap.size by have := hs2.out; omega)
  clear hH3 p0 hPh
  go_wp2
  rw [← hg9, ← hg5]
  replace hg9 := Lib.hid hg9
  replace hg5 := Lib.hid hg5
  have q0 : w5.drew.cell? ⟨g5, 0, none⟩ = some (.int .i64 5) := by show w5.cell? _ = _; rw [blk_cell h56.out]; rfl
  have q1 : w5.drew.cell? ⟨g5, 1, none⟩ = some (.int .i64 root) := by show w5.cell? _ = _; rw [blk_cell h56.out]; rfl
  go_region_with (first
    | (go_at_call 99; refine (hof.out _).mono ?_; rintro e w6 ⟨rfl, hBo⟩; have e0 : w6.cell? ⟨g5, 1, none⟩ = some (.int .i64 root) := pw_cell_below hBo q1; have hBo' := Lib.hid (show Below w5.heap.size w5 w6 from ((Below.refl w5.heap.size w5).drew).trans hBo); clear hBo)
    | (go_at_call 192; refine (hHp.out _ hBo'.out).mono ?_; rintro e w7 ⟨rfl, hH7, hB7⟩; have h57 := Lib.hid (show w7.heap[g5]? = some (.cells #[.int .i64 5, .int .i64 root, .int .i64 n] 25 (0, 0)) from (hB7.block g5 hgl.out).trans (blk_below h56.out hBo'.out)); have h97 := Lib.hid (show w7.heap[g9]? = some (.cells #[.int .i64 0, .int .i64 0, .int .i64 0] 25 (0, 0)) from (hB7.block g9 hgl9.out).trans (blk_below h96.out hBo'.out)); have hB7' := Lib.hid (hB6.out.trans ((hBo'.out.mono hsw.out).trans (hB7.mono hsw1.out))); have hH7' := Lib.hid hH7; have f1 : w7.frozen? ⟨g5, 1, none⟩ = false := blk_frozen h57.out 1; have c1' : w7.cell? ⟨g5, 1, none⟩ = some (.int .i64 root) := (blk_cell h57.out 1).trans rfl; clear hH7 hB7))
  all_goals
    have hnw : IntKind.i64.wrap (n + 1) = n + 1 := IntWalk.i64_in _ (by omega)
    have h58 := Lib.hid (blk_set h57.out 1 (.int .i64 r))
    have c2 : (w7.setCell ⟨g5, 1, none⟩ (.int .i64 r)).cell? ⟨g5, 2, none⟩ = some (.int .i64 n) := by rw [blk_cell h58.out]; rfl
    have f2 : (w7.setCell ⟨g5, 1, none⟩ (.int .i64 r)).frozen? ⟨g5, 2, none⟩ = false := blk_frozen h58.out 2
    have h59 := Lib.hid (blk_set h58.out 2 (.int .i64 (n + 1)))
    have h99 := Lib.hid (blk_far (p := ⟨g5, 2, none⟩) (blk_far (p := ⟨g5, 1, none⟩) h97.out (show g9 ≠ g5 by have := hg9.out; have := hg5.out; omega) (.int .i64 r)) (show g9 ≠ g5 by have := hg9.out; have := hg5.out; omega) (.int .i64 (n + 1)))
    have hH9 := Lib.hid ((hH7'.out.set25 h57.out 1 (.int .i64 r)).set25 h58.out 2 (.int .i64 (n + 1)))
    have hB9 := Lib.hid ((hB7'.out.setCell (p := ⟨g5, 1, none⟩) (show w.heap.size ≤ g5 by rw [hg5.out]; exact Nat.le_refl _) (.int .i64 r)).setCell (p := ⟨g5, 2, none⟩) (show w.heap.size ≤ g5 by rw [hg5.out]; exact Nat.le_refl _) (.int .i64 (n + 1)))
    clear q0 q1 e0 f1 c1' hof hHp hmm h56 h96 hBo' hgl hgl9 hsw hsw1 hs3 hs4
    go_wp2
    clear hnw c2 f2
    obtain ⟨W6, hW6⟩ : ∃ W6, W6 = (w7.setCell ⟨g5, 1, none⟩ (.int .i64 r)).setCell ⟨g5, 2, none⟩ (.int .i64 (n + 1)) := ⟨_, rfl⟩
    rw [← hW6]
    rw [← hW6] at h59 h99 hH9 hB9
    replace h99 := Lib.hid (show ∃ a b c, W6.heap[g9]? = some (.cells #[a, b, c] 25 (0, 0)) from ⟨_, _, _, h99.out⟩)
    replace h59 := Lib.hid (show W6.heap[g5]? = some (.cells #[.int .i64 5, .int .i64 r, .int .i64 (n + 1)] 25 (0, 0)) from h59.out)
    clear hW6 h57 h58 h97 hH7' hB7'
    obtain ⟨hq0, v5, hv5, hr5⟩ := hH9.out
    obtain ⟨A5, c5, rfl⟩ := Kd.R_slice hr5
    rw [sn_len] at hv5
    rw [sn_len] at hr5
    have hho := Lib.hid (show Hold1 hb g9 g5 (.slice A5 K.length c5) (.int .i64 5) (.int .i64 r) (.int .i64 (n + 1)) W6 from ⟨⟨hv5, h59.out⟩, h99.out⟩)
    have hnes := Lib.hid (show hb ≠ g9 ∧ g5 ≠ g9 by have := hs2.out; have := hg9.out; have := hg5.out; omega)
    have hd6 := Lib.hid hho.out.drew
    have hd7 := Lib.hid (fun (x y z : Value) => (hho.out.set hnes.out x y z).drew)
    have hfin := Lib.hid (fun (x y z : Value) => (show Kd.R kSN 95 (((W6.setCell ⟨g9, 0, none⟩ x).setCell ⟨g9, 1, none⟩ y).setCell ⟨g9, 2, none⟩ z).drew w.heap.size (fun _ => True) (.slice A5 K.length c5) (sn K) ∧ Below w.heap.size w (((W6.setCell ⟨g9, 0, none⟩ x).setCell ⟨g9, 1, none⟩ y).setCell ⟨g9, 2, none⟩ z).drew from
      ⟨Kd.R_lower (out_set_d hr5 h99.out x y z) (by have := hs2.out; omega), (below_setk hB9.out (show w.heap.size ≤ g9 by rw [hg9.out]; omega) x y z).drew⟩))
    obtain ⟨-, k0, k1, k2, k3, f0, f1, f2, d0, d1, d2⟩ := hho.out.cells
    clear hv5 hr5 hq0 hH9 b1 b2 hla hgr hct hgc hcc hB1 hB3' o1' hc1 hB0 hBw hll
    go_region_held3 (fun W' => Hold1 hb g9 g5 (.slice A5 K.length c5) (.int .i64 5) (.int .i64 r) (.int .i64 (n + 1)) W' ∧ W'.cell? ⟨hb, 0, none⟩ = some (.slice A5 K.length c5) ∧ W'.cell? ⟨g5, 0, none⟩ = some (.int .i64 5) ∧ W'.cell? ⟨g5, 1, none⟩ = some (.int .i64 r) ∧ W'.cell? ⟨g5, 2, none⟩ = some (.int .i64 (n + 1)) ∧ W'.frozen? ⟨g9, 0, none⟩ = false ∧ W'.frozen? ⟨g9, 1, none⟩ = false ∧ W'.frozen? ⟨g9, 2, none⟩ = false ∧ W'.cell? ⟨g9, 0, none⟩ = some (heldAt g9 0 W') ∧ W'.cell? ⟨g9, 1, none⟩ = some (heldAt g9 1 W') ∧ W'.cell? ⟨g9, 2, none⟩ = some (heldAt g9 2 W'))
      (first
        | with_reducible exact Hold1.cells hd6.out
        | with_reducible exact Hold1.cells (hd7.out _ _ _)
        | with_reducible exact Hold1.cells (by with_reducible assumption)
        | fail)
      (first | fail)
    go_wp2
    refine bodyPost_ret (results_tct rfl _ _ g9 #[.int .i64 5, .int .i64 r, .int .i64 (n + 1)] rfl (load_set3_d h99.out)) rfl ?_
    exact ⟨⟨_, by rfl, (hfin.out _ _ _).1⟩, (hfin.out _ _ _).2⟩
set_option maxRecDepth 100000 in
set_option maxHeartbeats 1000000 in
theorem changed_less {H : Sh.Hp} {root n x : Int} {A : Option Addr} {c : Nat} {w : World} {l : List Int} (hC : Nodes w A H) (hLa : ListsF H 1) (ha : Sh.sought H 1 root n x = (l, 0)) (hh : l.contains x = true) (hll : l.length ≤ 5000) (hlH : H.length ≤ 100000) (hbig : ∀ p ∈ H, p.1.length ≤ 1000000 ∧ p.2.length ≤ 1000000) (hn0 : 0 ≤ n) (hn1 : n ≤ 100000) {K : Sh.Hp} {r : Int} (hP : ∀ (base hb : Nat) (W : World), HeapAt W base hb H → Calls Tryz.prog 160 #[.agg #[], .pointer (some ⟨hb, 0, none⟩), .int .i64 root, .int .i64 x] W fun e w' => e = .returned (.int .i64 r) ∧ HeapAt w' base hb K ∧ Below base W w') :
    Calls Tryz.prog 81 #[.slice A H.length c, shV 1 root n, .int .i64 x, .bool false] w fun e w' => Out3 w.heap.size w' e K 1 r (n - 1) 0 ∧ Below w.heap.size w w' := by
  obtain ⟨W0, hW0⟩ : ∃ W0, W0 = (w.alloc (.cells #[.int .i64 1, .int .i64 root, .int .i64 n] 25)).alloc zero25 := ⟨_, rfl⟩
  have hsz := Lib.hid (show W0.heap.size = w.heap.size + 2 by rw [hW0, World.size_alloc, World.size_alloc])
  have b1 := Lib.hid (show W0.heap[w.heap.size]? = some (.cells #[.int .i64 1, .int .i64 root, .int .i64 n] 25 (0, 0)) by
    rw [hW0]
    exact blk_alloc (heap_alloc_new w _) _)
  have b2 := Lib.hid (show W0.heap[w.heap.size + 1]? = some (.cells #[.int .i64 0, .int .i64 0, .int .i64 0] 25 (0, 0)) by
    have := heap_alloc_new (w.alloc (.cells #[.int .i64 1, .int .i64 root, .int .i64 n] 25)) zero25
    rw [World.size_alloc] at this
    rw [hW0]
    exact this)
  have hB0 := Lib.hid (show Below w.heap.size w W0 by rw [hW0]; exact two_alloc w _ _)
  have hBw := Lib.hid (fun W (hW : Below W0.heap.size W0 W) => (hB0.out.trans (hW.mono (by have := hsz.out; omega)) : Below w.heap.size w W))
  have hla := Lib.hid (fun W (hW : Below W0.heap.size W0 W) => by have := sought_calls H 1 root n x A c W (Kd.C_below hC (hBw.out W hW)) hLa; rw [ha] at this; exact this)
  have hgr := Lib.hid (fun W (hW : Below W0.heap.size W0 W) => grown_calls A c H W (Kd.C_below hC (hBw.out W hW)) hlH hbig)
  have hfD := Lib.hid (show ¬ Digital 1 by unfold Digital; omega)
  have hct := Lib.hid (fun base v W (hW : Ints W base v l) => contains_calls hW (by omega) x)
  rw [hh] at hct
  have hof := Lib.hid (fun W => of_calls 1 W (by omega) (by omega))
  rw [show formV 1 = .iface 154 (.agg #[]) from rfl] at hof
  have hmm : ∀ W : World, (method 312 154 (.agg #[]) "sward/shape.drop").run Tryz.prog W = .ok (160, .agg #[]) W := fun _ => by kernel_rfl
  have hb9 : (true == false) = false := rfl
  have hPh := Lib.hid hP
  clear hC hLa ha hbig hh hP
  go_enter Tryz.func81, Tryz.ntmps81
  go_wp2_with fail
  rw [← hW0]
  clear hW0
  refine (hla.out _ (Below.refl _ _)).mono ?_
  rintro e w1 ⟨⟨v1, l1, rfl, o1, hx0, hx1⟩, hb1⟩
  obtain rfl : l1 = l := hx1 hfD.out
  have o1' := Lib.hid o1
  have hB1 := Lib.hid hb1
  obtain ⟨A1, c1, rfl, hc1, hC1⟩ := Kd.R_reads o1
  have p0 : w1.cell? ⟨w.heap.size, 0, none⟩ = some (.int .i64 1) := by rw [blk_cell (blk_below b1.out hb1)]; rfl
  clear hb1 o1 hx1 hx0 hC1
  have hgc := Lib.hid (hgr.out w1 hB1.out)
  obtain ⟨n1, hn1⟩ : ∃ n1, n1 = l1.length := ⟨_, rfl⟩
  rw [← hn1] at hll hc1 o1' ⊢
  replace hn1 := Lib.hid hn1
  go_wp2_with fail
  refine (hgc.out).mono ?_
  rintro e w3 ⟨hb, rfl, hH3, hB3⟩
  have hB3' := Lib.hid (hB1.out.trans (hB3.mono hB1.out.size))
  have o3 := Kd.R_below o1'.out hB3
  have hcc := Lib.hid (hct.out _ _ _ (by rw [hn1.out] at o3; exact o3))
  rw [← hn1.out] at hcc
  have hs2 := Lib.hid (show w.heap.size + 2 ≤ w1.heap.size by have := hB1.out.size; have := hsz.out; omega)
  replace hH3 := Lib.hid hH3
  clear hB3 o3
  go_wp2_with fail
  refine (hcc.out).mono ?_
  rintro e w5 ⟨rfl, rfl⟩
  obtain ⟨g9, hg9⟩ : ∃ g9, g9 = w.heap.size + 1 := ⟨_, rfl⟩
  obtain ⟨g5, hg5⟩ : ∃ g5, g5 = w.heap.size := ⟨_, rfl⟩
  have h56 := Lib.hid (show w5.heap[g5]? = some (.cells #[.int .i64 1, .int .i64 root, .int .i64 n] 25 (0, 0)) by rw [hg5]; exact blk_below b1.out hB3'.out)
  have h96 := Lib.hid (show w5.heap[g9]? = some (.cells #[.int .i64 0, .int .i64 0, .int .i64 0] 25 (0, 0)) by rw [hg9]; exact blk_below b2.out hB3'.out)
  have hB6 := Lib.hid (hBw.out _ hB3'.out)
  have hHp := Lib.hid (fun W (hW : Below w5.heap.size w5 W) => hPh.out _ _ W (hH3.out.step hW))
  have hs3 := Lib.hid (show w1.heap.size ≤ w5.heap.size by have := hH3.out.1; have := hH3.out.lt; omega)
  have hs4 := Lib.hid (show g9 < w5.heap.size from blk_lt h96.out)
  have hgl := Lib.hid (show g5 < w1.heap.size by have := hs2.out; omega)
  have hgl9 := Lib.hid (show g9 < w1.heap.size by have := hs2.out; omega)
  have hsw := Lib.hid (show w.heap.size ≤ w5.heap.size by have := hs3.out; have := hs2.out; omega)
  have hsw1 := Lib.hid (show w.heap.size ≤ w1.heap.size by have := hs2.out; omega)
  clear hH3 p0 hPh
  go_wp2
  rw [← hg9, ← hg5]
  replace hg9 := Lib.hid hg9
  replace hg5 := Lib.hid hg5
  have q0 : w5.drew.cell? ⟨g5, 0, none⟩ = some (.int .i64 1) := by show w5.cell? _ = _; rw [blk_cell h56.out]; rfl
  have q1 : w5.drew.cell? ⟨g5, 1, none⟩ = some (.int .i64 root) := by show w5.cell? _ = _; rw [blk_cell h56.out]; rfl
  go_region_with (first
    | (go_at_call 99; refine (hof.out _).mono ?_; rintro e w6 ⟨rfl, hBo⟩; have e0 : w6.cell? ⟨g5, 1, none⟩ = some (.int .i64 root) := pw_cell_below hBo q1; have hBo' := Lib.hid (show Below w5.heap.size w5 w6 from ((Below.refl w5.heap.size w5).drew).trans hBo); clear hBo)
    | (go_at_call 160; refine (hHp.out _ hBo'.out).mono ?_; rintro e w7 ⟨rfl, hH7, hB7⟩; have h57 := Lib.hid (show w7.heap[g5]? = some (.cells #[.int .i64 1, .int .i64 root, .int .i64 n] 25 (0, 0)) from (hB7.block g5 hgl.out).trans (blk_below h56.out hBo'.out)); have h97 := Lib.hid (show w7.heap[g9]? = some (.cells #[.int .i64 0, .int .i64 0, .int .i64 0] 25 (0, 0)) from (hB7.block g9 hgl9.out).trans (blk_below h96.out hBo'.out)); have hB7' := Lib.hid (hB6.out.trans ((hBo'.out.mono hsw.out).trans (hB7.mono hsw1.out))); have hH7' := Lib.hid hH7; have f1 : w7.frozen? ⟨g5, 1, none⟩ = false := blk_frozen h57.out 1; have c1' : w7.cell? ⟨g5, 1, none⟩ = some (.int .i64 root) := (blk_cell h57.out 1).trans rfl; clear hH7 hB7))
  all_goals
    have hnw : IntKind.i64.wrap (n - 1) = n - 1 := IntWalk.i64_in _ (by omega)
    have h58 := Lib.hid (blk_set h57.out 1 (.int .i64 r))
    have c2 : (w7.setCell ⟨g5, 1, none⟩ (.int .i64 r)).cell? ⟨g5, 2, none⟩ = some (.int .i64 n) := by rw [blk_cell h58.out]; rfl
    have f2 : (w7.setCell ⟨g5, 1, none⟩ (.int .i64 r)).frozen? ⟨g5, 2, none⟩ = false := blk_frozen h58.out 2
    have h59 := Lib.hid (blk_set h58.out 2 (.int .i64 (n - 1)))
    have h99 := Lib.hid (blk_far (p := ⟨g5, 2, none⟩) (blk_far (p := ⟨g5, 1, none⟩) h97.out (show g9 ≠ g5 by have := hg9.out; have := hg5.out; omega) (.int .i64 r)) (show g9 ≠ g5 by have := hg9.out; have := hg5.out; omega) (.int .i64 (n - 1)))
    have hH9 := Lib.hid ((hH7'.out.set25 h57.out 1 (.int .i64 r)).set25 h58.out 2 (.int .i64 (n - 1)))
    have hB9 := Lib.hid ((hB7'.out.setCell (p := ⟨g5, 1, none⟩) (show w.heap.size ≤ g5 by rw [hg5.out]; exact Nat.le_refl _) (.int .i64 r)).setCell (p := ⟨g5, 2, none⟩) (show w.heap.size ≤ g5 by rw [hg5.out]; exact Nat.le_refl _) (.int .i64 (n - 1)))
    clear q0 q1 e0 f1 c1' hof hHp hmm h56 h96 hBo' hgl hgl9 hsw hsw1 hs3 hs4
    go_wp2
    clear hnw c2 f2
    obtain ⟨W6, hW6⟩ : ∃ W6, W6 = (w7.setCell ⟨g5, 1, none⟩ (.int .i64 r)).setCell ⟨g5, 2, none⟩ (.int .i64 (n - 1)) := ⟨_, rfl⟩
    rw [← hW6]
    rw [← hW6] at h59 h99 hH9 hB9
    replace h99 := Lib.hid (show ∃ a b c, W6.heap[g9]? = some (.cells #[a, b, c] 25 (0, 0)) from ⟨_, _, _, h99.out⟩)
    replace h59 := Lib.hid (show W6.heap[g5]? = some (.cells #[.int .i64 1, .int .i64 r, .int .i64 (n - 1)] 25 (0, 0)) from h59.out)
    clear hW6 h57 h58 h97 hH7' hB7'
    obtain ⟨hq0, v5, hv5, hr5⟩ := hH9.out
    obtain ⟨A5, c5, rfl⟩ := Kd.R_slice hr5
    rw [sn_len] at hv5
    rw [sn_len] at hr5
    have hho := Lib.hid (show Hold1 hb g9 g5 (.slice A5 K.length c5) (.int .i64 1) (.int .i64 r) (.int .i64 (n - 1)) W6 from ⟨⟨hv5, h59.out⟩, h99.out⟩)
    have hnes := Lib.hid (show hb ≠ g9 ∧ g5 ≠ g9 by have := hs2.out; have := hg9.out; have := hg5.out; omega)
    have hd6 := Lib.hid hho.out.drew
    have hd7 := Lib.hid (fun (x y z : Value) => (hho.out.set hnes.out x y z).drew)
    have hfin := Lib.hid (fun (x y z : Value) => (show Kd.R kSN 95 (((W6.setCell ⟨g9, 0, none⟩ x).setCell ⟨g9, 1, none⟩ y).setCell ⟨g9, 2, none⟩ z).drew w.heap.size (fun _ => True) (.slice A5 K.length c5) (sn K) ∧ Below w.heap.size w (((W6.setCell ⟨g9, 0, none⟩ x).setCell ⟨g9, 1, none⟩ y).setCell ⟨g9, 2, none⟩ z).drew from
      ⟨Kd.R_lower (out_set_d hr5 h99.out x y z) (by have := hs2.out; omega), (below_setk hB9.out (show w.heap.size ≤ g9 by rw [hg9.out]; omega) x y z).drew⟩))
    obtain ⟨-, k0, k1, k2, k3, f0, f1, f2, d0, d1, d2⟩ := hho.out.cells
    clear hv5 hr5 hq0 hH9 b1 b2 hla hgr hct hgc hcc hB1 hB3' o1' hc1 hB0 hBw hll
    go_region_held3 (fun W' => Hold1 hb g9 g5 (.slice A5 K.length c5) (.int .i64 1) (.int .i64 r) (.int .i64 (n - 1)) W' ∧ W'.cell? ⟨hb, 0, none⟩ = some (.slice A5 K.length c5) ∧ W'.cell? ⟨g5, 0, none⟩ = some (.int .i64 1) ∧ W'.cell? ⟨g5, 1, none⟩ = some (.int .i64 r) ∧ W'.cell? ⟨g5, 2, none⟩ = some (.int .i64 (n - 1)) ∧ W'.frozen? ⟨g9, 0, none⟩ = false ∧ W'.frozen? ⟨g9, 1, none⟩ = false ∧ W'.frozen? ⟨g9, 2, none⟩ = false ∧ W'.cell? ⟨g9, 0, none⟩ = some (heldAt g9 0 W') ∧ W'.cell? ⟨g9, 1, none⟩ = some (heldAt g9 1 W') ∧ W'.cell? ⟨g9, 2, none⟩ = some (heldAt g9 2 W'))
      (first
        | with_reducible exact Hold1.cells hd6.out
        | with_reducible exact Hold1.cells (hd7.out _ _ _)
        | with_reducible exact Hold1.cells (by with_reducible assumption)
        | fail)
      (first | fail)
    go_wp2
    refine bodyPost_ret (results_tct rfl _ _ g9 #[.int .i64 1, .int .i64 r, .int .i64 (n - 1)] rfl (load_set3_d h99.out)) rfl ?_
    exact ⟨⟨_, by rfl, (hfin.out _ _ _).1⟩, (hfin.out _ _ _).2⟩
set_option maxRecDepth 100000 in
set_option maxHeartbeats 1000000 in
theorem Put_of {H K : Sh.Hp} {f root n x f1 r1 n1 e1 : Int} {A : Option Addr} {c : Nat} {w : World} (hC : Nodes w A H) (h81 : ∀ W, Nodes W A H → Calls Tryz.prog 81 #[.slice A H.length c, shV f root n, .int .i64 x, .bool true] W fun e w' => Out3 W.heap.size w' e K f1 r1 n1 e1 ∧ Below W.heap.size W w') :
    Calls Tryz.prog 36 #[.slice A H.length c, shV f root n, .int .i64 x] w fun e w' => Out3 w.heap.size w' e K f1 r1 n1 e1 ∧ Below w.heap.size w w' := by
  obtain ⟨W0, hW0⟩ : ∃ W0, W0 = (w.alloc (.cells #[.int .i64 f, .int .i64 root, .int .i64 n] 25)).alloc zero25 := ⟨_, rfl⟩
  have hsz := Lib.hid (show W0.heap.size = w.heap.size + 2 by rw [hW0, World.size_alloc, World.size_alloc])
  have b3 := Lib.hid (show W0.heap[w.heap.size + 1]? = some (.cells #[.int .i64 0, .int .i64 0, .int .i64 0] 25 (0, 0)) by
    have := heap_alloc_new (w.alloc (.cells #[.int .i64 f, .int .i64 root, .int .i64 n] 25)) zero25
    rw [World.size_alloc] at this
    rw [hW0]
    exact this)
  have hB0 := Lib.hid (show Below w.heap.size w W0 by rw [hW0]; exact two_alloc w _ _)
  have hcl := Lib.hid (h81 W0 (Kd.C_below hC hB0.out))
  clear hC h81
  go_enter Tryz.func36, Tryz.ntmps36
  go_wp2_with fail
  rw [← hW0]
  clear hW0
  refine (hcl.out).mono ?_
  rintro e w4 ⟨⟨v4, rfl, hR4⟩, hB4⟩
  have hr4 := blk_below b3.out hB4
  have hf4 := blk_frozen hr4
  have c40 : w4.cell? ⟨w.heap.size + 1, 0, none⟩ = some (.int .i64 0) := by rw [blk_cell hr4]; rfl
  have c41 : w4.cell? ⟨w.heap.size + 1, 1, none⟩ = some (.int .i64 0) := by rw [blk_cell hr4]; rfl
  have c42 : w4.cell? ⟨w.heap.size + 1, 2, none⟩ = some (.int .i64 0) := by rw [blk_cell hr4]; rfl
  have hBf := Lib.hid (hB0.out.trans (hB4.mono (by have := hsz.out; omega)))
  have hsr := Lib.hid (show w.heap.size ≤ W0.heap.size by have := hsz.out; omega)
  replace hr4 := Lib.hid hr4
  replace hR4 := Lib.hid hR4
  clear hB4
  go_wp2
  refine bodyPost_ret (results_tct rfl _ _ (w.heap.size + 1) #[.int .i64 f1, .int .i64 r1, .int .i64 n1] rfl (load_set3 hr4.out)) rfl ?_
  exact ⟨⟨v4, rfl, Kd.R_lower (out_set hR4.out hr4.out _ _ _) hsr.out⟩, (((hBf.out.setCell (p := ⟨w.heap.size + 1, 0, none⟩) (by show w.heap.size ≤ w.heap.size + 1; omega) _).setCell (p := ⟨w.heap.size + 1, 1, none⟩) (by show w.heap.size ≤ w.heap.size + 1; omega) _).setCell (p := ⟨w.heap.size + 1, 2, none⟩) (by show w.heap.size ≤ w.heap.size + 1; omega) _)⟩
set_option maxRecDepth 100000 in
set_option maxHeartbeats 1000000 in
theorem Drop_of {H K : Sh.Hp} {f root n x f1 r1 n1 e1 : Int} {A : Option Addr} {c : Nat} {w : World} (hC : Nodes w A H) (h81 : ∀ W, Nodes W A H → Calls Tryz.prog 81 #[.slice A H.length c, shV f root n, .int .i64 x, .bool false] W fun e w' => Out3 W.heap.size w' e K f1 r1 n1 e1 ∧ Below W.heap.size W w') :
    Calls Tryz.prog 37 #[.slice A H.length c, shV f root n, .int .i64 x] w fun e w' => Out3 w.heap.size w' e K f1 r1 n1 e1 ∧ Below w.heap.size w w' := by
  obtain ⟨W0, hW0⟩ : ∃ W0, W0 = (w.alloc (.cells #[.int .i64 f, .int .i64 root, .int .i64 n] 25)).alloc zero25 := ⟨_, rfl⟩
  have hsz := Lib.hid (show W0.heap.size = w.heap.size + 2 by rw [hW0, World.size_alloc, World.size_alloc])
  have b3 := Lib.hid (show W0.heap[w.heap.size + 1]? = some (.cells #[.int .i64 0, .int .i64 0, .int .i64 0] 25 (0, 0)) by
    have := heap_alloc_new (w.alloc (.cells #[.int .i64 f, .int .i64 root, .int .i64 n] 25)) zero25
    rw [World.size_alloc] at this
    rw [hW0]
    exact this)
  have hB0 := Lib.hid (show Below w.heap.size w W0 by rw [hW0]; exact two_alloc w _ _)
  have hcl := Lib.hid (h81 W0 (Kd.C_below hC hB0.out))
  clear hC h81
  go_enter Tryz.func37, Tryz.ntmps37
  go_wp2_with fail
  rw [← hW0]
  clear hW0
  refine (hcl.out).mono ?_
  rintro e w4 ⟨⟨v4, rfl, hR4⟩, hB4⟩
  have hr4 := blk_below b3.out hB4
  have hf4 := blk_frozen hr4
  have c40 : w4.cell? ⟨w.heap.size + 1, 0, none⟩ = some (.int .i64 0) := by rw [blk_cell hr4]; rfl
  have c41 : w4.cell? ⟨w.heap.size + 1, 1, none⟩ = some (.int .i64 0) := by rw [blk_cell hr4]; rfl
  have c42 : w4.cell? ⟨w.heap.size + 1, 2, none⟩ = some (.int .i64 0) := by rw [blk_cell hr4]; rfl
  have hBf := Lib.hid (hB0.out.trans (hB4.mono (by have := hsz.out; omega)))
  have hsr := Lib.hid (show w.heap.size ≤ W0.heap.size by have := hsz.out; omega)
  replace hr4 := Lib.hid hr4
  replace hR4 := Lib.hid hR4
  clear hB4
  go_wp2
  refine bodyPost_ret (results_tct rfl _ _ (w.heap.size + 1) #[.int .i64 f1, .int .i64 r1, .int .i64 n1] rfl (load_set3 hr4.out)) rfl ?_
  exact ⟨⟨v4, rfl, Kd.R_lower (out_set hR4.out hr4.out _ _ _) hsr.out⟩, (((hBf.out.setCell (p := ⟨w.heap.size + 1, 0, none⟩) (by show w.heap.size ≤ w.heap.size + 1; omega) _).setCell (p := ⟨w.heap.size + 1, 1, none⟩) (by show w.heap.size ≤ w.heap.size + 1; omega) _).setCell (p := ⟨w.heap.size + 1, 2, none⟩) (by show w.heap.size ≤ w.heap.size + 1; omega) _)⟩
end Go.Proofs.YtbfedeedicnedaaGreat
end
