/-
  Texts of this claim: ShAM, ShWT.
-/
import Derived.Test.YtbfedeedicnedaaGreatSe18
set_option linter.unusedVariables false
set_option linter.unusedSimpArgs false
section
namespace Go.Proofs.YtbfedeedicnedaaGreat
open Go.RowKit
open Go.Proofs.YtbfedeedicnedaaGreatW.PrintWords
theorem results_tcctt {fn : Func} {p q u v z : Tmp} {ty : TypeId} (h : fn.results = #[.tmp u, .cell p ty, .cell q ty, .tmp v, .tmp z]) (tmps : Array Value) (w : World) (g k : Nat) (cs ds : Array Value)
    (hp : tmps.getD p undef = .pointer (some ⟨g, 0, none⟩)) (hq : tmps.getD q undef = .pointer (some ⟨k, 0, none⟩)) (hl : (loadVar ty ⟨g, 0, none⟩).run Tryz.prog w = .ok (.agg cs) w) (hk : (loadVar ty ⟨k, 0, none⟩).run Tryz.prog w = .ok (.agg ds) w) :
    (results fn tmps).run Tryz.prog w = .ok (.tuple #[tmps.getD u undef, .agg cs, .agg ds, tmps.getD v undef, tmps.getD z undef]) w := by
  have hp' : tmps[p]?.getD undef = .pointer (some ⟨g, 0, none⟩) := by simpa using hp
  have hq' : tmps[q]?.getD undef = .pointer (some ⟨k, 0, none⟩) := by simpa using hq
  simp [results, h, hp', hq', asAddr, hl, hk]
def Out5 (base : Nat) (w' : World) (e : Ending) (K : Sh.Hp) (f r1 n1 r2 n2 : Int) (is : Bool) (err : Int) : Prop := ∃ v, e = .returned (.tuple #[v, shV f r1 n1, shV f r2 n2, .bool is, .int .i64 err]) ∧ Kd.R kSN 95 w' base (fun _ => True) v (sn K)
theorem R_drew {w : World} {b : Nat} {v : Value} {xs : List SN} (h : Kd.R kSN 95 w b (fun _ => True) v xs) : Kd.R kSN 95 w.drew b (fun _ => True) v xs := Kd.R_below h ((Below.refl _ _).drew)
theorem drew_heap (w : World) : w.drew.heap = w.heap := rfl
theorem load_two_d {w : World} {q k : Nat} {a b c x y z a' b' c' x' y' z' : Value} (hqk : q ≠ k) (h : w.heap[q]? = some (.cells #[a, b, c] 25 (0, 0))) (h' : w.heap[k]? = some (.cells #[a', b', c'] 25 (0, 0))) :
    let W := ((((((w.setCell ⟨q, 0, none⟩ x).setCell ⟨q, 1, none⟩ y).setCell ⟨q, 2, none⟩ z).setCell ⟨k, 0, none⟩ x').setCell ⟨k, 1, none⟩ y').setCell ⟨k, 2, none⟩ z').drew
    (loadVar 25 ⟨q, 0, none⟩).run Tryz.prog W = .ok (.agg #[x, y, z]) W ∧ (loadVar 25 ⟨k, 0, none⟩).run Tryz.prog W = .ok (.agg #[x', y', z']) W := by
  intro W
  have hk : k ≠ q := fun e => hqk e.symm
  have h1 := blk_set (blk_set (blk_set h 0 x) 1 y) 2 z
  have h2 := blk_far (p := ⟨q, 2, none⟩) (blk_far (p := ⟨q, 1, none⟩) (blk_far (p := ⟨q, 0, none⟩) h' hk x) hk y) hk z
  exact ⟨load_shape ((congrArg (·[q]?) (drew_heap _)).trans (blk_far (p := ⟨k, 2, none⟩) (blk_far (p := ⟨k, 1, none⟩) (blk_far (p := ⟨k, 0, none⟩) h1 hqk x') hqk y') hqk z')) rfl, load_shape ((congrArg (·[k]?) (drew_heap _)).trans (blk_set (blk_set (blk_set h2 0 x') 1 y') 2 z')) rfl⟩
theorem below_setk {w w1 : World} {q k : Nat} (h : Below q w w1) (hk : q ≤ k) (x y z : Value) : Below q w (((w1.setCell ⟨k, 0, none⟩ x).setCell ⟨k, 1, none⟩ y).setCell ⟨k, 2, none⟩ z) :=
  ((h.setCell (p := ⟨k, 0, none⟩) hk x).setCell (p := ⟨k, 1, none⟩) hk y).setCell (p := ⟨k, 2, none⟩) hk z
def Hold5 (hb g7 g8 q1 q2 : Nat) (vh a0 a1 a2 b0 b1 b2 : Value) (W : World) : Prop := (W.heap[hb]? = some (.cells #[vh] 124 (0, 0)) ∧ W.heap[q1]? = some (.cells #[a0, a1, a2] 25 (0, 0)) ∧ W.heap[q2]? = some (.cells #[b0, b1, b2] 25 (0, 0))) ∧ (∃ x y z, W.heap[g7]? = some (.cells #[x, y, z] 25 (0, 0))) ∧ ∃ x y z, W.heap[g8]? = some (.cells #[x, y, z] 25 (0, 0))
abbrev Cells5 (hb g7 g8 q1 q2 : Nat) (vh a0 a1 a2 b0 b1 b2 : Value) (W' : World) : Prop := Hold5 hb g7 g8 q1 q2 vh a0 a1 a2 b0 b1 b2 W' ∧ W'.cell? ⟨hb, 0, none⟩ = some vh ∧ W'.cell? ⟨q1, 0, none⟩ = some a0 ∧ W'.cell? ⟨q1, 1, none⟩ = some a1 ∧ W'.cell? ⟨q1, 2, none⟩ = some a2 ∧ W'.cell? ⟨q2, 0, none⟩ = some b0 ∧ W'.cell? ⟨q2, 1, none⟩ = some b1 ∧ W'.cell? ⟨q2, 2, none⟩ = some b2 ∧ W'.frozen? ⟨g7, 0, none⟩ = false ∧ W'.frozen? ⟨g7, 1, none⟩ = false ∧ W'.frozen? ⟨g7, 2, none⟩ = false ∧ W'.frozen? ⟨g8, 0, none⟩ = false ∧ W'.frozen? ⟨g8, 1, none⟩ = false ∧ W'.frozen? ⟨g8, 2, none⟩ = false ∧ W'.cell? ⟨g7, 0, none⟩ = some (heldAt g7 0 W') ∧ W'.cell? ⟨g7, 1, none⟩ = some (heldAt g7 1 W') ∧ W'.cell? ⟨g7, 2, none⟩ = some (heldAt g7 2 W') ∧ W'.cell? ⟨g8, 0, none⟩ = some (heldAt g8 0 W') ∧ W'.cell? ⟨g8, 1, none⟩ = some (heldAt g8 1 W') ∧ W'.cell? ⟨g8, 2, none⟩ = some (heldAt g8 2 W')
theorem Hold5.cells {hb g7 g8 q1 q2 : Nat} {vh a0 a1 a2 b0 b1 b2 : Value} {W : World} (h : Hold5 hb g7 g8 q1 q2 vh a0 a1 a2 b0 b1 b2 W) : Cells5 hb g7 g8 q1 q2 vh a0 a1 a2 b0 b1 b2 W := by
  have h9 := h
  obtain ⟨⟨h1, h2, h3⟩, ⟨x, y, z, h4⟩, x', y', z', h5⟩ := h
  refine ⟨h9, blk_cell h1 0, blk_cell h2 0, blk_cell h2 1, blk_cell h2 2, blk_cell h3 0, blk_cell h3 1, blk_cell h3 2, blk_frozen h4 0, blk_frozen h4 1, blk_frozen h4 2, blk_frozen h5 0, blk_frozen h5 1, blk_frozen h5 2, heldAt_eq (q := x) (blk_cell h4 0), heldAt_eq (q := y) (blk_cell h4 1), heldAt_eq (q := z) (blk_cell h4 2), heldAt_eq (q := x') (blk_cell h5 0), heldAt_eq (q := y') (blk_cell h5 1), heldAt_eq (q := z') (blk_cell h5 2)⟩
theorem Hold5.drew {hb g7 g8 q1 q2 : Nat} {vh a0 a1 a2 b0 b1 b2 : Value} {W : World} (h : Hold5 hb g7 g8 q1 q2 vh a0 a1 a2 b0 b1 b2 W) : Hold5 hb g7 g8 q1 q2 vh a0 a1 a2 b0 b1 b2 W.drew := h
theorem Hold5.set {hb g7 g8 q1 q2 k : Nat} {vh a0 a1 a2 b0 b1 b2 : Value} {W : World} (h : Hold5 hb g7 g8 q1 q2 vh a0 a1 a2 b0 b1 b2 W) (hk : k = g7 ∨ k = g8) (hne : g7 ≠ g8 ∧ hb ≠ g7 ∧ hb ≠ g8 ∧ q1 ≠ g7 ∧ q1 ≠ g8 ∧ q2 ≠ g7 ∧ q2 ≠ g8) (x y z : Value) : Hold5 hb g7 g8 q1 q2 vh a0 a1 a2 b0 b1 b2 (((W.setCell ⟨k, 0, none⟩ x).setCell ⟨k, 1, none⟩ y).setCell ⟨k, 2, none⟩ z) := by
  obtain ⟨⟨h1, h2, h3⟩, ⟨x1, y1, z1, h4⟩, x', y', z', h5⟩ := h
  obtain ⟨n0, n1, n2, n3, n4, n5, n6⟩ := hne
  have far : ∀ {j : Nat} {t : TypeId} {cs : Array Value}, j ≠ k → W.heap[j]? = some (.cells cs t (0, 0)) → (((W.setCell ⟨k, 0, none⟩ x).setCell ⟨k, 1, none⟩ y).setCell ⟨k, 2, none⟩ z).heap[j]? = some (.cells cs t (0, 0)) := fun hj hh =>
    blk_far (p := ⟨k, 2, none⟩) (blk_far (p := ⟨k, 1, none⟩) (blk_far (p := ⟨k, 0, none⟩) hh hj x) hj y) hj z
  have near : ∀ {u v o : Value}, W.heap[k]? = some (.cells #[u, v, o] 25 (0, 0)) → ∃ u' v' o', (((W.setCell ⟨k, 0, none⟩ x).setCell ⟨k, 1, none⟩ y).setCell ⟨k, 2, none⟩ z).heap[k]? = some (.cells #[u', v', o'] 25 (0, 0)) := fun hh => ⟨x, y, z, blk_set (blk_set (blk_set hh 0 x) 1 y) 2 z⟩
  rcases hk with rfl | rfl
  · exact ⟨⟨far n1 h1, far n3 h2, far n5 h3⟩, near h4, _, _, _, far (fun e => n0 e.symm) h5⟩
  · exact ⟨⟨far n2 h1, far n4 h2, far n6 h3⟩, ⟨_, _, _, far n0 h4⟩, near h5⟩
def Sh.more (l : List Int) (x : Int) : Int := (l.length : Int) - (l.countP (· < x) : Nat) - (if l.contains x then 1 else 0)
set_option maxRecDepth 100000 in
set_option maxHeartbeats 3000000 in
theorem Split_calls {H : Sh.Hp} {root n x : Int} {A : Option Addr} {c : Nat} {w : World} {l : List Int} (hC : Nodes w A H) (hLa : ListsF H 3) {t : Int} (ha : Sh.sought H 3 root n x = (l, 0)) (Tt : Sh.Tr H root (-1) 1024 l t) (hll : l.length ≤ 5000) (htt : t ≤ 900) (hlH : H.length ≤ 100000) (hbig : ∀ p ∈ H, p.1.length ≤ 1000000 ∧ p.2.length ≤ 1000000) :
    Calls Tryz.prog 44 #[.slice A H.length c, shV 3 root n, .int .i64 x] w fun e w' => Out5 w.heap.size w' e (Sh.split 2000 H root x).1 3 (Sh.split 2000 H root x).2.1 (l.countP (· < x) : Nat) (Sh.split 2000 H root x).2.2 (Sh.more l x) (l.contains x) 0 ∧ Below w.heap.size w w' := by
  obtain ⟨W0, hW0⟩ : ∃ W0, W0 = ((w.alloc (.cells #[.int .i64 3, .int .i64 root, .int .i64 n] 25)).alloc zero25).alloc zero25 := ⟨_, rfl⟩
  have hsz := Lib.hid (show W0.heap.size = w.heap.size + 3 by rw [hW0, World.size_alloc, World.size_alloc, World.size_alloc])
  have b1 := Lib.hid (show W0.heap[w.heap.size]? = some (.cells #[.int .i64 3, .int .i64 root, .int .i64 n] 25 (0, 0)) by
    rw [hW0]
    exact blk_alloc (blk_alloc (heap_alloc_new w _) _) _)
  have b2 := Lib.hid (show W0.heap[w.heap.size + 1]? = some (.cells #[.int .i64 0, .int .i64 0, .int .i64 0] 25 (0, 0)) by
    have := blk_alloc (heap_alloc_new (w.alloc (.cells #[.int .i64 3, .int .i64 root, .int .i64 n] 25)) zero25) zero25
    rw [World.size_alloc] at this
    rw [hW0]
    exact this)
  have b3 := Lib.hid (show W0.heap[w.heap.size + 2]? = some (.cells #[.int .i64 0, .int .i64 0, .int .i64 0] 25 (0, 0)) by
    have := heap_alloc_new ((w.alloc (.cells #[.int .i64 3, .int .i64 root, .int .i64 n] 25)).alloc zero25) zero25
    rw [World.size_alloc, World.size_alloc] at this
    rw [hW0]
    exact this)
  have hB0 := Lib.hid (show Below w.heap.size w W0 by
    rw [hW0]
    exact (((Below.refl _ _).alloc (Nat.le_refl _) _).alloc (by rw [World.size_alloc]; omega) _).alloc (by rw [World.size_alloc, World.size_alloc]; omega) _)
  have hBw := Lib.hid (fun W (hW : Below W0.heap.size W0 W) => (hB0.out.trans (hW.mono (by have := hsz.out; omega)) : Below w.heap.size w W))
  have hla := Lib.hid (fun W (hW : Below W0.heap.size W0 W) => by have := sought_calls H 3 root n x A c W (Kd.C_below hC (hBw.out W hW)) hLa; rw [ha] at this; exact this)
  have hgr := Lib.hid (fun W (hW : Below W0.heap.size W0 W) => grown_calls A c H W (Kd.C_below hC (hBw.out W hW)) hlH hbig)
  have hsp := Lib.hid (fun base hb W (hW : HeapAt W base hb H) => split_calls base hb 2000 H W hW root (-1) 1024 t l x Tt (by omega) (by omega) (by omega))
  have hD3 : ¬ Digital 3 := by unfold Digital; omega
  have hpl : l.Pairwise (· ≤ ·) := Tt.rise.imp (fun h => Int.le_of_lt h)
  have hbs := Lib.hid (fun base v W (hW : Ints W base v l) => bsearch_calls (x := x) hW (by omega) hpl)
  have hcp : l.countP (· < x) ≤ l.length := List.countP_le_length
  have hmore := Lib.hid (show Sh.more l x = (l.length : Int) - (l.countP (· < x) : Nat) - (if l.contains x then 1 else 0) from rfl)
  generalize Sh.more l x = M at *
  generalize l.countP (· < x) = k at *
  generalize l.contains x = is at *
  generalize Sh.split 2000 H root x = R at *
  clear hC hLa ha hbig hpl Tt
  go_enter Tryz.func44, Tryz.ntmps44
  go_wp2_with fail
  rw [← hW0]
  clear hW0
  refine (hla.out _ (Below.refl _ _)).mono ?_
  rintro e w1 ⟨⟨v1, l1, rfl, o1, hx0, hx1⟩, hb1⟩
  obtain rfl : l1 = l := hx1 hD3
  have o1' := Lib.hid o1
  have hB1 := Lib.hid hb1
  obtain ⟨A1, c1, rfl, hc1, hC1⟩ := Kd.R_reads o1
  have hr7 := blk_below b2.out hb1
  have hr8 := blk_below b3.out hb1
  have hr0 := blk_below b1.out hb1
  have hf7 := blk_frozen hr7
  have hf8 := blk_frozen hr8
  have c00 : w1.cell? ⟨w.heap.size, 0, none⟩ = some (.int .i64 3) := by rw [blk_cell hr0]; rfl
  have c01 : w1.cell? ⟨w.heap.size, 1, none⟩ = some (.int .i64 root) := by rw [blk_cell hr0]; rfl
  have c70 : w1.cell? ⟨w.heap.size + 1, 0, none⟩ = some (.int .i64 0) := by rw [blk_cell hr7]; rfl
  have c71 : w1.cell? ⟨w.heap.size + 1, 1, none⟩ = some (.int .i64 0) := by rw [blk_cell hr7]; rfl
  have c72 : w1.cell? ⟨w.heap.size + 1, 2, none⟩ = some (.int .i64 0) := by rw [blk_cell hr7]; rfl
  have c80 : w1.cell? ⟨w.heap.size + 2, 0, none⟩ = some (.int .i64 0) := by rw [blk_cell hr8]; rfl
  have c81 : w1.cell? ⟨w.heap.size + 2, 1, none⟩ = some (.int .i64 0) := by rw [blk_cell hr8]; rfl
  have c82 : w1.cell? ⟨w.heap.size + 2, 2, none⟩ = some (.int .i64 0) := by rw [blk_cell hr8]; rfl
  replace hr7 := Lib.hid hr7
  replace hr8 := Lib.hid hr8
  replace hr0 := Lib.hid hr0
  clear hb1 o1 hx1 hx0 hC1
  have hgc := Lib.hid (hgr.out w1 hB1.out)
  obtain ⟨n1, hn1⟩ : ∃ n1, n1 = l1.length := ⟨_, rfl⟩
  rw [← hn1] at hll hc1 hcp hmore o1' ⊢
  replace hn1 := Lib.hid hn1
  go_wp2_with fail
  refine (hgc.out).mono ?_
  rintro e w3 ⟨hb, rfl, hH3, hB3⟩
  have hB3' := Lib.hid (hB1.out.trans (hB3.mono hB1.out.size))
  have p1 : w3.cell? ⟨w.heap.size, 1, none⟩ = some (.int .i64 root) := by rw [blk_cell (blk_below b1.out hB3'.out)]; rfl
  have hjc := Lib.hid (hsp.out w1.heap.size hb w3 hH3)
  have hs2 := Lib.hid (show w.heap.size + 3 ≤ w1.heap.size by have := hB1.out.size; have := hsz.out; omega)
  have hB3h := Lib.hid hB3
  clear hH3 hB3
  go_wp2_with fail
  refine (hjc.out).mono ?_
  rintro e w4 ⟨rfl, hH4, hB4⟩
  have hB4' := Lib.hid (hB3'.out.trans (hB4.mono (by have := hs2.out; have := hsz.out; omega)))
  have o4 := Kd.R_below o1'.out (hB3h.out.trans hB4)
  have hbc := Lib.hid (hbs.out _ _ _ (by rw [hn1.out] at o4; exact o4))
  rw [← hn1.out] at hbc
  replace hH4 := Lib.hid hH4
  clear hB4 o4
  go_wp2_with fail
  refine (hbc.out).mono ?_
  rintro e w5 ⟨rfl, nn, hw5⟩
  have hB5' := Lib.hid (show Below W0.heap.size W0 w5 by rw [hw5]; exact hB4'.out.trans ⟨rfl, rfl, rfl, Nat.le_refl _, fun _ _ => rfl⟩)
  have hH5 := (show HeapAt w5 w1.heap.size hb R.1 by rw [hw5]; exact hH4.out.step ⟨rfl, rfl, rfl, Nat.le_refl _, fun _ _ => rfl⟩)
  obtain ⟨hq0, v5, hv5, hr5⟩ := hH5
  obtain ⟨A5, c5, rfl⟩ := Kd.R_slice hr5
  rw [sn_len] at hv5
  rw [sn_len] at hr5
  have hcell : w5.cell? ⟨hb, 0, none⟩ = some (.slice A5 R.1.length c5) := by rw [blk_cell hv5]; rfl
  replace hr5 := Lib.hid hr5
  clear hw5 hr7 hr8 hr0 hf7 hf8 c00 c01 c70 c71 c72 c80 c81 c82 p1
  have hr7 := blk_below b2.out hB5'.out
  have hr8 := blk_below b3.out hB5'.out
  have hr0 := blk_below b1.out hB5'.out
  have hf7 := blk_frozen hr7
  have hf8 := blk_frozen hr8
  have c00 : w5.cell? ⟨w.heap.size, 0, none⟩ = some (.int .i64 3) := by rw [blk_cell hr0]; rfl
  have c01 : w5.cell? ⟨w.heap.size, 1, none⟩ = some (.int .i64 root) := by rw [blk_cell hr0]; rfl
  have c70 : w5.cell? ⟨w.heap.size + 1, 0, none⟩ = some (.int .i64 0) := by rw [blk_cell hr7]; rfl
  have c71 : w5.cell? ⟨w.heap.size + 1, 1, none⟩ = some (.int .i64 0) := by rw [blk_cell hr7]; rfl
  have c72 : w5.cell? ⟨w.heap.size + 1, 2, none⟩ = some (.int .i64 0) := by rw [blk_cell hr7]; rfl
  have c80 : w5.cell? ⟨w.heap.size + 2, 0, none⟩ = some (.int .i64 0) := by rw [blk_cell hr8]; rfl
  have c81 : w5.cell? ⟨w.heap.size + 2, 1, none⟩ = some (.int .i64 0) := by rw [blk_cell hr8]; rfl
  have c82 : w5.cell? ⟨w.heap.size + 2, 2, none⟩ = some (.int .i64 0) := by rw [blk_cell hr8]; rfl
  replace hr7 := Lib.hid hr7
  replace hr8 := Lib.hid hr8
  replace hr0 := Lib.hid hr0

  have hne1 := Lib.hid (show hb ≠ w.heap.size + 1 by have := hs2.out; omega)
  have hne2 := Lib.hid (show hb ≠ w.heap.size + 2 by have := hs2.out; omega)
  have hge := Lib.hid (show w.heap.size + 3 ≤ w5.heap.size by have := hB5'.out.size; have := hsz.out; omega)
  replace hv5 := Lib.hid hv5
  clear hq0
  cases is
  case false =>
    obtain rfl : M = (n1 : Int) - (k : Int) := by rw [hmore.out]; simp
    go_wp2
    obtain ⟨M0, hM0⟩ : ∃ M0 : Int, M0 = (n1 : Int) - (k : Int) := ⟨_, rfl⟩
    rw [← hM0]
    replace hM0 := Lib.hid hM0
    obtain ⟨W6, hW6⟩ : ∃ W6, W6 = (w5.alloc (Obj.cells #[.int .i64 3, .int .i64 R.2.1, .int .i64 k] 25)).alloc (Obj.cells #[.int .i64 3, .int .i64 R.2.2, .int .i64 M0] 25) := ⟨_, rfl⟩
    rw [← hW6]
    obtain ⟨g7, hg7⟩ : ∃ g7, g7 = w.heap.size + 1 := ⟨_, rfl⟩
    obtain ⟨g8, hg8⟩ : ∃ g8, g8 = g7 + 1 := ⟨_, rfl⟩
    obtain ⟨q1, hq1⟩ : ∃ q1, q1 = w5.heap.size := ⟨_, rfl⟩
    obtain ⟨q2, hq2⟩ : ∃ q2, q2 = q1 + 1 := ⟨_, rfl⟩
    have hho := Lib.hid (show Hold5 hb g7 g8 q1 q2 (.slice A5 R.1.length c5) (.int .i64 3) (.int .i64 R.2.1) (.int .i64 k) (.int .i64 3) (.int .i64 R.2.2) (.int .i64 M0) W6 by
      rw [hW6, hg8, hg7, hq2, hq1]
      refine ⟨⟨blk_alloc (blk_alloc hv5.out _) _, blk_alloc (heap_alloc_new w5 _) _, ?_⟩, ⟨_, _, _, blk_alloc (blk_alloc hr7.out _) _⟩, _, _, _, blk_alloc (blk_alloc hr8.out _) _⟩
      have := heap_alloc_new (w5.alloc (Obj.cells #[.int .i64 3, .int .i64 R.2.1, .int .i64 k] 25)) (Obj.cells #[.int .i64 3, .int .i64 R.2.2, .int .i64 M0] 25)
      rw [World.size_alloc] at this
      exact this)
    have hr6 := Lib.hid (show Kd.R kSN 95 W6 w1.heap.size (fun _ => True) (.slice A5 R.1.length c5) (sn R.1) by rw [hW6]; exact Kd.R_alloc (Kd.R_alloc hr5.out _) _)
    have hB6 := Lib.hid (show Below W0.heap.size W0 W6 by rw [hW6]; exact (hB5'.out.alloc hB5'.out.size _).alloc (by rw [World.size_alloc]; exact Nat.le_succ_of_le hB5'.out.size) _)
    have hnes := Lib.hid (show g7 ≠ g8 ∧ hb ≠ g7 ∧ hb ≠ g8 ∧ q1 ≠ g7 ∧ q1 ≠ g8 ∧ q2 ≠ g7 ∧ q2 ≠ g8 by have := hne1.out; have := hne2.out; have := hge.out; omega)
    have hd7 := Lib.hid (fun (x y z : Value) => (show Hold5 hb g7 g8 q1 q2 (.slice A5 R.1.length c5) (.int .i64 3) (.int .i64 R.2.1) (.int .i64 k) (.int .i64 3) (.int .i64 R.2.2) (.int .i64 M0) (((W6.setCell ⟨g7, 0, none⟩ x).setCell ⟨g7, 1, none⟩ y).setCell ⟨g7, 2, none⟩ z).drew from (hho.out.set (.inl rfl) hnes.out x y z).drew))
    have hd78 := Lib.hid (fun (x y z x' y' z' : Value) => (show Hold5 hb g7 g8 q1 q2 (.slice A5 R.1.length c5) (.int .i64 3) (.int .i64 R.2.1) (.int .i64 k) (.int .i64 3) (.int .i64 R.2.2) (.int .i64 M0) ((((((W6.setCell ⟨g7, 0, none⟩ x).setCell ⟨g7, 1, none⟩ y).setCell ⟨g7, 2, none⟩ z).setCell ⟨g8, 0, none⟩ x').setCell ⟨g8, 1, none⟩ y').setCell ⟨g8, 2, none⟩ z').drew from ((hho.out.set (.inl rfl) hnes.out x y z).set (.inr rfl) hnes.out x' y' z').drew))
    have hfin := Lib.hid (fun (x y z x' y' z' : Value) => (show Kd.R kSN 95 ((((((W6.setCell ⟨g7, 0, none⟩ x).setCell ⟨g7, 1, none⟩ y).setCell ⟨g7, 2, none⟩ z).setCell ⟨g8, 0, none⟩ x').setCell ⟨g8, 1, none⟩ y').setCell ⟨g8, 2, none⟩ z').drew w.heap.size (fun _ => True) (.slice A5 R.1.length c5) (sn R.1) ∧ Below w.heap.size w ((((((W6.setCell ⟨g7, 0, none⟩ x).setCell ⟨g7, 1, none⟩ y).setCell ⟨g7, 2, none⟩ z).setCell ⟨g8, 0, none⟩ x').setCell ⟨g8, 1, none⟩ y').setCell ⟨g8, 2, none⟩ z').drew from by
      obtain ⟨-, ⟨x7, y7, z7, e7⟩, x8, y8, z8, e8⟩ := hho.out
      have e9 := hnes.out.1.symm
      exact ⟨R_drew (Kd.R_lower (out_set (out_set hr6.out e7 x y z) (blk_far (p := ⟨g7, 2, none⟩) (blk_far (p := ⟨g7, 1, none⟩) (blk_far (p := ⟨g7, 0, none⟩) e8 e9 x) e9 y) e9 z) x' y' z') (by have := hs2.out; omega)), (below_setk (below_setk (hBw.out _ hB6.out) (show w.heap.size ≤ g7 by rw [hg7]; omega) x y z) (show w.heap.size ≤ g8 by rw [hg8, hg7]; omega) x' y' z').drew⟩))
    rw [← hg7, ← hg8, ← hq1, ← hq2]
    have hd6 := Lib.hid (show Hold5 hb g7 g8 q1 q2 (.slice A5 R.1.length c5) (.int .i64 3) (.int .i64 R.2.1) (.int .i64 k) (.int .i64 3) (.int .i64 R.2.2) (.int .i64 M0) W6.drew from hho.out.drew)
    clear hW6
    replace hg7 := Lib.hid hg7
    replace hg8 := Lib.hid hg8
    replace hq1 := Lib.hid hq1
    replace hq2 := Lib.hid hq2
    have n87 : ¬ g8 = g7 := fun e => hnes.out.1 e.symm
    have n78 : ¬ g7 = g8 := hnes.out.1
    clear c00 c01 c70 c71 c72 c80 c81 c82 hf7 hf8 hcell hr7 hr8 hr0 hv5 hr5 b1 b2 b3 hla hgr hsp hbs hgc hjc hbc hB1 hB3h hB3' hB4' hH4 o1' hcp hc1 hll hn1 hge hne1 hne2 hB5' hlH htt hD3 hmore
    obtain ⟨-, -, -, -, -, -, -, -, f70, f71, f72, f80, f81, f82, d70, d71, d72, d80, d81, d82⟩ := hho.out.cells
    go_region_held3 (fun W' => Hold5 hb g7 g8 q1 q2 (.slice A5 R.1.length c5) (.int .i64 3) (.int .i64 R.2.1) (.int .i64 k) (.int .i64 3) (.int .i64 R.2.2) (.int .i64 M0) W' ∧ W'.cell? ⟨hb, 0, none⟩ = some (.slice A5 R.1.length c5) ∧ W'.cell? ⟨q1, 0, none⟩ = some (.int .i64 3) ∧ W'.cell? ⟨q1, 1, none⟩ = some (.int .i64 R.2.1) ∧ W'.cell? ⟨q1, 2, none⟩ = some (.int .i64 k) ∧ W'.cell? ⟨q2, 0, none⟩ = some (.int .i64 3) ∧ W'.cell? ⟨q2, 1, none⟩ = some (.int .i64 R.2.2) ∧ W'.cell? ⟨q2, 2, none⟩ = some (.int .i64 M0) ∧ W'.frozen? ⟨g7, 0, none⟩ = false ∧ W'.frozen? ⟨g7, 1, none⟩ = false ∧ W'.frozen? ⟨g7, 2, none⟩ = false ∧ W'.frozen? ⟨g8, 0, none⟩ = false ∧ W'.frozen? ⟨g8, 1, none⟩ = false ∧ W'.frozen? ⟨g8, 2, none⟩ = false ∧ W'.cell? ⟨g7, 0, none⟩ = some (heldAt g7 0 W') ∧ W'.cell? ⟨g7, 1, none⟩ = some (heldAt g7 1 W') ∧ W'.cell? ⟨g7, 2, none⟩ = some (heldAt g7 2 W') ∧ W'.cell? ⟨g8, 0, none⟩ = some (heldAt g8 0 W') ∧ W'.cell? ⟨g8, 1, none⟩ = some (heldAt g8 1 W') ∧ W'.cell? ⟨g8, 2, none⟩ = some (heldAt g8 2 W'))
      (first
        | with_reducible exact Hold5.cells hd6.out
        | with_reducible exact Hold5.cells (hd7.out _ _ _)
        | with_reducible exact Hold5.cells (hd78.out _ _ _ _ _ _)
        | with_reducible exact Hold5.cells (by with_reducible assumption)
        | fail)
      (first | fail)
    go_wp2
    obtain ⟨-, ⟨x7, y7, z7, e7⟩, x8, y8, z8, e8⟩ := hho.out
    refine bodyPost_ret (results_tcctt rfl _ _ g7 g8 #[.int .i64 3, .int .i64 R.2.1, .int .i64 k] #[.int .i64 3, .int .i64 R.2.2, .int .i64 M0] rfl rfl (load_two_d hnes.out.1 e7 e8).1 (load_two_d hnes.out.1 e7 e8).2) rfl ?_
    exact ⟨⟨_, by rw [hM0.out]; rfl, (hfin.out _ _ _ _ _ _).1⟩, (hfin.out _ _ _ _ _ _).2⟩
  case true =>
    obtain rfl : M = (n1 : Int) - (k : Int) - 1 := by rw [hmore.out]; simp
    go_wp2
    obtain ⟨M0, hM0⟩ : ∃ M0 : Int, M0 = (n1 : Int) - (k : Int) - 1 := ⟨_, rfl⟩
    rw [← hM0]
    replace hM0 := Lib.hid hM0
    obtain ⟨W6, hW6⟩ : ∃ W6, W6 = (w5.alloc (Obj.cells #[.int .i64 3, .int .i64 R.2.1, .int .i64 k] 25)).alloc (Obj.cells #[.int .i64 3, .int .i64 R.2.2, .int .i64 M0] 25) := ⟨_, rfl⟩
    rw [← hW6]
    obtain ⟨g7, hg7⟩ : ∃ g7, g7 = w.heap.size + 1 := ⟨_, rfl⟩
    obtain ⟨g8, hg8⟩ : ∃ g8, g8 = g7 + 1 := ⟨_, rfl⟩
    obtain ⟨q1, hq1⟩ : ∃ q1, q1 = w5.heap.size := ⟨_, rfl⟩
    obtain ⟨q2, hq2⟩ : ∃ q2, q2 = q1 + 1 := ⟨_, rfl⟩
    have hho := Lib.hid (show Hold5 hb g7 g8 q1 q2 (.slice A5 R.1.length c5) (.int .i64 3) (.int .i64 R.2.1) (.int .i64 k) (.int .i64 3) (.int .i64 R.2.2) (.int .i64 M0) W6 by
      rw [hW6, hg8, hg7, hq2, hq1]
      refine ⟨⟨blk_alloc (blk_alloc hv5.out _) _, blk_alloc (heap_alloc_new w5 _) _, ?_⟩, ⟨_, _, _, blk_alloc (blk_alloc hr7.out _) _⟩, _, _, _, blk_alloc (blk_alloc hr8.out _) _⟩
      have := heap_alloc_new (w5.alloc (Obj.cells #[.int .i64 3, .int .i64 R.2.1, .int .i64 k] 25)) (Obj.cells #[.int .i64 3, .int .i64 R.2.2, .int .i64 M0] 25)
      rw [World.size_alloc] at this
      exact this)
    have hr6 := Lib.hid (show Kd.R kSN 95 W6 w1.heap.size (fun _ => True) (.slice A5 R.1.length c5) (sn R.1) by rw [hW6]; exact Kd.R_alloc (Kd.R_alloc hr5.out _) _)
    have hB6 := Lib.hid (show Below W0.heap.size W0 W6 by rw [hW6]; exact (hB5'.out.alloc hB5'.out.size _).alloc (by rw [World.size_alloc]; exact Nat.le_succ_of_le hB5'.out.size) _)
    have hnes := Lib.hid (show g7 ≠ g8 ∧ hb ≠ g7 ∧ hb ≠ g8 ∧ q1 ≠ g7 ∧ q1 ≠ g8 ∧ q2 ≠ g7 ∧ q2 ≠ g8 by have := hne1.out; have := hne2.out; have := hge.out; omega)
    have hd7 := Lib.hid (fun (x y z : Value) => (show Hold5 hb g7 g8 q1 q2 (.slice A5 R.1.length c5) (.int .i64 3) (.int .i64 R.2.1) (.int .i64 k) (.int .i64 3) (.int .i64 R.2.2) (.int .i64 M0) (((W6.setCell ⟨g7, 0, none⟩ x).setCell ⟨g7, 1, none⟩ y).setCell ⟨g7, 2, none⟩ z).drew from (hho.out.set (.inl rfl) hnes.out x y z).drew))
    have hd78 := Lib.hid (fun (x y z x' y' z' : Value) => (show Hold5 hb g7 g8 q1 q2 (.slice A5 R.1.length c5) (.int .i64 3) (.int .i64 R.2.1) (.int .i64 k) (.int .i64 3) (.int .i64 R.2.2) (.int .i64 M0) ((((((W6.setCell ⟨g7, 0, none⟩ x).setCell ⟨g7, 1, none⟩ y).setCell ⟨g7, 2, none⟩ z).setCell ⟨g8, 0, none⟩ x').setCell ⟨g8, 1, none⟩ y').setCell ⟨g8, 2, none⟩ z').drew from ((hho.out.set (.inl rfl) hnes.out x y z).set (.inr rfl) hnes.out x' y' z').drew))
    have hfin := Lib.hid (fun (x y z x' y' z' : Value) => (show Kd.R kSN 95 ((((((W6.setCell ⟨g7, 0, none⟩ x).setCell ⟨g7, 1, none⟩ y).setCell ⟨g7, 2, none⟩ z).setCell ⟨g8, 0, none⟩ x').setCell ⟨g8, 1, none⟩ y').setCell ⟨g8, 2, none⟩ z').drew w.heap.size (fun _ => True) (.slice A5 R.1.length c5) (sn R.1) ∧ Below w.heap.size w ((((((W6.setCell ⟨g7, 0, none⟩ x).setCell ⟨g7, 1, none⟩ y).setCell ⟨g7, 2, none⟩ z).setCell ⟨g8, 0, none⟩ x').setCell ⟨g8, 1, none⟩ y').setCell ⟨g8, 2, none⟩ z').drew from by
      obtain ⟨-, ⟨x7, y7, z7, e7⟩, x8, y8, z8, e8⟩ := hho.out
      have e9 := hnes.out.1.symm
      exact ⟨R_drew (Kd.R_lower (out_set (out_set hr6.out e7 x y z) (blk_far (p := ⟨g7, 2, none⟩) (blk_far (p := ⟨g7, 1, none⟩) (blk_far (p := ⟨g7, 0, none⟩) e8 e9 x) e9 y) e9 z) x' y' z') (by have := hs2.out; omega)), (below_setk (below_setk (hBw.out _ hB6.out) (show w.heap.size ≤ g7 by rw [hg7]; omega) x y z) (show w.heap.size ≤ g8 by rw [hg8, hg7]; omega) x' y' z').drew⟩))
    rw [← hg7, ← hg8, ← hq1, ← hq2]
    have hd6 := Lib.hid (show Hold5 hb g7 g8 q1 q2 (.slice A5 R.1.length c5) (.int .i64 3) (.int .i64 R.2.1) (.int .i64 k) (.int .i64 3) (.int .i64 R.2.2) (.int .i64 M0) W6.drew from hho.out.drew)
    clear hW6
    replace hg7 := Lib.hid hg7
    replace hg8 := Lib.hid hg8
    replace hq1 := Lib.hid hq1
    replace hq2 := Lib.hid hq2
    have n87 : ¬ g8 = g7 := fun e => hnes.out.1 e.symm
    have n78 : ¬ g7 = g8 := hnes.out.1
    clear c00 c01 c70 c71 c72 c80 c81 c82 hf7 hf8 hcell hr7 hr8 hr0 hv5 hr5 b1 b2 b3 hla hgr hsp hbs hgc hjc hbc hB1 hB3h hB3' hB4' hH4 o1' hcp hc1 hll hn1 hge hne1 hne2 hB5' hlH htt hD3 hmore
    obtain ⟨-, -, -, -, -, -, -, -, f70, f71, f72, f80, f81, f82, d70, d71, d72, d80, d81, d82⟩ := hho.out.cells
    go_region_held3 (fun W' => Hold5 hb g7 g8 q1 q2 (.slice A5 R.1.length c5) (.int .i64 3) (.int .i64 R.2.1) (.int .i64 k) (.int .i64 3) (.int .i64 R.2.2) (.int .i64 M0) W' ∧ W'.cell? ⟨hb, 0, none⟩ = some (.slice A5 R.1.length c5) ∧ W'.cell? ⟨q1, 0, none⟩ = some (.int .i64 3) ∧ W'.cell? ⟨q1, 1, none⟩ = some (.int .i64 R.2.1) ∧ W'.cell? ⟨q1, 2, none⟩ = some (.int .i64 k) ∧ W'.cell? ⟨q2, 0, none⟩ = some (.int .i64 3) ∧ W'.cell? ⟨q2, 1, none⟩ = some (.int .i64 R.2.2) ∧ W'.cell? ⟨q2, 2, none⟩ = some (.int .i64 M0) ∧ W'.frozen? ⟨g7, 0, none⟩ = false ∧ W'.frozen? ⟨g7, 1, none⟩ = false ∧ W'.frozen? ⟨g7, 2, none⟩ = false ∧ W'.frozen? ⟨g8, 0, none⟩ = false ∧ W'.frozen? ⟨g8, 1, none⟩ = false ∧ W'.frozen? ⟨g8, 2, none⟩ = false ∧ W'.cell? ⟨g7, 0, none⟩ = some (heldAt g7 0 W') ∧ W'.cell? ⟨g7, 1, none⟩ = some (heldAt g7 1 W') ∧ W'.cell? ⟨g7, 2, none⟩ = some (heldAt g7 2 W') ∧ W'.cell? ⟨g8, 0, none⟩ = some (heldAt g8 0 W') ∧ W'.cell? ⟨g8, 1, none⟩ = some (heldAt g8 1 W') ∧ W'.cell? ⟨g8, 2, none⟩ = some (heldAt g8 2 W'))
      (first
        | with_reducible exact Hold5.cells hd6.out
        | with_reducible exact Hold5.cells (hd7.out _ _ _)
        | with_reducible exact Hold5.cells (hd78.out _ _ _ _ _ _)
        | with_reducible exact Hold5.cells (by with_reducible assumption)
        | fail)
      (first | fail)
    go_wp2
    obtain ⟨-, ⟨x7, y7, z7, e7⟩, x8, y8, z8, e8⟩ := hho.out
    refine bodyPost_ret (results_tcctt rfl _ _ g7 g8 #[.int .i64 3, .int .i64 R.2.1, .int .i64 k] #[.int .i64 3, .int .i64 R.2.2, .int .i64 M0] rfl rfl (load_two_d hnes.out.1 e7 e8).1 (load_two_d hnes.out.1 e7 e8).2) rfl ?_
    exact ⟨⟨_, by rw [hM0.out]; rfl, (hfin.out _ _ _ _ _ _).1⟩, (hfin.out _ _ _ _ _ _).2⟩
end Go.Proofs.YtbfedeedicnedaaGreat
end
section
namespace Go.Proofs.YtbfedeedicnedaaGreat
open Go.RowKit
open Go.Proofs.YtbfedeedicnedaaGreatW.PrintWords
theorem GotX.weak {ex : Prop} {base : Nat} {w' : World} {e : Ending} {r : Option (List Int)} (h : GotX False base w' e r) (hx : ¬ ex) : GotX ex base w' e r := by
  obtain ⟨v, l, he, hv, hl, _⟩ := h
  exact ⟨v, l, he, hv, hl, fun h => absurd h hx⟩
namespace WT
def Nodes (w : World) (A : Option Addr) (H : Sh.Hp) : Prop := Go.Proofs.YtbfedeedicnedaaGreat.Nodes w A H ∧ TabOk w
theorem Nodes.alloc {w : World} {A : Option Addr} {H : Sh.Hp} (h : Nodes w A H) (o : Obj) : Nodes (w.alloc o) A H :=
  ⟨Kd.C_alloc h.1 o, h.2.below ((Below.refl w.heap.size w).alloc (Nat.le_refl _) o) h.2.pos⟩
theorem Nodes.below {w w' : World} {A : Option Addr} {H : Sh.Hp} (h : Nodes w A H) (hb : Below w.heap.size w w') : Nodes w' A H :=
  ⟨Kd.C_below h.1 hb, h.2.below hb h.2.pos⟩
def ListsF (H : Sh.Hp) (f : Int) : Prop := H.length ≤ 3000 → ∀ (ty k : Nat), (ty = 154 ∧ k = 163 ∧ f = 1) ∨ (ty = 155 ∧ k = 168 ∧ f = 2) ∨ (ty = 119 ∧ k = 155 ∧ f = 3) ∨ (ty = 156 ∧ k = 181 ∧ f = 4) ∨ (ty = 157 ∧ k = 191 ∧ f = 5) → ∀ (root : Int) (A : Option Addr) (c : Nat) (w : World), Nodes w A H →
  Calls Tryz.prog k #[.agg #[], .slice A H.length c, .int .i64 root] w fun e w' => GotX (¬ Digital f) w.heap.size w' e (Sh.list f H root) ∧ Below w.heap.size w w'
set_option maxRecDepth 100000 in
set_option maxHeartbeats 1000000 in
theorem listed_calls (H : Sh.Hp) (f root count : Int) (A : Option Addr) (c : Nat) (w : World) (hC : Nodes w A H) (hL : ListsF H f) :
    Calls Tryz.prog 60 #[.slice A H.length c, .agg #[.int .i64 f, .int .i64 root, .int .i64 count]] w fun e w' => LGot (¬ Digital f) w.heap.size w' e (Sh.listed H f root count) ∧ Below w.heap.size w w' := by
  have hB0 := Lib.hid (show Below w.heap.size w (w.alloc (.cells #[.int .i64 f, .int .i64 root, .int .i64 count] 25)) from (Below.refl _ _).alloc (Nat.le_refl _) _)
  obtain ⟨R, hR⟩ : ∃ R, R = Sh.listed H f root count := ⟨_, rfl⟩
  rw [← hR]
  unfold Sh.listed at hR
  by_cases h1 : 3000 < H.length
  · rw [if_pos h1] at hR
    subst hR
    go_enter Tryz.func60, Tryz.ntmps60
    go_wp2
    go_ret2
    exact ⟨⟨_, [], rfl, Kd.R_nil _ _ _ _ _, rfl, fun _ => rfl⟩, hB0.out⟩
  rw [if_neg h1] at hR
  have hkn := Lib.hid (fun W => known_calls f W)
  by_cases hf : 1 ≤ f ∧ f ≤ 5
  case neg =>
    have hkf : (decide (1 ≤ f) && decide (f ≤ 5)) = false := by rw [Bool.and_eq_false_iff, decide_eq_false_iff_not, decide_eq_false_iff_not]; omega
    rw [hkf] at hkn
    have hln : Sh.list f H root = none := by
      unfold Sh.list
      rw [if_neg (by omega), if_neg (by omega), if_neg (by omega), if_neg (by omega), if_neg (by omega)]
    rw [hln] at hR
    have hR' : R = ([], 2) := hR
    clear hR
    subst hR'
    clear hkf hln hL
    go_enter Tryz.func60, Tryz.ntmps60
    go_wp2_with fail
    refine (hkn.out _).mono ?_
    rintro e w1 ⟨rfl, rfl⟩
    go_wp2
    go_ret2
    exact ⟨⟨_, [], rfl, Kd.R_nil _ _ _ _ _, rfl, fun _ => rfl⟩, hB0.out⟩
  case pos =>
    obtain ⟨h2, h3⟩ := hf
    have hkf : (decide (1 ≤ f) && decide (f ≤ 5)) = true := by rw [decide_eq_true h2, decide_eq_true h3]; rfl
    rw [hkf] at hkn
    have hof := Lib.hid (fun W => of_calls f W h2 h3)
    obtain ⟨ty, k, hfv, hk, hm⟩ : ∃ (ty k : Nat), formV f = .iface ty (.agg #[]) ∧ ((ty = 154 ∧ k = 163 ∧ f = 1) ∨ (ty = 155 ∧ k = 168 ∧ f = 2) ∨ (ty = 119 ∧ k = 155 ∧ f = 3) ∨ (ty = 156 ∧ k = 181 ∧ f = 4) ∨ (ty = 157 ∧ k = 191 ∧ f = 5)) ∧ (∀ W : World, (method 312 ty (.agg #[]) "sward/shape.list").run Tryz.prog W = .ok (k, .agg #[]) W) := by
      rcases five h2 h3 with rfl | rfl | rfl | rfl | rfl
      · exact ⟨154, 163, rfl, by omega, fun _ => by kernel_rfl⟩
      · exact ⟨155, 168, rfl, by omega, fun _ => by kernel_rfl⟩
      · exact ⟨119, 155, rfl, by omega, fun _ => by kernel_rfl⟩
      · exact ⟨156, 181, rfl, by omega, fun _ => by kernel_rfl⟩
      · exact ⟨157, 191, rfl, by omega, fun _ => by kernel_rfl⟩
    have hls := Lib.hid (hL (by omega) ty k hk root)
    rw [hfv] at hof
    obtain ⟨r, hr⟩ : ∃ r, r = Sh.list f H root := ⟨_, rfl⟩
    rw [← hr] at hls hR
    obtain ⟨w2, hw2⟩ : ∃ w2, w2 = w.alloc (.cells #[.int .i64 f, .int .i64 root, .int .i64 count] 25) := ⟨_, rfl⟩
    have hsz := Lib.hid (show w.heap.size + 1 ≤ w2.heap.size by rw [hw2, World.size_alloc]; omega)
    have hc0 : ∀ W, Below (w.heap.size + 1) w2 W → W.cell? ⟨w.heap.size, 0, none⟩ = some (.int .i64 f) ∧ W.cell? ⟨w.heap.size, 1, none⟩ = some (.int .i64 root) ∧ W.cell? ⟨w.heap.size, 2, none⟩ = some (.int .i64 count) := fun W hW => by
      refine ⟨?_, ?_, ?_⟩
      all_goals
        rw [hW.cell (p := ⟨w.heap.size, _, none⟩) (by show w.heap.size < _; omega), hw2]
        simp
    have hc3 := Lib.hid (fun W hW => (hc0 W hW).2.2)
    have hcc := Lib.hid (fun W hW => (⟨hW, (hc0 W hW).1, (hc0 W hW).2.1⟩ : _ ∧ _ ∧ _))
    have hC2 : Nodes w2 A H := by rw [hw2]; exact Nodes.alloc hC _
    have hNod := Lib.hid (fun W (hW : Below (w.heap.size + 1) w2 W) => (Nodes.below hC2 (hW.mono (by rw [hw2, World.size_alloc]; omega)) : Nodes W A H))
    have hBd := Lib.hid (show Below (w.heap.size + 1) w2 w2.drew from (Below.refl _ _).drew)
    have hB2 := Lib.hid (show Below w.heap.size w w2 by rw [hw2]; exact hB0.out)
    have hexd := Lib.hid (fun (h : ¬ Digital f) => h)
    obtain ⟨D, hD⟩ : ∃ D, D = ¬ Digital f := ⟨_, rfl⟩
    rw [← hD] at hls ⊢
    replace hR := Lib.hid hR
    clear hC2 hc0 hC hL hfv hkf hr hD hexd hB0
    rcases hk with ⟨rfl, rfl, -⟩ | ⟨rfl, rfl, -⟩ | ⟨rfl, rfl, -⟩ | ⟨rfl, rfl, -⟩ | ⟨rfl, rfl, -⟩
    all_goals
      go_enter Tryz.func60, Tryz.ntmps60
      go_wp2_with fail
      refine (hkn.out _).mono ?_
      rintro e w1 ⟨rfl, rfl⟩
      go_wp2
      rw [← hw2]
      clear hw2
      go_region_held3 (fun W' => Below (w.heap.size + 1) w2 W' ∧ W'.cell? ⟨w.heap.size, 0, none⟩ = some (.int .i64 f) ∧ W'.cell? ⟨w.heap.size, 1, none⟩ = some (.int .i64 root))
        (first
          | exact hcc.out _ (by assumption)
          | exact hcc.out _ hBd.out
          | fail)
        (first
          | (go_at_call 99; refine (hof.out _).mono ?_; rintro e w3 ⟨rfl, hb1⟩; have hB3 : Below (w.heap.size + 1) w2 w3 := Below.trans hBd.out (hb1.mono hsz.out); replace hb1 := Lib.hid hb1)
          | (refine (hls.out _ _ _ ?hl).mono ?_; (case hl => exact hNod.out _ (by assumption)); rintro e w4 ⟨⟨v1, l1, rfl, ho1, ho2, ho3⟩, hb2⟩; have hB4 : Below (w.heap.size + 1) w2 w4 := Below.trans (by assumption) (hb2.mono (Nat.le_trans hsz.out (Below.size (by assumption)))); replace ho1 := Lib.hid ho1; replace ho2 := Lib.hid ho2; replace ho3 := Lib.hid ho3; replace hb2 := Lib.hid hb2))
      replace hB4 := Lib.hid (show Below (w.heap.size + 1) w2 w4 from by assumption)
      have hct := hc3.out _ hB4.out
      have hBf := Lib.hid (Below.trans hB2.out (hB4.out.mono (by omega)))
      have hof3 := Lib.hid (Kd.R_lower ho1.out (show w.heap.size ≤ w3.heap.size from Nat.le_trans (by have := hsz.out; omega) (Below.size (show Below (w.heap.size + 1) w2 w3 from by assumption))))
      rcases r with _ | l
      · obtain rfl : R = ([], 2) := hR.out
        go_wp2
        go_ret2
        exact ⟨⟨_, [], rfl, Kd.R_nil _ _ _ _ _, rfl, fun _ => rfl⟩, hBf.out⟩
      · have hlen : l1.length = l.length := ho2.out
        obtain ⟨A5, c5, rfl⟩ := Kd.R_slice hof3.out
        have hRl : R = if (l.length : Int) = count then (l, 0) else ([], 2) := hR.out
        rw [← hlen] at hRl
        obtain ⟨n, hn⟩ : ∃ n, n = l1.length := ⟨_, rfl⟩
        rw [← hn] at hRl hof3 ⊢
        replace hn := Lib.hid hn
        replace hlen := Lib.hid hlen
        by_cases hcn : (n : Int) = count
        · rw [if_pos hcn] at hRl
          subst hRl
          have hcb : ((n : Int) != count) = false := bne_eq_false_iff_eq.mpr hcn
          clear hcn
          go_wp2
          go_ret2
          exact ⟨⟨_, l1, rfl, hof3.out, hlen.out, fun h => ho3.out h⟩, hBf.out⟩
        · rw [if_neg hcn] at hRl
          subst hRl
          have hcb : ((n : Int) != count) = true := bne_iff_ne.mpr hcn
          clear hcn
          go_wp2
          go_ret2
          exact ⟨⟨_, [], rfl, Kd.R_nil _ _ _ _ _, rfl, fun _ => rfl⟩, hBf.out⟩
theorem listed_in (H : Sh.Hp) (f root count : Int) (A : Option Addr) (c : Nat) (w : World) (o : Obj) (hC : Nodes w A H) (hL : ListsF H f) :
    Calls Tryz.prog 60 #[.slice A H.length c, shV f root count] (w.alloc o) fun e w' => LGot (¬ Digital f) w.heap.size w' e (Sh.listed H f root count) ∧ Below w.heap.size w w' := by
  refine (listed_calls H f root count A c (w.alloc o) (Nodes.alloc hC _) hL).mono ?_
  rintro e w' ⟨h, hb⟩
  rw [World.size_alloc] at h hb
  exact ⟨h.lower (by omega), Below.trans ((Below.refl _ _).alloc (Nat.le_refl _) o) (hb.mono (by omega))⟩
set_option maxRecDepth 100000 in
set_option maxHeartbeats 1000000 in
theorem List_calls (H : Sh.Hp) (f root count : Int) (A : Option Addr) (c : Nat) (w : World) (hC : Nodes w A H) (hL : ListsF H f) :
    Calls Tryz.prog 16 #[.slice A H.length c, shV f root count] w fun e w' => LGot (¬ Digital f) w.heap.size w' e (Sh.listed H f root count) ∧ Below w.heap.size w w' := by
  have hcl := Lib.hid (listed_in H f root count A c w (.cells #[.int .i64 f, .int .i64 root, .int .i64 count] 25) hC hL)
  generalize Sh.listed H f root count = R at *
  clear hC hL
  go_enter Tryz.func16, Tryz.ntmps16
  go_wp2_with fail
  refine (hcl.out).mono ?_
  rintro e w1 ⟨⟨v, l, rfl, ho, h1, h2⟩, hb⟩
  replace ho := Lib.hid ho
  replace hb := Lib.hid hb
  go_wp2
  go_ret2
  exact ⟨⟨v, l, rfl, ho.out, h1, h2⟩, hb.out⟩
set_option maxRecDepth 100000 in
set_option maxHeartbeats 1000000 in
theorem Check_calls (H : Sh.Hp) (f root count : Int) (A : Option Addr) (c : Nat) (w : World) (hC : Nodes w A H) (hL : ListsF H f) :
    Calls Tryz.prog 22 #[.slice A H.length c, shV f root count] w fun e w' => e = .returned (.int .i64 (Sh.listed H f root count).2) ∧ Below w.heap.size w w' := by
  have hcl := Lib.hid (listed_in H f root count A c w (.cells #[.int .i64 f, .int .i64 root, .int .i64 count] 25) hC hL)
  generalize Sh.listed H f root count = R at *
  clear hC hL
  go_enter Tryz.func22, Tryz.ntmps22
  go_wp2_with fail
  refine (hcl.out).mono ?_
  rintro e w1 ⟨⟨v, l, rfl, ho, h1, h2⟩, hb⟩
  replace ho := Lib.hid ho
  replace hb := Lib.hid hb
  go_wp2
  go_ret
  exact ⟨rfl, hb.out⟩
set_option maxRecDepth 100000 in
set_option maxHeartbeats 1000000 in
theorem sought_calls (H : Sh.Hp) (f root count x : Int) (A : Option Addr) (c : Nat) (w : World) (hC : Nodes w A H) (hL : ListsF H f) :
    Calls Tryz.prog 86 #[.slice A H.length c, shV f root count, .int .i64 x] w fun e w' => LGot (¬ Digital f) w.heap.size w' e (Sh.sought H f root count x) ∧ Below w.heap.size w w' := by
  have hcl := Lib.hid (listed_in H f root count A c w (.cells #[.int .i64 f, .int .i64 root, .int .i64 count] 25) hC hL)
  obtain ⟨S, hS⟩ : ∃ S, S = Sh.sought H f root count x := ⟨_, rfl⟩
  rw [← hS]
  unfold Sh.sought at hS
  generalize Sh.listed H f root count = R at *
  obtain ⟨R1, R2⟩ := R
  clear hC hL
  have hel := Lib.hid (fun W => element_at (w := W) x (b := Sh.el x) rfl)
  by_cases h0 : R2 = 0
  · subst h0
    cases he : Sh.el x
    · rw [if_pos ⟨rfl, he⟩] at hS
      subst hS
      rw [he] at hel
      go_enter Tryz.func86, Tryz.ntmps86
      go_wp2_with fail
      refine (hcl.out).mono ?_
      rintro e w1 ⟨⟨v, l, rfl, ho, h1, h2⟩, hb⟩
      replace hb := Lib.hid hb
      clear ho h1 h2
      go_wp2_with fail
      refine (hel.out _).mono ?_
      rintro e w2 ⟨rfl, rfl⟩
      go_wp2
      go_ret2
      exact ⟨⟨_, [], rfl, Kd.R_nil _ _ _ _ _, rfl, fun _ => rfl⟩, hb.out⟩
    · rw [if_neg (fun h => by rw [he] at h; exact absurd h.2 (by decide))] at hS
      subst hS
      rw [he] at hel
      go_enter Tryz.func86, Tryz.ntmps86
      go_wp2_with fail
      refine (hcl.out).mono ?_
      rintro e w1 ⟨⟨v, l, rfl, ho, h1, h2⟩, hb⟩
      replace ho := Lib.hid ho
      replace hb := Lib.hid hb
      replace h1 := Lib.hid h1
      go_wp2_with fail
      refine (hel.out _).mono ?_
      rintro e w2 ⟨rfl, rfl⟩
      go_wp2
      go_ret2
      exact ⟨⟨_, l, rfl, ho.out, h1.out, h2⟩, hb.out⟩
  · rw [if_neg (fun h => h0 h.1)] at hS
    subst hS
    have h0b : (R2 == 0) = false := beq_eq_false_iff_ne.mpr h0
    clear h0
    go_enter Tryz.func86, Tryz.ntmps86
    go_wp2_with fail
    refine (hcl.out).mono ?_
    rintro e w1 ⟨⟨v, l, rfl, ho, h1, h2⟩, hb⟩
    replace ho := Lib.hid ho
    replace hb := Lib.hid hb
    replace h1 := Lib.hid h1
    go_wp2
    go_ret2
    exact ⟨⟨_, l, rfl, ho.out, h1.out, h2⟩, hb.out⟩
theorem listsF_all {H : Sh.Hp} (f : Int) (hsm : H.length ≤ 3000 → ∀ p ∈ H, p.1.length ≤ 1000000 ∧ p.2.length ≤ 1000000) : ListsF H f := by
  intro h30 ty k hk root A c w hC
  have hbig := hsm h30
  have hb1 : ∀ p ∈ H, p.1.length ≤ 1000000 := fun p hp => (hbig p hp).1
  have nd : ∀ f : Int, Digital f → ¬ ¬ Digital f := fun f h h2 => h2 h
  rcases hk with ⟨rfl, rfl, rfl⟩ | ⟨rfl, rfl, rfl⟩ | ⟨rfl, rfl, rfl⟩ | ⟨rfl, rfl, rfl⟩ | ⟨rfl, rfl, rfl⟩
  · exact (alist_calls H root A c w hC.1 hb1).mono fun e w' h => ⟨h.1.x _, h.2⟩
  · exact (plist_calls H root A c w hC.1 hC.2 hbig).mono fun e w' h => ⟨h.1.weak (nd 2 (.inl rfl)), h.2⟩
  · exact (tlist_calls H root A c w hC.1).mono fun e w' h => ⟨h.1.x _, h.2⟩
  · exact (trlist_calls H root A c w hC.1 hC.2 hbig).mono fun e w' h => ⟨h.1.weak (nd 4 (.inr rfl)), h.2⟩
  · exact (hlist_calls H root A c w hC.1 hb1).mono fun e w' h => ⟨h.1.x _, h.2⟩
end WT
end Go.Proofs.YtbfedeedicnedaaGreat
end
