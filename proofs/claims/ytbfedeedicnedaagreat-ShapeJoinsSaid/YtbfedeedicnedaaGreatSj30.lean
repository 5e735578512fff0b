/-
  Texts of this claim: ShAM, ShAN, ShBJ.
-/
import Derived.Test.YtbfedeedicnedaaGreatSj29
set_option linter.unusedVariables false
set_option linter.unusedSimpArgs false
set_option maxHeartbeats 8000000
set_option maxRecDepth 100000
section
namespace Go.Proofs.YtbfedeedicnedaaGreat
open Go.RowKit
open Go.Proofs.YtbfedeedicnedaaGreatW.PrintWords
theorem results_tcctt {fn : Func} {p q u v z : Tmp} {ty : TypeId} (h : fn.results = #[.tmp u, .cell p ty, .cell q ty, .tmp v, .tmp z]) (tmps : Array Value) (w : World) (g k : Nat) (cs ds : Array Value)
    (hp : tmps.getD p undef = .pointer (some ⟨g, 0, none⟩)) (hq : tmps.getD q undef = .pointer (some ⟨k, 0, none⟩)) (hl : (loadVar ty ⟨g, 0, none⟩).run Tryz.prog w = .ok (.agg cs) w) (hk : (loadVar ty ⟨k, 0, none⟩).run Tryz.prog w = .ok (.agg ds) w) :
    (results fn tmps).run Tryz.prog w = .ok (.tuple #[tmps.getD u undef, .agg cs, .agg ds, tmps.getD v undef, tmps.getD z undef]) w := by
  have hp' : tmps[p]?.getD undef = .pointer (some ⟨g, 0, none⟩) := by simpa using hp
  have hq' : tmps[q]?.getD undef = .pointer (some ⟨k, 0, none⟩) := by simpa using hq
  simp [results, h, hp', hq', asAddr, hl, hk]
def Out5 (base : Nat) (w' : World) (e : Ending) (K : Sh.Hp) (f r1 n1 r2 n2 : Int) (is : Bool) (err : Int) : Prop := ∃ v, e = .returned (.tuple #[v, shV f r1 n1, shV f r2 n2, .bool is, .int .i64 err]) ∧ Kd.R kSN 95 w' base (fun _ => True) v (sn K)
theorem R_drew {w : World} {b : Nat} {v : Value} {xs : List SN} (h : Kd.R kSN 95 w b (fun _ => True) v xs) : Kd.R kSN 95 w.drew b (fun _ => True) v xs := Kd.R_below h ((Below.refl _ _).drew)
theorem drew_heap (w : World) : w.drew.heap = w.heap := rfl
theorem load_two_d {w : World} {q k : Nat} {a b c x y z a' b' c' x' y' z' : Value} (hqk : q ≠ k) (h : w.heap[q]? = some (.cells #[a, b, c] 25 (0, 0))) (h' : w.heap[k]? = some (.cells #[a', b', c'] 25 (0, 0))) :
    let W := ((((((w.setCell ⟨q, 0, none⟩ x).setCell ⟨q, 1, none⟩ y).setCell ⟨q, 2, none⟩ z).setCell ⟨k, 0, none⟩ x').setCell ⟨k, 1, none⟩ y').setCell ⟨k, 2, none⟩ z').drew
    (loadVar 25 ⟨q, 0, none⟩).run Tryz.prog W = .ok (.agg #[x, y, z]) W ∧ (loadVar 25 ⟨k, 0, none⟩).run Tryz.prog W = .ok (.agg #[x', y', z']) W := by
  intro W
  have hk : k ≠ q := fun e => hqk e.symm
  have h1 := blk_set (blk_set (blk_set h 0 x) 1 y) 2 z
  have h2 := blk_far (p := ⟨q, 2, none⟩) (blk_far (p := ⟨q, 1, none⟩) (blk_far (p := ⟨q, 0, none⟩) h' hk x) hk y) hk z
  exact ⟨load_shape ((congrArg (·[q]?) (drew_heap _)).trans (blk_far (p := ⟨k, 2, none⟩) (blk_far (p := ⟨k, 1, none⟩) (blk_far (p := ⟨k, 0, none⟩) h1 hqk x') hqk y') hqk z')) rfl, load_shape ((congrArg (·[k]?) (drew_heap _)).trans (blk_set (blk_set (blk_set h2 0 x') 1 y') 2 z')) rfl⟩
theorem below_setk {w w1 : World} {q k : Nat} (h : Below q w w1) (hk : q ≤ k) (x y z : Value) : Below q w (((w1.setCell ⟨k, 0, none⟩ x).setCell ⟨k, 1, none⟩ y).setCell ⟨k, 2, none⟩ z) :=
  ((h.setCell (p := ⟨k, 0, none⟩) hk x).setCell (p := ⟨k, 1, none⟩) hk y).setCell (p := ⟨k, 2, none⟩) hk z
def Hold5 (hb g7 g8 q1 q2 : Nat) (vh a0 a1 a2 b0 b1 b2 : Value) (W : World) : Prop := (W.heap[hb]? = some (.cells #[vh] 124 (0, 0)) ∧ W.heap[q1]? = some (.cells #[a0, a1, a2] 25 (0, 0)) ∧ W.heap[q2]? = some (.cells #[b0, b1, b2] 25 (0, 0))) ∧ (∃ x y z, W.heap[g7]? = some (.cells #[x, y, z] 25 (0, 0))) ∧ ∃ x y z, W.heap[g8]? = some (.cells #[x, y, z] 25 (0, 0))
abbrev Cells5 (hb g7 g8 q1 q2 : Nat) (vh a0 a1 a2 b0 b1 b2 : Value) (W' : World) : Prop := Hold5 hb g7 g8 q1 q2 vh a0 a1 a2 b0 b1 b2 W' ∧ W'.cell? ⟨hb, 0, none⟩ = some vh ∧ W'.cell? ⟨q1, 0, none⟩ = some a0 ∧ W'.cell? ⟨q1, 1, none⟩ = some a1 ∧ W'.cell? ⟨q1, 2, none⟩ = some a2 ∧ W'.cell? ⟨q2, 0, none⟩ = some b0 ∧ W'.cell? ⟨q2, 1, none⟩ = some b1 ∧ W'.cell? ⟨q2, 2, none⟩ = some b2 ∧ W'.frozen? ⟨g7, 0, none⟩ = false ∧ W'.frozen? ⟨g7, 1, none⟩ = false ∧ W'.frozen? ⟨g7, 2, none⟩ = false ∧ W'.frozen? ⟨g8, 0, none⟩ = false ∧ W'.frozen? ⟨g8, 1, none⟩ = false ∧ W'.frozen? ⟨g8, 2, none⟩ = false ∧ W'.cell? ⟨g7, 0, none⟩ = some (heldAt g7 0 W') ∧ W'.cell? ⟨g7, 1, none⟩ = some (heldAt g7 1 W') ∧ W'.cell? ⟨g7, 2, none⟩ = some (heldAt g7 2 W') ∧ W'.cell? ⟨g8, 0, none⟩ = some (heldAt g8 0 W') ∧ W'.cell? ⟨g8, 1, none⟩ = some (heldAt g8 1 W') ∧ W'.cell? ⟨g8, 2, none⟩ = some (heldAt g8 2 W')
theorem Hold5.cells {hb g7 g8 q1 q2 : Nat} {vh a0 a1 a2 b0 b1 b2 : Value} {W : World} (h : Hold5 hb g7 g8 q1 q2 vh a0 a1 a2 b0 b1 b2 W) : Cells5 hb g7 g8 q1 q2 vh a0 a1 a2 b0 b1 b2 W := by
  have h9 := h
  obtain ⟨⟨h1, h2, h3⟩, ⟨x, y, z, h4⟩, x', y', z', h5⟩ := h
  refine ⟨h9, blk_cell h1 0, blk_cell h2 0, blk_cell h2 1, blk_cell h2 2, blk_cell h3 0, blk_cell h3 1, blk_cell h3 2, blk_frozen h4 0, blk_frozen h4 1, blk_frozen h4 2, blk_frozen h5 0, blk_frozen h5 1, blk_frozen h5 2, heldAt_eq (q := x) (blk_cell h4 0), heldAt_eq (q := y) (blk_cell h4 1), heldAt_eq (q := z) (blk_cell h4 2), heldAt_eq (q := x') (blk_cell h5 0), heldAt_eq (q := y') (blk_cell h5 1), heldAt_eq (q := z') (blk_cell h5 2)⟩
theorem Hold5.drew {hb g7 g8 q1 q2 : Nat} {vh a0 a1 a2 b0 b1 b2 : Value} {W : World} (h : Hold5 hb g7 g8 q1 q2 vh a0 a1 a2 b0 b1 b2 W) : Hold5 hb g7 g8 q1 q2 vh a0 a1 a2 b0 b1 b2 W.drew := h
theorem Hold5.set {hb g7 g8 q1 q2 k : Nat} {vh a0 a1 a2 b0 b1 b2 : Value} {W : World} (h : Hold5 hb g7 g8 q1 q2 vh a0 a1 a2 b0 b1 b2 W) (hk : k = g7 ∨ k = g8) (hne : g7 ≠ g8 ∧ hb ≠ g7 ∧ hb ≠ g8 ∧ q1 ≠ g7 ∧ q1 ≠ g8 ∧ q2 ≠ g7 ∧ q2 ≠ g8) (x y z : Value) : Hold5 hb g7 g8 q1 q2 vh a0 a1 a2 b0 b1 b2 (((W.setCell ⟨k, 0, none⟩ x).setCell ⟨k, 1, none⟩ y).setCell ⟨k, 2, none⟩ z) := by
  obtain ⟨⟨h1, h2, h3⟩, ⟨x1, y1, z1, h4⟩, x', y', z', h5⟩ := h
  obtain ⟨n0, n1, n2, n3, n4, n5, n6⟩ := hne
  have far : ∀ {j : Nat} {t : TypeId} {cs : Array Value}, j ≠ k → W.heap[j]? = some (.cells cs t (0, 0)) → (((W.setCell ⟨k, 0, none⟩ x).setCell ⟨k, 1, none⟩ y).setCell ⟨k, 2, none⟩ z).heap[j]? = some (.cells cs t (0, 0)) := fun hj hh =>
    blk_far (p := ⟨k, 2, none⟩) (blk_far (p := ⟨k, 1, none⟩) (blk_far (p := ⟨k, 0, none⟩) hh hj x) hj y) hj z
  have near : ∀ {u v o : Value}, W.heap[k]? = some (.cells #[u, v, o] 25 (0, 0)) → ∃ u' v' o', (((W.setCell ⟨k, 0, none⟩ x).setCell ⟨k, 1, none⟩ y).setCell ⟨k, 2, none⟩ z).heap[k]? = some (.cells #[u', v', o'] 25 (0, 0)) := fun hh => ⟨x, y, z, blk_set (blk_set (blk_set hh 0 x) 1 y) 2 z⟩
  rcases hk with rfl | rfl
  · exact ⟨⟨far n1 h1, far n3 h2, far n5 h3⟩, near h4, _, _, _, far (fun e => n0 e.symm) h5⟩
  · exact ⟨⟨far n2 h1, far n4 h2, far n6 h3⟩, ⟨_, _, _, far n0 h4⟩, near h5⟩
def Sh.more (l : List Int) (x : Int) : Int := (l.length : Int) - (l.countP (· < x) : Nat) - (if l.contains x then 1 else 0)
theorem Split_calls {H : Sh.Hp} {root n x : Int} {A : Option Addr} {c : Nat} {w : World} {l : List Int} (hC : Nodes w A H) (hLa : ListsF H 3) {t : Int} (ha : Sh.sought H 3 root n x = (l, 0)) (Tt : Sh.Tr H root (-1) 1024 l t) (hll : l.length ≤ 5000) (htt : t ≤ 900) (hlH : H.length ≤ 100000) (hbig : ∀ p ∈ H, p.1.length ≤ 1000000 ∧ p.2.length ≤ 1000000) :
    Calls Tryz.prog 44 #[.slice A H.length c, shV 3 root n, .int .i64 x] w fun e w' => Out5 w.heap.size w' e (Sh.split 2000 H root x).1 3 (Sh.split 2000 H root x).2.1 (l.countP (· < x) : Nat) (Sh.split 2000 H root x).2.2 (Sh.more l x) (l.contains x) 0 ∧ Below w.heap.size w w' := by
  obtain ⟨W0, hW0⟩ : ∃ W0, W0 = ((w.alloc (.cells #[.int .i64 3, .int .i64 root, .int .i64 n] 25)).alloc zero25).alloc zero25 := ⟨_, rfl⟩
  have hsz := Lib.hid (show W0.heap.size = w.heap.size + 3 by rw [hW0, World.size_alloc, World.size_alloc, World.size_alloc])
  have b1 := Lib.hid (show W0.heap[w.heap.size]? = some (.cells #[.int .i64 3, .int .i64 root, .int .i64 n] 25 (0, 0)) by
    rw [hW0]
    exact blk_alloc (blk_alloc (heap_alloc_new w _) _) _)
  have b2 := Lib.hid (show W0.heap[w.heap.size + 1]? = some (.cells #[.int .i64 0, .int .i64 0, .int .i64 0] 25 (0, 0)) by
    have := blk_alloc (heap_alloc_new (w.alloc (.cells #[.int .i64 3, .int .i64 root, .int .i64 n] 25)) zero25) zero25
    rw [World.size_alloc] at this
    rw [hW0]
    exact this)
  have b3 := Lib.hid (show W0.heap[w.heap.size + 2]? = some (.cells #[.int .i64 0, .int .i64 0, .int .i64 0] 25 (0, 0)) by
    have := heap_alloc_new ((w.alloc (.cells #[.int .i64 3, .int .i64 root, .int .i64 n] 25)).alloc zero25) zero25
    rw [World.size_alloc, World.size_alloc] at this
    rw [hW0]
    exact this)
  have hB0 := Lib.hid (show Below w.heap.size w W0 by
    rw [hW0]
    exact (((Below.refl _ _).alloc (Nat.le_refl _) _).alloc (by rw [World.size_alloc]; omega) _).alloc (by rw [World.size_alloc, World.size_alloc]; omega) _)
  have hBw := Lib.hid (fun W (hW : Below W0.heap.size W0 W) => (hB0.out.trans (hW.mono (by have := hsz.out; omega)) : Below w.heap.size w W))
  have hla := Lib.hid (fun W (hW : Below W0.heap.size W0 W) => by have := sought_calls H 3 root n x A c W (Kd.C_below hC (hBw.out W hW)) hLa; rw [ha] at this; exact this)
  have hgr := Lib.hid (fun W (hW : Below W0.heap.size W0 W) => grown_calls A c H W (Kd.C_below hC (hBw.out W hW)) hlH hbig)
  have hsp := Lib.hid (fun base hb W (hW : HeapAt W base hb H) => split_calls base hb 2000 H W hW root (-1) 1024 t l x Tt (by omega) (by omega) (by omega))
  have hD3 : ¬ Digital 3 := by unfold Digital; omega
  have hpl : l.Pairwise (· ≤ ·) := Tt.rise.imp (fun h => Int.le_of_lt h)
  have hbs := Lib.hid (fun base v W (hW : Ints W base v l) => bsearch_calls (x := x) hW (by omega) hpl)
  have hcp : l.countP (· < x) ≤ l.length := List.countP_le_length
  have hmore := Lib.hid (show Sh.more l x = (l.length : Int) - (l.countP (· < x) : Nat) - (if l.contains x then 1 else 0) from rfl)
  generalize Sh.more l x = M at *
  generalize l.countP (· < x) = k at *
  generalize l.contains x = is at *
  generalize Sh.split 2000 H root x = R at *
  clear hC hLa ha hbig hpl Tt
  go_enter Tryz.func44, Tryz.ntmps44
  go_wp2_with fail
  rw [← hW0]
  clear hW0
  refine (hla.out _ (Below.refl _ _)).mono ?_
  rintro e w1 ⟨⟨v1, l1, rfl, o1, hx0, hx1⟩, hb1⟩
  obtain rfl : l1 = l := hx1 hD3
  have o1' := Lib.hid o1
  have hB1 := Lib.hid hb1
  obtain ⟨A1, c1, rfl, hc1, hC1⟩ := Kd.R_reads o1
  have hr7 := blk_below b2.out hb1
  have hr8 := blk_below b3.out hb1
  have hr0 := blk_below b1.out hb1
  have hf7 := blk_frozen hr7
  have hf8 := blk_frozen hr8
  have c00 : w1.cell? ⟨w.heap.size, 0, none⟩ = some (.int .i64 3) := by rw [blk_cell hr0]; rfl
  have c01 : w1.cell? ⟨w.heap.size, 1, none⟩ = some (.int .i64 root) := by rw [blk_cell hr0]; rfl
  have c70 : w1.cell? ⟨w.heap.size + 1, 0, none⟩ = some (.int .i64 0) := by rw [blk_cell hr7]; rfl
  have c71 : w1.cell? ⟨w.heap.size + 1, 1, none⟩ = some (.int .i64 0) := by rw [blk_cell hr7]; rfl
  have c72 : w1.cell? ⟨w.heap.size + 1, 2, none⟩ = some (.int .i64 0) := by rw [blk_cell hr7]; rfl
  have c80 : w1.cell? ⟨w.heap.size + 2, 0, none⟩ = some (.int .i64 0) := by rw [blk_cell hr8]; rfl
  have c81 : w1.cell? ⟨w.heap.size + 2, 1, none⟩ = some (.int .i64 0) := by rw [blk_cell hr8]; rfl
  have c82 : w1.cell? ⟨w.heap.size + 2, 2, none⟩ = some (.int .i64 0) := by rw [blk_cell hr8]; rfl
  replace hr7 := Lib.hid hr7
  replace hr8 := Lib.hid hr8
  replace hr0 := Lib.hid hr0
  clear hb1 o1 hx1 hx0 hC1
  have hgc := Lib.hid (hgr.out w1 hB1.out)
  obtain ⟨n1, hn1⟩ : ∃ n1, n1 = l1.length := ⟨_, rfl⟩
  rw [← hn1] at hll hc1 hcp hmore o1' ⊢
  replace hn1 := Lib.hid hn1
  go_wp2_with fail
  refine (hgc.out).mono ?_
  rintro e w3 ⟨hb, rfl, hH3, hB3⟩
  have hB3' := Lib.hid (hB1.out.trans (hB3.mono hB1.out.size))
  have p1 : w3.cell? ⟨w.heap.size, 1, none⟩ = some (.int .i64 root) := by rw [blk_cell (blk_below b1.out hB3'.out)]; rfl
  have hjc := Lib.hid (hsp.out w1.heap.size hb w3 hH3)
  have hs2 := Lib.hid (show w.heap.size + 3 ≤ w1.heap.size by have := hB1.out.size; have := hsz.out; omega)
  have hB3h := Lib.hid hB3
  clear hH3 hB3
  go_wp2_with fail
  refine (hjc.out).mono ?_
  rintro e w4 ⟨rfl, hH4, hB4⟩
  have hB4' := Lib.hid (hB3'.out.trans (hB4.mono (by have := hs2.out; have := hsz.out; omega)))
  have o4 := Kd.R_below o1'.out (hB3h.out.trans hB4)
  have hbc := Lib.hid (hbs.out _ _ _ (by rw [hn1.out] at o4; exact o4))
  rw [← hn1.out] at hbc
  replace hH4 := Lib.hid hH4
  clear hB4 o4
  go_wp2_with fail
  refine (hbc.out).mono ?_
  rintro e w5 ⟨rfl, nn, hw5⟩
  have hB5' := Lib.hid (show Below W0.heap.size W0 w5 by rw [hw5]; exact hB4'.out.trans ⟨rfl, rfl, rfl, Nat.le_refl _, fun _ _ => rfl⟩)
  have hH5 := (show HeapAt w5 w1.heap.size hb R.1 by rw [hw5]; exact hH4.out.step ⟨rfl, rfl, rfl, Nat.le_refl _, fun _ _ => rfl⟩)
  obtain ⟨hq0, v5, hv5, hr5⟩ := hH5
  obtain ⟨A5, c5, rfl⟩ := Kd.R_slice hr5
  rw [sn_len] at hv5
  rw [sn_len] at hr5
  have hcell : w5.cell? ⟨hb, 0, none⟩ = some (.slice A5 R.1.length c5) := by rw [blk_cell hv5]; rfl
  replace hr5 := Lib.hid hr5
  clear hw5 hr7 hr8 hr0 hf7 hf8 c00 c01 c70 c71 c72 c80 c81 c82 p1
  have hr7 := blk_below b2.out hB5'.out
  have hr8 := blk_below b3.out hB5'.out
  have hr0 := blk_below b1.out hB5'.out
  have hf7 := blk_frozen hr7
  have hf8 := blk_frozen hr8
  have c00 : w5.cell? ⟨w.heap.size, 0, none⟩ = some (.int .i64 3) := by rw [blk_cell hr0]; rfl
  have c01 : w5.cell? ⟨w.heap.size, 1, none⟩ = some (.int .i64 root) := by rw [blk_cell hr0]; rfl
  have c70 : w5.cell? ⟨w.heap.size + 1, 0, none⟩ = some (.int .i64 0) := by rw [blk_cell hr7]; rfl
  have c71 : w5.cell? ⟨w.heap.size + 1, 1, none⟩ = some (.int .i64 0) := by rw [blk_cell hr7]; rfl
  have c72 : w5.cell? ⟨w.heap.size + 1, 2, none⟩ = some (.int .i64 0) := by rw [blk_cell hr7]; rfl
  have c80 : w5.cell? ⟨w.heap.size + 2, 0, none⟩ = some (.int .i64 0) := by rw [blk_cell hr8]; rfl
  have c81 : w5.cell? ⟨w.heap.size + 2, 1, none⟩ = some (.int .i64 0) := by rw [blk_cell hr8]; rfl
  have c82 : w5.cell? ⟨w.heap.size + 2, 2, none⟩ = some (.int .i64 0) := by rw [blk_cell hr8]; rfl
  replace hr7 := Lib.hid hr7
  replace hr8 := Lib.hid hr8
  replace hr0 := Lib.hid hr0

  have hne1 := Lib.hid (show hb ≠ w.heap.size + 1 by have := hs2.out; omega)
  have hne2 := Lib.hid (show hb ≠ w.heap.size + 2 by have := hs2.out; omega)
  have hge := Lib.hid (show w.heap.size + 3 ≤ w5.heap.size by have := hB5'.out.size; have := hsz.out; omega)
  replace hv5 := Lib.hid hv5
  clear hq0
  cases is
  case false =>
    obtain rfl : M = (n1 : Int) - (k : Int) := by rw [hmore.out]; simp
    go_wp2
    obtain ⟨M0, hM0⟩ : ∃ M0 : Int, M0 = (n1 : Int) - (k : Int) := ⟨_, rfl⟩
    rw [← hM0]
    replace hM0 := Lib.hid hM0
    obtain ⟨W6, hW6⟩ : ∃ W6, W6 = (w5.alloc (Obj.cells #[.int .i64 3, .int .i64 R.2.1, .int .i64 k] 25)).alloc (Obj.cells #[.int .i64 3, .int .i64 R.2.2, .int .i64 M0] 25) := ⟨_, rfl⟩
    rw [← hW6]
    obtain ⟨g7, hg7⟩ : ∃ g7, g7 = w.heap.size + 1 := ⟨_, rfl⟩
    obtain ⟨g8, hg8⟩ : ∃ g8, g8 = g7 + 1 := ⟨_, rfl⟩
    obtain ⟨q1, hq1⟩ : ∃ q1, q1 = w5.heap.size := ⟨_, rfl⟩
    obtain ⟨q2, hq2⟩ : ∃ q2, q2 = q1 + 1 := ⟨_, rfl⟩
    have hho := Lib.hid (show Hold5 hb g7 g8 q1 q2 (.slice A5 R.1.length c5) (.int .i64 3) (.int .i64 R.2.1) (.int .i64 k) (.int .i64 3) (.int .i64 R.2.2) (.int .i64 M0) W6 by
      rw [hW6, hg8, hg7, hq2, hq1]
      refine ⟨⟨blk_alloc (blk_alloc hv5.out _) _, blk_alloc (heap_alloc_new w5 _) _, ?_⟩, ⟨_, _, _, blk_alloc (blk_alloc hr7.out _) _⟩, _, _, _, blk_alloc (blk_alloc hr8.out _) _⟩
      have := heap_alloc_new (w5.alloc (Obj.cells #[.int .i64 3, .int .i64 R.2.1, .int .i64 k] 25)) (Obj.cells #[.int .i64 3, .int .i64 R.2.2, .int .i64 M0] 25)
      rw [World.size_alloc] at this
      exact this)
    have hr6 := Lib.hid (show Kd.R kSN 95 W6 w1.heap.size (fun _ => True) (.slice A5 R.1.length c5) (sn R.1) by rw [hW6]; exact Kd.R_alloc (Kd.R_alloc hr5.out _) _)
    have hB6 := Lib.hid (show Below W0.heap.size W0 W6 by rw [hW6]; exact (hB5'.out.alloc hB5'.out.size _).alloc (by rw [World.size_alloc]; exact Nat.le_succ_of_le hB5'.out.size) _)
    have hnes := Lib.hid (show g7 ≠ g8 ∧ hb ≠ g7 ∧ hb ≠ g8 ∧ q1 ≠ g7 ∧ q1 ≠ g8 ∧ q2 ≠ g7 ∧ q2 ≠ g8 by have := hne1.out; have := hne2.out; have := hge.out; omega)
    have hd7 := Lib.hid (fun (x y z : Value) => (show Hold5 hb g7 g8 q1 q2 (.slice A5 R.1.length c5) (.int .i64 3) (.int .i64 R.2.1) (.int .i64 k) (.int .i64 3) (.int .i64 R.2.2) (.int .i64 M0) (((W6.setCell ⟨g7, 0, none⟩ x).setCell ⟨g7, 1, none⟩ y).setCell ⟨g7, 2, none⟩ z).drew from (hho.out.set (.inl rfl) hnes.out x y z).drew))
    have hd78 := Lib.hid (fun (x y z x' y' z' : Value) => (show Hold5 hb g7 g8 q1 q2 (.slice A5 R.1.length c5) (.int .i64 3) (.int .i64 R.2.1) (.int .i64 k) (.int .i64 3) (.int .i64 R.2.2) (.int .i64 M0) ((((((W6.setCell ⟨g7, 0, none⟩ x).setCell ⟨g7, 1, none⟩ y).setCell ⟨g7, 2, none⟩ z).setCell ⟨g8, 0, none⟩ x').setCell ⟨g8, 1, none⟩ y').setCell ⟨g8, 2, none⟩ z').drew from ((hho.out.set (.inl rfl) hnes.out x y z).set (.inr rfl) hnes.out x' y' z').drew))
    have hfin := Lib.hid (fun (x y z x' y' z' : Value) => (show Kd.R kSN 95 ((((((W6.setCell ⟨g7, 0, none⟩ x).setCell ⟨g7, 1, none⟩ y).setCell ⟨g7, 2, none⟩ z).setCell ⟨g8, 0, none⟩ x').setCell ⟨g8, 1, none⟩ y').setCell ⟨g8, 2, none⟩ z').drew w.heap.size (fun _ => True) (.slice A5 R.1.length c5) (sn R.1) ∧ Below w.heap.size w ((((((W6.setCell ⟨g7, 0, none⟩ x).setCell ⟨g7, 1, none⟩ y).setCell ⟨g7, 2, none⟩ z).setCell ⟨g8, 0, none⟩ x').setCell ⟨g8, 1, none⟩ y').setCell ⟨g8, 2, none⟩ z').drew from by
      obtain ⟨-, ⟨x7, y7, z7, e7⟩, x8, y8, z8, e8⟩ := hho.out
      have e9 := hnes.out.1.symm
      exact ⟨R_drew (Kd.R_lower (out_set (out_set hr6.out e7 x y z) (blk_far (p := ⟨g7, 2, none⟩) (blk_far (p := ⟨g7, 1, none⟩) (blk_far (p := ⟨g7, 0, none⟩) e8 e9 x) e9 y) e9 z) x' y' z') (by have := hs2.out; omega)), (below_setk (below_setk (hBw.out _ hB6.out) (show w.heap.size ≤ g7 by rw [hg7]; omega) x y z) (show w.heap.size ≤ g8 by rw [hg8, hg7]; omega) x' y' z').drew⟩))
    rw [← hg7, ← hg8, ← hq1, ← hq2]
    have hd6 := Lib.hid (show Hold5 hb g7 g8 q1 q2 (.slice A5 R.1.length c5) (.int .i64 3) (.int .i64 R.2.1) (.int .i64 k) (.int .i64 3) (.int .i64 R.2.2) (.int .i64 M0) W6.drew from hho.out.drew)
    clear hW6
    replace hg7 := Lib.hid hg7
    replace hg8 := Lib.hid hg8
    replace hq1 := Lib.hid hq1
    replace hq2 := Lib.hid hq2
    have n87 : ¬ g8 = g7 := fun e => hnes.out.1 e.symm
    have n78 : ¬ g7 = g8 := hnes.out.1
    clear c00 c01 c70 c71 c72 c80 c81 c82 hf7 hf8 hcell hr7 hr8 hr0 hv5 hr5 b1 b2 b3 hla hgr hsp hbs hgc hjc hbc hB1 hB3h hB3' hB4' hH4 o1' hcp hc1 hll hn1 hge hne1 hne2 hB5' hlH htt hD3 hmore
    obtain ⟨-, -, -, -, -, -, -, -, f70, f71, f72, f80, f81, f82, d70, d71, d72, d80, d81, d82⟩ := hho.out.cells
    go_region_held3 (fun W' => Hold5 hb g7 g8 q1 q2 (.slice A5 R.1.length c5) (.int .i64 3) (.int .i64 R.2.1) (.int .i64 k) (.int .i64 3) (.int .i64 R.2.2) (.int .i64 M0) W' ∧ W'.cell? ⟨hb, 0, none⟩ = some (.slice A5 R.1.length c5) ∧ W'.cell? ⟨q1, 0, none⟩ = some (.int .i64 3) ∧ W'.cell? ⟨q1, 1, none⟩ = some (.int .i64 R.2.1) ∧ W'.cell? ⟨q1, 2, none⟩ = some (.int .i64 k) ∧ W'.cell? ⟨q2, 0, none⟩ = some (.int .i64 3) ∧ W'.cell? ⟨q2, 1, none⟩ = some (.int .i64 R.2.2) ∧ W'.cell? ⟨q2, 2, none⟩ = some (.int .i64 M0) ∧ W'.frozen? ⟨g7, 0, none⟩ = false ∧ W'.frozen? ⟨g7, 1, none⟩ = false ∧ W'.frozen? ⟨g7, 2, none⟩ = false ∧ W'.frozen? ⟨g8, 0, none⟩ = false ∧ W'.frozen? ⟨g8, 1, none⟩ = false ∧ W'.frozen? ⟨g8, 2, none⟩ = false ∧ W'.cell? ⟨g7, 0, none⟩ = some (heldAt g7 0 W') ∧ W'.cell? ⟨g7, 1, none⟩ = some (heldAt g7 1 W') ∧ W'.cell? ⟨g7, 2, none⟩ = some (heldAt g7 2 W') ∧ W'.cell? ⟨g8, 0, none⟩ = some (heldAt g8 0 W') ∧ W'.cell? ⟨g8, 1, none⟩ = some (heldAt g8 1 W') ∧ W'.cell? ⟨g8, 2, none⟩ = some (heldAt g8 2 W'))
      (first
        | with_reducible exact Hold5.cells hd6.out
        | with_reducible exact Hold5.cells (hd7.out _ _ _)
        | with_reducible exact Hold5.cells (hd78.out _ _ _ _ _ _)
        | with_reducible exact Hold5.cells (by with_reducible assumption)
        | fail)
      (first | fail)
    go_wp2
    obtain ⟨-, ⟨x7, y7, z7, e7⟩, x8, y8, z8, e8⟩ := hho.out
    refine bodyPost_ret (results_tcctt rfl _ _ g7 g8 #[.int .i64 3, .int .i64 R.2.1, .int .i64 k] #[.int .i64 3, .int .i64 R.2.2, .int .i64 M0] rfl rfl (load_two_d hnes.out.1 e7 e8).1 (load_two_d hnes.out.1 e7 e8).2) rfl ?_
    exact ⟨⟨_, by rw [hM0.out]; rfl, (hfin.out _ _ _ _ _ _).1⟩, (hfin.out _ _ _ _ _ _).2⟩
  case true =>
    obtain rfl : M = (n1 : Int) - (k : Int) - 1 := by rw [hmore.out]; simp
    go_wp2
    obtain ⟨M0, hM0⟩ : ∃ M0 : Int, M0 = (n1 : Int) - (k : Int) - 1 := ⟨_, rfl⟩
    rw [← hM0]
    replace hM0 := Lib.hid hM0
    obtain ⟨W6, hW6⟩ : ∃ W6, W6 = (w5.alloc (Obj.cells #[.int .i64 3, .int .i64 R.2.1, .int .i64 k] 25)).alloc (Obj.cells #[.int .i64 3, .int .i64 R.2.2, .int .i64 M0] 25) := ⟨_, rfl⟩
    rw [← hW6]
    obtain ⟨g7, hg7⟩ : ∃ g7, g7 = w.heap.size + 1 := ⟨_, rfl⟩
    obtain ⟨g8, hg8⟩ : ∃ g8, g8 = g7 + 1 := ⟨_, rfl⟩
    obtain ⟨q1, hq1⟩ : ∃ q1, q1 = w5.heap.size := ⟨_, rfl⟩
    obtain ⟨q2, hq2⟩ : ∃ q2, q2 = q1 + 1 := ⟨_, rfl⟩
    have hho := Lib.hid (show Hold5 hb g7 g8 q1 q2 (.slice A5 R.1.length c5) (.int .i64 3) (.int .i64 R.2.1) (.int .i64 k) (.int .i64 3) (.int .i64 R.2.2) (.int .i64 M0) W6 by
      rw [hW6, hg8, hg7, hq2, hq1]
      refine ⟨⟨blk_alloc (blk_alloc hv5.out _) _, blk_alloc (heap_alloc_new w5 _) _, ?_⟩, ⟨_, _, _, blk_alloc (blk_alloc hr7.out _) _⟩, _, _, _, blk_alloc (blk_alloc hr8.out _) _⟩
      have := heap_alloc_new (w5.alloc (Obj.cells #[.int .i64 3, .int .i64 R.2.1, .int .i64 k] 25)) (Obj.cells #[.int .i64 3, .int .i64 R.2.2, .int .i64 M0] 25)
      rw [World.size_alloc] at this
      exact this)
    have hr6 := Lib.hid (show Kd.R kSN 95 W6 w1.heap.size (fun _ => True) (.slice A5 R.1.length c5) (sn R.1) by rw [hW6]; exact Kd.R_alloc (Kd.R_alloc hr5.out _) _)
    have hB6 := Lib.hid (show Below W0.heap.size W0 W6 by rw [hW6]; exact (hB5'.out.alloc hB5'.out.size _).alloc (by rw [World.size_alloc]; exact Nat.le_succ_of_le hB5'.out.size) _)
    have hnes := Lib.hid (show g7 ≠ g8 ∧ hb ≠ g7 ∧ hb ≠ g8 ∧ q1 ≠ g7 ∧ q1 ≠ g8 ∧ q2 ≠ g7 ∧ q2 ≠ g8 by have := hne1.out; have := hne2.out; have := hge.out; omega)
    have hd7 := Lib.hid (fun (x y z : Value) => (show Hold5 hb g7 g8 q1 q2 (.slice A5 R.1.length c5) (.int .i64 3) (.int .i64 R.2.1) (.int .i64 k) (.int .i64 3) (.int .i64 R.2.2) (.int .i64 M0) (((W6.setCell ⟨g7, 0, none⟩ x).setCell ⟨g7, 1, none⟩ y).setCell ⟨g7, 2, none⟩ z).drew from (hho.out.set (.inl rfl) hnes.out x y z).drew))
    have hd78 := Lib.hid (fun (x y z x' y' z' : Value) => (show Hold5 hb g7 g8 q1 q2 (.slice A5 R.1.length c5) (.int .i64 3) (.int .i64 R.2.1) (.int .i64 k) (.int .i64 3) (.int .i64 R.2.2) (.int .i64 M0) ((((((W6.setCell ⟨g7, 0, none⟩ x).setCell ⟨g7, 1, none⟩ y).setCell ⟨g7, 2, none⟩ z).setCell ⟨g8, 0, none⟩ x').setCell ⟨g8, 1, none⟩ y').setCell ⟨g8, 2, none⟩ z').drew from ((hho.out.set (.inl rfl) hnes.out x y z).set (.inr rfl) hnes.out x' y' z').drew))
    have hfin := Lib.hid (fun (x y z x' y' z' : Value) => (show Kd.R kSN 95 ((((((W6.setCell ⟨g7, 0, none⟩ x).setCell ⟨g7, 1, none⟩ y).setCell ⟨g7, 2, none⟩ z).setCell ⟨g8, 0, none⟩ x').setCell ⟨g8, 1, none⟩ y').setCell ⟨g8, 2, none⟩ z').drew w.heap.size (fun _ => True) (.slice A5 R.1.length c5) (sn R.1) ∧ Below w.heap.size w ((((((W6.setCell ⟨g7, 0, none⟩ x).setCell ⟨g7, 1, none⟩ y).setCell ⟨g7, 2, none⟩ z).setCell ⟨g8, 0, none⟩ x').setCell ⟨g8, 1, none⟩ y').setCell ⟨g8, 2, none⟩ z').drew from by
      obtain ⟨-, ⟨x7, y7, z7, e7⟩, x8, y8, z8, e8⟩ := hho.out
      have e9 := hnes.out.1.symm
      exact ⟨R_drew (Kd.R_lower (out_set (out_set hr6.out e7 x y z) (blk_far (p := ⟨g7, 2, none⟩) (blk_far (p := ⟨g7, 1, none⟩) (blk_far (p := ⟨g7, 0, none⟩) e8 e9 x) e9 y) e9 z) x' y' z') (by have := hs2.out; omega)), (below_setk (below_setk (hBw.out _ hB6.out) (show w.heap.size ≤ g7 by rw [hg7]; omega) x y z) (show w.heap.size ≤ g8 by rw [hg8, hg7]; omega) x' y' z').drew⟩))
    rw [← hg7, ← hg8, ← hq1, ← hq2]
    have hd6 := Lib.hid (show Hold5 hb g7 g8 q1 q2 (.slice A5 R.1.length c5) (.int .i64 3) (.int .i64 R.2.1) (.int .i64 k) (.int .i64 3) (.int .i64 R.2.2) (.int .i64 M0) W6.drew from hho.out.drew)
    clear hW6
    replace hg7 := Lib.hid hg7
    replace hg8 := Lib.hid hg8
    replace hq1 := Lib.hid hq1
    replace hq2 := Lib.hid hq2
    have n87 : ¬ g8 = g7 := fun e => hnes.out.1 e.symm
    have n78 : ¬ g7 = g8 := hnes.out.1
    clear c00 c01 c70 c71 c72 c80 c81 c82 hf7 hf8 hcell hr7 hr8 hr0 hv5 hr5 b1 b2 b3 hla hgr hsp hbs hgc hjc hbc hB1 hB3h hB3' hB4' hH4 o1' hcp hc1 hll hn1 hge hne1 hne2 hB5' hlH htt hD3 hmore
    obtain ⟨-, -, -, -, -, -, -, -, f70, f71, f72, f80, f81, f82, d70, d71, d72, d80, d81, d82⟩ := hho.out.cells
    go_region_held3 (fun W' => Hold5 hb g7 g8 q1 q2 (.slice A5 R.1.length c5) (.int .i64 3) (.int .i64 R.2.1) (.int .i64 k) (.int .i64 3) (.int .i64 R.2.2) (.int .i64 M0) W' ∧ W'.cell? ⟨hb, 0, none⟩ = some (.slice A5 R.1.length c5) ∧ W'.cell? ⟨q1, 0, none⟩ = some (.int .i64 3) ∧ W'.cell? ⟨q1, 1, none⟩ = some (.int .i64 R.2.1) ∧ W'.cell? ⟨q1, 2, none⟩ = some (.int .i64 k) ∧ W'.cell? ⟨q2, 0, none⟩ = some (.int .i64 3) ∧ W'.cell? ⟨q2, 1, none⟩ = some (.int .i64 R.2.2) ∧ W'.cell? ⟨q2, 2, none⟩ = some (.int .i64 M0) ∧ W'.frozen? ⟨g7, 0, none⟩ = false ∧ W'.frozen? ⟨g7, 1, none⟩ = false ∧ W'.frozen? ⟨g7, 2, none⟩ = false ∧ W'.frozen? ⟨g8, 0, none⟩ = false ∧ W'.frozen? ⟨g8, 1, none⟩ = false ∧ W'.frozen? ⟨g8, 2, none⟩ = false ∧ W'.cell? ⟨g7, 0, none⟩ = some (heldAt g7 0 W') ∧ W'.cell? ⟨g7, 1, none⟩ = some (heldAt g7 1 W') ∧ W'.cell? ⟨g7, 2, none⟩ = some (heldAt g7 2 W') ∧ W'.cell? ⟨g8, 0, none⟩ = some (heldAt g8 0 W') ∧ W'.cell? ⟨g8, 1, none⟩ = some (heldAt g8 1 W') ∧ W'.cell? ⟨g8, 2, none⟩ = some (heldAt g8 2 W'))
      (first
        | with_reducible exact Hold5.cells hd6.out
        | with_reducible exact Hold5.cells (hd7.out _ _ _)
        | with_reducible exact Hold5.cells (hd78.out _ _ _ _ _ _)
        | with_reducible exact Hold5.cells (by with_reducible assumption)
        | fail)
      (first | fail)
    go_wp2
    obtain ⟨-, ⟨x7, y7, z7, e7⟩, x8, y8, z8, e8⟩ := hho.out
    refine bodyPost_ret (results_tcctt rfl _ _ g7 g8 #[.int .i64 3, .int .i64 R.2.1, .int .i64 k] #[.int .i64 3, .int .i64 R.2.2, .int .i64 M0] rfl rfl (load_two_d hnes.out.1 e7 e8).1 (load_two_d hnes.out.1 e7 e8).2) rfl ?_
    exact ⟨⟨_, by rw [hM0.out]; rfl, (hfin.out _ _ _ _ _ _).1⟩, (hfin.out _ _ _ _ _ _).2⟩
end Go.Proofs.YtbfedeedicnedaaGreat
end
section
namespace Go.Proofs.YtbfedeedicnedaaGreat
open Go.RowKit
open Go.Proofs.YtbfedeedicnedaaGreatW.PrintWords
def Hold1 (hb g9 g5 : Nat) (vh a0 a1 a2 : Value) (W : World) : Prop := (W.heap[hb]? = some (.cells #[vh] 124 (0, 0)) ∧ W.heap[g5]? = some (.cells #[a0, a1, a2] 25 (0, 0))) ∧ ∃ x y z, W.heap[g9]? = some (.cells #[x, y, z] 25 (0, 0))
abbrev Cells1 (hb g9 g5 : Nat) (vh a0 a1 a2 : Value) (W' : World) : Prop := Hold1 hb g9 g5 vh a0 a1 a2 W' ∧ W'.cell? ⟨hb, 0, none⟩ = some vh ∧ W'.cell? ⟨g5, 0, none⟩ = some a0 ∧ W'.cell? ⟨g5, 1, none⟩ = some a1 ∧ W'.cell? ⟨g5, 2, none⟩ = some a2 ∧ W'.frozen? ⟨g9, 0, none⟩ = false ∧ W'.frozen? ⟨g9, 1, none⟩ = false ∧ W'.frozen? ⟨g9, 2, none⟩ = false ∧ W'.cell? ⟨g9, 0, none⟩ = some (heldAt g9 0 W') ∧ W'.cell? ⟨g9, 1, none⟩ = some (heldAt g9 1 W') ∧ W'.cell? ⟨g9, 2, none⟩ = some (heldAt g9 2 W')
theorem Hold1.cells {hb g9 g5 : Nat} {vh a0 a1 a2 : Value} {W : World} (h : Hold1 hb g9 g5 vh a0 a1 a2 W) : Cells1 hb g9 g5 vh a0 a1 a2 W := by
  have h9 := h
  obtain ⟨⟨h1, h2⟩, x, y, z, h4⟩ := h
  exact ⟨h9, blk_cell h1 0, blk_cell h2 0, blk_cell h2 1, blk_cell h2 2, blk_frozen h4 0, blk_frozen h4 1, blk_frozen h4 2, heldAt_eq (q := x) (blk_cell h4 0), heldAt_eq (q := y) (blk_cell h4 1), heldAt_eq (q := z) (blk_cell h4 2)⟩
theorem Hold1.drew {hb g9 g5 : Nat} {vh a0 a1 a2 : Value} {W : World} (h : Hold1 hb g9 g5 vh a0 a1 a2 W) : Hold1 hb g9 g5 vh a0 a1 a2 W.drew := h
theorem Hold1.set {hb g9 g5 : Nat} {vh a0 a1 a2 : Value} {W : World} (h : Hold1 hb g9 g5 vh a0 a1 a2 W) (hne : hb ≠ g9 ∧ g5 ≠ g9) (x y z : Value) : Hold1 hb g9 g5 vh a0 a1 a2 (((W.setCell ⟨g9, 0, none⟩ x).setCell ⟨g9, 1, none⟩ y).setCell ⟨g9, 2, none⟩ z) := by
  obtain ⟨⟨h1, h2⟩, x1, y1, z1, h4⟩ := h
  have far : ∀ {j : Nat} {t : TypeId} {cs : Array Value}, j ≠ g9 → W.heap[j]? = some (.cells cs t (0, 0)) → (((W.setCell ⟨g9, 0, none⟩ x).setCell ⟨g9, 1, none⟩ y).setCell ⟨g9, 2, none⟩ z).heap[j]? = some (.cells cs t (0, 0)) := fun hj hh =>
    blk_far (p := ⟨g9, 2, none⟩) (blk_far (p := ⟨g9, 1, none⟩) (blk_far (p := ⟨g9, 0, none⟩) hh hj x) hj y) hj z
  exact ⟨⟨far hne.1 h1, far hne.2 h2⟩, x, y, z, blk_set (blk_set (blk_set h4 0 x) 1 y) 2 z⟩
theorem load_set3_d {w : World} {q : Nat} {x y z : Value} (h : ∃ a b c, w.heap[q]? = some (.cells #[a, b, c] 25 (0, 0))) : (loadVar 25 ⟨q, 0, none⟩).run Tryz.prog (((w.setCell ⟨q, 0, none⟩ x).setCell ⟨q, 1, none⟩ y).setCell ⟨q, 2, none⟩ z).drew = .ok (.agg #[x, y, z]) (((w.setCell ⟨q, 0, none⟩ x).setCell ⟨q, 1, none⟩ y).setCell ⟨q, 2, none⟩ z).drew := by
  obtain ⟨a, b, c, h⟩ := h
  exact load_shape ((congrArg (·[q]?) (drew_heap _)).trans (blk_set (blk_set (blk_set h 0 x) 1 y) 2 z)) rfl
theorem out_set_d {w : World} {base q : Nat} {v : Value} {K : Sh.Hp} (h : Kd.R kSN 95 w base (fun _ => True) v (sn K)) (hq : ∃ a b c, w.heap[q]? = some (.cells #[a, b, c] 25 (0, 0))) (x y z : Value) : Kd.R kSN 95 (((w.setCell ⟨q, 0, none⟩ x).setCell ⟨q, 1, none⟩ y).setCell ⟨q, 2, none⟩ z).drew base (fun _ => True) v (sn K) := by
  obtain ⟨a, b, c, hq⟩ := hq
  exact R_drew (out_set h hq x y z)
end Go.Proofs.YtbfedeedicnedaaGreat
end
section
namespace Go.Proofs.YtbfedeedicnedaaGreat
open Go.RowKit
open Go.Proofs.YtbfedeedicnedaaGreatW.PrintWords
theorem putH_len (t : List Int) (x : Int) : (Sh.putH t x).length = t.length := by unfold Sh.putH; rw [List.length_set]
theorem layH_len (l : List Int) (c : Nat) : (Sh.layH l c).length = c := by
  unfold Sh.layH
  suffices h : ∀ (l t : List Int), (l.foldl Sh.putH t).length = t.length by rw [h, List.length_replicate]
  intro l
  induction l with
  | nil => intro t; rfl
  | cons x l ih => intro t; rw [List.foldl_cons, ih, putH_len]
theorem layH_step (l : List Int) (c k : Nat) (h : k < l.length) : Sh.layH (l.take (k + 1)) c = Sh.putH (Sh.layH (l.take k) c) (Sh.gi l k) := by
  unfold Sh.layH
  rw [List.take_succ_eq_append_getElem h, List.foldl_append]
  have e : Sh.gi l k = l[k] := by unfold Sh.gi; rw [List.getD_eq_getElem?_getD, List.getElem?_eq_getElem h]; rfl
  rw [e]
  rfl
theorem hlay_calls {base hb : Nat} {H : Sh.Hp} {w : World} (hH : HeapAt w base hb H) {A : Option Addr} {c : Nat} {l : List Int} (hL : Low w base A l) (hx : ∀ x ∈ l, 0 ≤ x ∧ x ≤ 1023) (hn : l.length ≤ 1024) (hl : H.length ≤ 1000000) :
    Calls Tryz.prog 190 #[.agg #[], .pointer (some ⟨hb, 0, none⟩), .slice A l.length c] w fun e w' => e = .returned (.int .i64 H.length) ∧ HeapAt w' base hb (H ++ [(Sh.layH l (Sh.sizeH 20 8 l.length), [])]) ∧ Below base w w' := by
  have hsz : base ≤ w.heap.size := by have := hH.1; have := hH.lt; omega
  have hLh := Lib.hid hL
  have hxh := Lib.hid (fun k (h : k < l.length) => hx (Sh.gi l k) (Sh.mem_gi.2 ⟨k, h, rfl⟩))
  have hHh := Lib.hid hH
  obtain ⟨n, hn'⟩ : ∃ n, n = l.length := ⟨_, rfl⟩
  rw [← hn'] at hn hxh ⊢
  have hst := Lib.hid (fun c k (h : k < n) => layH_step l c k (by omega))
  obtain ⟨C, hC⟩ : ∃ C, C = Sh.sizeH 20 8 n := ⟨_, rfl⟩
  have hCok := Sh.sizeH_ok n hn
  rw [← hC] at hCok ⊢
  obtain ⟨hC0, hC2⟩ := hCok
  have hC8 := (Sh.pow2_pos hC0).1
  have hC9 := (Sh.pow2_pos hC0).2
  have hB0 := Lib.hid (show Below w.heap.size w (w.alloc (.cells #[] 157)) from (Below.refl _ _).alloc (Nat.le_refl _) _)
  replace hn' := Lib.hid hn'
  replace hC := Lib.hid hC
  clear hH hL hx hC0
  go_enter Tryz.func190, Tryz.ntmps190
  go_wp2
  go_loopg [7] 20 (fun g v7 wr => ∃ q : Nat, v7 = .int .i64 q ∧ 8 ≤ q ∧ q ≤ 4096 ∧ g ≤ 20 ∧ Hid (8 * 2 ^ (20 - g) ≤ q) ∧ wr = w.alloc (.cells #[] 157) ∧ Hid (C = Sh.sizeH g q n))
  case atStart => exact ⟨8, rfl, Nat.le_refl _, by omega, Nat.le_refl _, Lib.hid (by decide), rfl, hC⟩
  case round =>
    obtain ⟨q, rfl, hq8, hq9, hg20, hqp, rfl, hCq⟩ := hrel
    by_cases hlt : (q : Int) < 2 * (n : Int)
    · obtain ⟨g', hg'⟩ : ∃ g', gk = g' + 1 := by
        rcases gk with _ | g'
        · have := hqp.out
          simp at this
          omega
        · exact ⟨g', rfl⟩
      have hCn : Hid (C = Sh.sizeH g' (2 * q) n) := Lib.hid (by
        rw [hCq.out, hg']
        show (if q < 2 * n then _ else _) = _
        rw [if_pos (by omega)])
      have hqn : Hid (8 * 2 ^ (20 - g') ≤ 2 * q) := Lib.hid (by
        have h1 := hqp.out
        have e : 20 - g' = (20 - gk) + 1 := by omega
        rw [e, Nat.pow_succ]
        omega)
      have hltb : decide ((q : Int) < 2 * (n : Int)) = true := decide_eq_true hlt
      replace hg' := Lib.hid hg'
      go_wp2
      go_roundg g'
      case measure => have := hg'.out; omega
      case rel => exact ⟨2 * q, by go_num, by omega, by omega, by have := hg'.out; omega, hqn, rfl, hCn⟩
    · obtain rfl : q = C := by
        rw [hCq.out]
        rcases gk with _ | g'
        · rfl
        · show q = if q < 2 * n then _ else q
          rw [if_neg (by omega)]
      have hltb : decide ((q : Int) < 2 * (n : Int)) = false := decide_eq_false hlt
      clear hCq hqp
      obtain ⟨W2, hW2⟩ : ∃ W2, W2 = (w.alloc (.cells #[] 157)).alloc (.cells #[.int .i64 (-1)] 3) := ⟨_, rfl⟩
      have hB2 := Lib.hid (show Below w.heap.size w W2 by rw [hW2]; exact hB0.out.alloc hB0.out.size _)
      have hrp := Lib.hid (repeat_calls (w.heap.size + 1) q (-1) W2 (by
        rw [hW2]
        have := heap_alloc_new (w.alloc (.cells #[] 157)) (.cells #[.int .i64 (-1)] 3)
        rw [World.size_alloc] at this
        rw [blk_cell this]
        rfl) (by omega) (by omega))
      go_wp2_with fail
      rw [← hW2]
      clear hW2
      refine (hrp.out).mono ?_
      rintro e w3 ⟨g, rfl, hrow, hgs, hB3⟩
      have hgw := Lib.hid (show w.heap.size ≤ g from Nat.le_trans hB2.out.size hgs)
      have hB4 := Lib.hid (hB2.out.trans (hB3.mono hB2.out.size))
      have hrow4 := Lib.hid (show w3.heap[g]? = some (.cells ((Sh.layH (l.take 0) q).map fun (x : Int) => Value.int .i64 x).toArray 3 (0, 0)) by
        rw [hrow]
        unfold Sh.layH
        simp)
      clear hrow hgs hB3
      go_wp2
      go_loopg [25] n (fun g9 v25 wr => ∃ k : Nat, v25 = .int .i64 k ∧ k ≤ n ∧ Hid (g9 + k = n) ∧ Hid (Below w.heap.size w wr) ∧ Hid (wr.heap[g]? = some (.cells ((Sh.layH (l.take k) q).map fun (x : Int) => Value.int .i64 x).toArray 3 (0, 0))))
      case atStart => exact ⟨0, rfl, Nat.zero_le _, Lib.hid rfl, hB4, hrow4⟩
      case round =>
        obtain ⟨k, rfl, hk, hg9, hB, hrow⟩ := hrel
        by_cases hlt2 : k < n
        · obtain ⟨ad0, rfl, e0⟩ := at_int (hLh.out wr (hB.out.mono hsz)) k (by omega) (by have := hn'.out; omega)
          rw [Int.toNat_natCast] at e0
          obtain ⟨x0, x1⟩ := hxh.out k hlt2
          have hnx := hst.out q k hlt2
          obtain ⟨x, hxx⟩ : ∃ x, x = Sh.gi l k := ⟨_, rfl⟩
          rw [← hxx] at e0 hnx x0 x1
          replace hxx := Lib.hid hxx
          obtain ⟨t, ht⟩ : ∃ t, t = Sh.layH (l.take k) q := ⟨_, rfl⟩
          have htl : t.length = q := by rw [ht]; exact layH_len _ _
          rw [← ht] at hrow hnx
          replace ht := Lib.hid ht
          have hints := ints_row (base := w.heap.size) hrow.out hgw.out htl (by omega)
          obtain ⟨A9, c9, e9, hc9, hC9⟩ := Kd.R_reads hints
          have hCx : Kd.C kI wr (some ⟨g, 0, none⟩) t.length t := by
            simp only [Value.slice.injEq] at e9
            rw [e9.1]
            exact hC9
          have hpl := Lib.hid (place_calls t x (some ⟨g, 0, none⟩) q wr hCx x0 (by omega) (by omega) (by omega))
          rw [htl] at hpl
          have hsl := Sh.slot_lt x (Sh.place t x) (t := t) (by omega)
          rw [htl] at hsl
          unfold Sh.putH at hnx
          obtain ⟨P, hP⟩ : ∃ P, P = Sh.place t x := ⟨_, rfl⟩
          rw [← hP] at hpl hsl hnx
          obtain ⟨s, hs⟩ : ∃ s, s = Sh.slot t x P := ⟨_, rfl⟩
          rw [← hs] at hpl hsl hnx
          have hfz : wr.frozen? ⟨g, s, none⟩ = false := blk_frozen hrow.out s
          have hcl := ints_cell hrow.out s (by omega)
          have hrn := Lib.hid (ints_set hrow.out s x)
          rw [← hnx] at hrn
          have hBn := Lib.hid (hB.out.setCell (p := ⟨g, s, none⟩) hgw.out (.int .i64 x))
          replace hnx := Lib.hid hnx
          replace hs := Lib.hid hs
          replace hP := Lib.hid hP
          replace htl := Lib.hid htl
          obtain ⟨y, hy⟩ : ∃ y, y = Sh.gi t s := ⟨_, rfl⟩
          rw [← hy] at hcl
          replace hy := Lib.hid hy
          clear hints hc9 hC9 hCx e9
          go_wp2_with fail
          refine (hpl.out).mono ?_
          rintro e w5 ⟨rfl, rfl⟩
          go_wp2
          go_roundg (n - (k + 1))
          case measure => have := hg9.out; omega
          case rel => exact ⟨k + 1, by go_num, by omega, Lib.hid (by omega), hBn, hrn⟩
        · obtain rfl : k = n := by omega
          have hfin := Lib.hid (show wr.heap[g]? = some (.cells ((Sh.layH l q).map fun (x : Int) => Value.int .i64 x).toArray 3 (0, 0)) by
            have := hrow.out
            rwa [List.take_of_length_le (by have := hn'.out; omega)] at this)
          have hints := Lib.hid (ints_row (base := base) hfin.out (Nat.le_trans hsz hgw.out) (layH_len l q) (by omega))
          have hadd := Lib.hid (add_calls base hb H (Sh.layH l q) [] _ (.slice none 0 0) wr (hHh.out.step hB.out) hints.out (Kd.R_nil _ _ _ _ _) hl)
          clear hrow hfin
          go_wp2_with fail
          refine (hadd.out).mono ?_
          rintro e w5 ⟨rfl, hH5, hB5⟩
          have hH5' := Lib.hid hH5
          have hB5' := Lib.hid ((hB.out.mono hsz).trans hB5)
          clear hH5 hB5
          go_wp2
          go_ret
          exact ⟨rfl, hH5'.out, hB5'.out⟩
theorem laysF_all {H : Sh.Hp} {l : List Int} {f : Int} (hx : Sh.Els l) (hl : H.length ≤ 100000) : LaysF H l f := by
  intro ty k hk base hb w A c hH hL hc
  have hn := Sh.els_len hx
  by_cases hf : f = 5
  · subst hf
    rcases hk with ⟨_, _, h⟩ | ⟨_, _, h⟩ | ⟨_, _, h⟩ | ⟨_, _, h⟩ | ⟨rfl, rfl, _⟩
    · omega
    · omega
    · omega
    · omega
    · exact hlay_calls hH hL hx.2 hn (by omega)
  · exact laysF_some hf (by omega) hx hl ty k hk base hb w A c hH hL hc
end Go.Proofs.YtbfedeedicnedaaGreat
end
