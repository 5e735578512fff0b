/-
  Texts of this claim: ShBK, ShBL, ShAG.
-/
import Derived.Test.YtbfedeedicnedaaGreatSj30
set_option linter.unusedVariables false
set_option linter.unusedSimpArgs false
set_option maxHeartbeats 8000000
set_option maxRecDepth 100000
section
namespace Go.Proofs.YtbfedeedicnedaaGreat
open Go.RowKit
open Go.Proofs.YtbfedeedicnedaaGreatW.PrintWords Go.Proofs.YtbfedeedicnedaaGreatW.PrintMore
theorem HeapAt.item {w : World} {base hb : Nat} {H : Sh.Hp} (h : HeapAt w base hb H) (i : Nat) (hi : i < H.length) : ∃ ad c v0 v1, w.cell? ⟨hb, 0, none⟩ = some (.slice (some ad) H.length c) ∧ w.cell? (ad.add (i * 2)) = some v0 ∧ w.cell? ⟨(ad.add (i * 2)).block, (ad.add (i * 2)).off + 1, none⟩ = some v1 ∧ Ints w base v0 (Sh.nd H i).1 ∧ Ints w base v1 (Sh.nd H i).2 := by
  obtain ⟨h0, v, hv, hr⟩ := h
  obtain ⟨A, c, rfl, hc, hC⟩ := Kd.R_reads hr
  rw [sn_len] at hC hc hv hr
  obtain ⟨ad, A0, c0, A1, c1, rfl, -⟩ := Nodes.at hC (i : Int) (by omega) (by omega)
  obtain ⟨cs, hcl, hM, hcc⟩ := Go.Proofs.YtbfedeedicnedaaGreatW.PrintMore.Kd.R_get hr PAll.z95 (i : Int) (by omega) (by omega)
  have hsz : PAll.k95.sz = 2 := rfl
  rw [hsz] at hcc
  have hx : (sn H).getD (i : Int).toNat PAll.z95 = PAll.rd_T95 (sn H) (i : Int) := rfl
  rw [hx] at hM
  obtain ⟨v0, v1, rfl, g0, g1⟩ := PAll.k95_openM hM
  rw [(rd_sn H i).1] at g0
  rw [(rd_sn H i).2] at g1
  rw [Int.toNat_natCast] at hcc
  refine ⟨ad, c, v0, v1, by rw [blk_cell hv]; rfl, hcc 0 _ rfl, ?_, Kd.R_mono g0 (fun _ _ => trivial), Kd.R_mono g1 (fun _ _ => trivial)⟩
  have := hcc 1 _ rfl
  rw [← add_field _ _ 1 (by omega)]
  exact this
theorem adrop_calls {base hb : Nat} {H : Sh.Hp} {w : World} (hH : HeapAt w base hb H) (root x : Int) (ht : Sh.there H root = true) {l : List Int} (hl0 : (Sh.nd H root).1 = l) (hs : l.Pairwise (· ≤ ·)) (k : Nat) (hk : l.countP (· < x) = k) (hk1 : k < l.length) (hll : l.length ≤ 100000) (hl : H.length ≤ 1000000) :
    Calls Tryz.prog 160 #[.agg #[], .pointer (some ⟨hb, 0, none⟩), .int .i64 root, .int .i64 x] w fun e w' => e = .returned (.int .i64 H.length) ∧ HeapAt w' base hb (H ++ [(l.take k ++ l.drop (k + 1), [])]) ∧ Below base w w' := by
  have hsz : base ≤ w.heap.size := by have := hH.1; have := hH.lt; omega
  obtain ⟨hr0, hr1⟩ := Sh.there_iff.1 ht
  obtain ⟨i, rfl⟩ := Int.eq_ofNat_of_zero_le hr0
  obtain ⟨W1, hW1⟩ : ∃ W1, W1 = w.alloc (.cells #[] 154) := ⟨_, rfl⟩
  have hB1 := Lib.hid (show Below w.heap.size w W1 by rw [hW1]; exact (Below.refl _ _).alloc (Nat.le_refl _) _)
  have hH1 := hH.step hB1.out
  obtain ⟨ad, cH, v0, v1, d0, d1, d2, g0, g1⟩ := hH1.item i (by omega)
  rw [hl0] at g0
  have hbs := Lib.hid (fun n => bsearch_calls (Kd.R_drewN g0 n) (by omega) hs x)
  rw [hk] at hbs
  obtain ⟨A, c, rfl, hc, hC⟩ := Kd.R_reads g0
  have hCw := Lib.hid (fun W (hW : Below W1.heap.size W1 W) => (Kd.C_below hC hW : Kd.C kI W A l.length l))
  obtain ⟨s1, s2, s3⟩ := take_at A c l k (by omega) hc
  obtain ⟨A2, t1, t2, t3⟩ := drop_at A c l (k + 1) (by omega) hc
  have hlen1 : (l.take k).length = k := by rw [List.length_take]; omega
  have hlen2 : (l.drop (k + 1)).length = l.length - (k + 1) := by rw [List.length_drop]
  have hT := Lib.hid (fun W hW => s2 W (hCw.out W hW))
  have hD := Lib.hid (fun W hW => t2 W (hCw.out W hW))
  have hcl := Lib.hid (fun W hW => clone_calls A c (l.take k) W (hT.out W hW) (by omega))
  rw [hlen1] at hcl s1
  rw [hlen2] at hD t1
  obtain ⟨T, hTe⟩ : ∃ T, T = l.take k := ⟨_, rfl⟩
  obtain ⟨D, hDe⟩ : ∃ D, D = l.drop (k + 1) := ⟨_, rfl⟩
  rw [← hTe] at hcl hT hlen1 ⊢
  rw [← hDe] at hD hlen2 ⊢
  replace hTe := Lib.hid hTe
  replace hDe := Lib.hid hDe
  replace hlen1 := Lib.hid hlen1
  replace hlen2 := Lib.hid hlen2
  obtain ⟨n, hn⟩ : ∃ n, n = l.length := ⟨_, rfl⟩
  rw [← hn] at hk1 hll d1 hbs hD t1 s1 hlen2
  replace hn := Lib.hid hn
  have hHs := Lib.hid (fun W (hW : Below W1.heap.size W1 W) => hH1.step hW)
  have hadd := Lib.hid (fun W v (hW : HeapAt W base hb H) (h : Ints W base v (T ++ D)) => add_calls base hb H (T ++ D) [] v (.slice none 0 0) W hW h (Kd.R_nil _ _ _ _ _) hl)
  have hsb := Lib.hid (show base ≤ W1.heap.size from Nat.le_trans hsz hB1.out.size)
  have hBb := Lib.hid (fun W (hW : Below base W1 W) => ((hB1.out.mono hsz).trans hW : Below base w W))
  have hkw : IntKind.i64.wrap ((k : Int) + 1) = (k : Int) + 1 := IntWalk.i64_in _ (by omega)
  have hkc : ((k : Int) + 1) = ((k + 1 : Nat) : Int) := by omega
  have t1' : ∀ W : World, (Instr.slice 28 (.slice A n c) (some (.int .i64 ((k : Int) + 1))) none none).run Tryz.prog W = .ok (.slice A2 (n - (k + 1)) (c - (k + 1))) W := fun W => by rw [hkc]; exact t1 W
  replace hkw := Lib.hid hkw
  clear hH hH1 hC g0 g1 hs hk ht hl0 hkc t1 t2 s2 s3 t3
  subst hW1
  go_enter Tryz.func160, Tryz.ntmps160
  go_wp2_with fail
  refine (hbs.out 0).mono ?_
  rintro e w2 ⟨rfl, nq, rfl⟩
  have hB2 := Lib.hid (show Below (w.alloc (.cells #[] 154)).heap.size (w.alloc (.cells #[] 154)) (((w.alloc (.cells #[] 154)).drewN 0).drewN nq).drew from (pw_below_drewN (pw_below_drewN (Below.refl _ _) 0) nq).drew)
  have hs2 := Lib.hid (show (w.alloc (.cells #[] 154)).heap.size ≤ (((w.alloc (.cells #[] 154)).drewN 0).drewN nq).drew.heap.size from hB2.out.size)
  have hkw' := hkw.out
  go_wp2
  go_region_held3 (fun W' => True)
    (first
      | exact trivial
      | fail)
    (first
      | (go_at_call 76; refine (hcl.out _ hB2.out).mono ?_; rintro e w3 ⟨v3, rfl, ho3, hB3⟩; have ho3' := Lib.hid ho3; have hB3n := Lib.hid hB3; have hB3' := Lib.hid (hB2.out.trans (hB3.mono hs2.out)); clear ho3 hB3)
      | (refine app_all_step (W := w3) (w0 := (((w.alloc (.cells #[] 154)).drewN 0).drewN nq).drew) (((w.alloc (.cells #[] 154)).drewN 0).drewN nq).drew.heap.size (by rfl) _ _ (by rfl) v3 T D A2 (n - (k + 1)) (c - (k + 1)) rfl rfl ho3'.out (hD.out _ hB3'.out) hB3n.out hB3n.out.size (by have := hlen1.out; omega) ?_; intro v4 w4 a1 a2 a3; have ho4 := Lib.hid (Kd.R_lower a1 (Nat.le_trans hsb.out hs2.out)); have hBB := Lib.hid (hB2.out.trans (a2.mono hs2.out)); have hB4 := Lib.hid (hBB.out.mono hsb.out); have hH4 := Lib.hid (hHs.out _ hBB.out); clear a1 a2 a3)
      | (go_at_call 130; refine (hadd.out _ _ hH4.out ho4.out).mono ?_; rintro e w5 ⟨rfl, hH5, hB5⟩; have hH5' := Lib.hid hH5; have hB5' := Lib.hid (hBb.out _ (hB4.out.trans hB5)); clear hH5 hB5))
  clear hkw'
  go_wp2
  go_ret
  exact ⟨rfl, hH5'.out, hB5'.out⟩
theorem Ints.store {w : World} {base g n cap : Nat} {t : List Int} (h : Ints w base (.slice (some ⟨g, 0, none⟩) n cap) t) (hn : n = t.length) (s : Nat) (x : Int) : Ints (w.setCell ⟨g, s, none⟩ (.int .i64 x)) base (.slice (some ⟨g, 0, none⟩) n cap) (t.set s x) := by
  subst hn
  have := (own_store h.own (s : Int) x).1
  rw [Int.toNat_natCast] at this
  refine Ints.mk ?_
  rw [List.length_set]
  exact this
theorem hput_calls {base hb : Nat} {H : Sh.Hp} {w : World} (hH : HeapAt w base hb H) (root x : Int) (ht : Sh.there H root = true) {t l : List Int} (ht0 : (Sh.nd H root).1 = t) (hlist : Sh.listHash H root = some l) (hfit : 2 * (l.length + 1) ≤ t.length) (htl : t.length ≤ 100000) (hx0 : 0 ≤ x) (hx1 : x ≤ 1023) (hbig : ∀ p ∈ H, p.1.length ≤ 1000000) (hl : H.length ≤ 1000000) :
    Calls Tryz.prog 192 #[.agg #[], .pointer (some ⟨hb, 0, none⟩), .int .i64 root, .int .i64 x] w fun e w' => e = .returned (.int .i64 H.length) ∧ HeapAt w' base hb (H ++ [(Sh.putH t x, [])]) ∧ Below base w w' := by
  have hsz : base ≤ w.heap.size := by have := hH.1; have := hH.lt; omega
  obtain ⟨hr0, hr1⟩ := Sh.there_iff.1 ht
  obtain ⟨i, rfl⟩ := Int.eq_ofNat_of_zero_le hr0
  obtain ⟨W1, hW1⟩ : ∃ W1, W1 = w.alloc (.cells #[] 157) := ⟨_, rfl⟩
  have hB1 := Lib.hid (show Below w.heap.size w W1 by rw [hW1]; exact (Below.refl _ _).alloc (Nat.le_refl _) _)
  have hH1 := hH.step hB1.out
  obtain ⟨ad, cH, v0, v1, d0, d1, d2, g0, g1⟩ := hH1.item i (by omega)
  rw [ht0] at g0
  obtain ⟨A9, c9, d9, -, hN⟩ := hH1.cell
  rw [d0] at d9
  have hNd : Nodes W1 (some ad) H := by
    have := Option.some.inj d9
    simp only [Value.slice.injEq] at this
    rw [this.1]
    exact hN
  obtain ⟨A, c, rfl, hc, hC⟩ := Kd.R_reads g0
  have hls := Lib.hid (fun W (hW : Below W1.heap.size W1 W) => hlist_calls H (i : Int) (some ad) cH W (Kd.C_below hNd hW) hbig)
  rw [hlist] at hls
  have hCw := Lib.hid (fun W (hW : Below W1.heap.size W1 W) => (Kd.C_below hC hW : Kd.C kI W A t.length t))
  have hcn := Lib.hid (fun W hW => clone_calls A c t W (hCw.out W hW) (by omega))
  have hcell := Lib.hid (fun W (hW : Below W1.heap.size W1 W) => (⟨pw_cell_below hW d0, pw_cell_below hW d1⟩ : W.cell? ⟨hb, 0, none⟩ = some (.slice (some ad) H.length cH) ∧ W.cell? (ad.add (i * 2)) = some (.slice A t.length c)))
  obtain ⟨n, hn⟩ : ∃ n, n = t.length := ⟨_, rfl⟩
  have hnl : 0 < n := by omega
  have hpl := Lib.hid (fun A9 c9 W (hW : Kd.C kI W A9 t.length t) => place_calls t x A9 c9 W hW hx0 (by omega) (by omega) htl)
  have hsl := Sh.slot_lt x (Sh.place t x) (t := t) (by omega)
  rw [← hn] at hcn hcell hfit hpl hsl htl d1
  obtain ⟨m, hm⟩ : ∃ m, m = l.length := ⟨_, rfl⟩
  rw [← hm] at hfit
  have hput := Lib.hid (show Sh.putH t x = t.set (Sh.slot t x (Sh.place t x)) x from rfl)
  obtain ⟨P, hP⟩ : ∃ P, P = Sh.place t x := ⟨_, rfl⟩
  rw [← hP] at hpl hsl hput
  obtain ⟨s, hs⟩ : ∃ s, s = Sh.slot t x P := ⟨_, rfl⟩
  rw [← hs] at hpl hsl hput
  replace hP := Lib.hid hP
  replace hs := Lib.hid hs
  obtain ⟨F, hF⟩ : ∃ F, F = Sh.putH t x := ⟨_, rfl⟩
  rw [← hF] at hput ⊢
  replace hF := Lib.hid hF
  have hHs := Lib.hid (fun W (hW : Below W1.heap.size W1 W) => hH1.step hW)
  have hadd := Lib.hid (fun W v (hW : HeapAt W base hb H) (h : Ints W base v F) => add_calls base hb H F [] v (.slice none 0 0) W hW h (Kd.R_nil _ _ _ _ _) hl)
  have hsb := Lib.hid (show base ≤ W1.heap.size from Nat.le_trans hsz hB1.out.size)
  have hBb := Lib.hid (fun W (hW : Below base W1 W) => ((hB1.out.mono hsz).trans hW : Below base w W))
  have hBd := Lib.hid (show Below W1.heap.size W1 W1.drew from (Below.refl _ _).drew)
  have hfb : decide ((n : Int) < 2 * ((m : Int) + 1)) = false := decide_eq_false (by omega)
  have hkk := Lib.hid (fun W (hW : Below W1.heap.size W1 W) => (⟨hW, pw_cell_below hW d0⟩ : Below W1.heap.size W1 W ∧ W.cell? ⟨hb, 0, none⟩ = some (.slice (some ad) H.length cH)))
  replace hn := Lib.hid hn
  replace hm := Lib.hid hm
  clear hH hH1 hC g0 g1 ht ht0 hlist hN d9 hNd hbig d0 d1 d2
  subst hW1
  go_enter Tryz.func192, Tryz.ntmps192
  go_wp2
  go_region_held3 (fun W' => Below (w.alloc (.cells #[] 157)).heap.size (w.alloc (.cells #[] 157)) W' ∧ W'.cell? ⟨hb, 0, none⟩ = some (.slice (some ad) H.length cH))
    (first
      | exact hkk.out _ (by assumption)
      | exact hkk.out _ hBd.out
      | fail)
    (first
      | (go_at_call 191; refine (hls.out _ ?hl).mono ?_; (case hl => first | assumption | exact hBd.out); rintro e w3 ⟨⟨v3, rfl, ho3⟩, hB3⟩; have hB3' : Below (w.alloc (.cells #[] 157)).heap.size (w.alloc (.cells #[] 157)) w3 := hBd.out.trans (hB3.mono hBd.out.size); replace ho3 := Lib.hid ho3; replace hB3 := Lib.hid hB3))
  replace hB3' := Lib.hid (show Below (w.alloc (.cells #[] 157)).heap.size (w.alloc (.cells #[] 157)) w3 from by assumption)
  obtain ⟨k1, k2⟩ := hcell.out w3 hB3'.out
  obtain ⟨A3, c3, rfl⟩ := Kd.R_slice ho3.out
  have hml : ((some l).getD ([] : List Int)).length = m := hm.out.symm
  rw [hml]
  replace hml := Lib.hid hml
  clear ho3
  go_wp2_with fail
  refine (hcn.out _ hB3'.out).mono ?_
  rintro e w5 ⟨v5, rfl, ho5, hB5⟩
  have hB5' := Lib.hid (hB3'.out.trans (hB5.mono hB3'.out.size))
  rcases ho5.cases with ⟨-, h9⟩ | ⟨g, cap, cur, rfl, hgb, hgc, hcap, -, -, -⟩
  · exact absurd hn.out (by rw [h9]; simp; omega)
  have hrd : Kd.C kI w5 (some ⟨g, 0, none⟩) t.length t := by
    obtain ⟨A6, c6, e6, _, hC6⟩ := Kd.R_reads ho5
    simp only [Value.slice.injEq] at e6
    rw [e6.1]
    exact hC6
  have hpl2 := Lib.hid (hpl.out _ cap w5 (by rw [← hn.out] at hrd; exact hrd))
  have hfz : w5.frozen? ⟨g, s, none⟩ = false := blk_frozen hgc s
  obtain ⟨ads, hads, hcs⟩ := at_int hrd (s : Int) (by omega) (by have := hn.out; omega)
  rw [Int.toNat_natCast] at hcs
  have hads2 : ads.add s = ⟨g, s, none⟩ := by
    cases hads
    exact add_of g s
  rw [hads2] at hcs
  have hst := Lib.hid (ho5.store rfl s x)
  rw [← hput.out] at hst
  rw [← hn.out] at hst ⊢
  have hBs := Lib.hid (hB5'.out.setCell (p := ⟨g, s, none⟩) (show (w.alloc (.cells #[] 157)).heap.size ≤ g from Nat.le_trans hB3'.out.size hgb) (.int .i64 x))
  have hb3 := Lib.hid (show base ≤ w3.heap.size from Nat.le_trans hsb.out hB3'.out.size)
  have hadd2 := Lib.hid (hadd.out _ _ (hHs.out _ hBs.out) (Kd.R_lower hst.out hb3.out))
  obtain ⟨y, hy⟩ : ∃ y, y = Sh.gi t s := ⟨_, rfl⟩
  rw [← hy] at hcs
  replace hy := Lib.hid hy
  have hw1 : IntKind.i64.wrap ((m : Int) + 1) = (m : Int) + 1 := IntWalk.i64_in _ (by omega)
  have hw2 : IntKind.i64.wrap (2 * ((m : Int) + 1)) = 2 * ((m : Int) + 1) := IntWalk.i64_in _ (by omega)
  clear hrd hB5 ho5 hgc hads hads2 hgb k1 k2
  go_wp2_with fail
  refine (hpl2.out).mono ?_
  rintro e w6 ⟨rfl, rfl⟩
  go_wp2_with fail
  refine (hadd2.out).mono ?_
  rintro e w7 ⟨rfl, hH7, hB7⟩
  have hH7' := Lib.hid hH7
  have hB7' := Lib.hid (hBb.out _ ((hBs.out.mono hsb.out).trans hB7))
  clear hH7 hB7
  go_wp2
  go_ret
  exact ⟨rfl, hH7'.out, hB7'.out⟩
end Go.Proofs.YtbfedeedicnedaaGreat
end
section
namespace Go.Proofs.YtbfedeedicnedaaGreat
open Go.RowKit
open Go.Proofs.YtbfedeedicnedaaGreatW.PrintWords
theorem HeapAt.set25 {w : World} {base hb g : Nat} {H : Sh.Hp} {cs : Array Value} (h : HeapAt w base hb H) (hg : w.heap[g]? = some (.cells cs 25 (0, 0))) (j : Nat) (v : Value) : HeapAt (w.setCell ⟨g, j, none⟩ v) base hb H := by
  obtain ⟨h0, v0, hv, hr⟩ := h
  have hne : hb ≠ g := fun e => by rw [e, hg] at hv; simp at hv
  exact ⟨h0, v0, blk_far hv hne v, Kd.R_set hr hg (fun q hq => by rcases kSN_E q hq with rfl | rfl <;> decide) j _⟩
theorem changed_more {H : Sh.Hp} {root n x : Int} {A : Option Addr} {c : Nat} {w : World} {l : List Int} (hC : Nodes w A H) (hLa : ListsF H 5) (ha : Sh.sought H 5 root n x = (l, 0)) (hh : l.contains x = false) (hll : l.length ≤ 5000) (hlH : H.length ≤ 100000) (hbig : ∀ p ∈ H, p.1.length ≤ 1000000 ∧ p.2.length ≤ 1000000) (hn0 : 0 ≤ n) (hn1 : n ≤ 100000) {K : Sh.Hp} {r : Int} (hP : ∀ (base hb : Nat) (W : World), HeapAt W base hb H → Calls Tryz.prog 192 #[.agg #[], .pointer (some ⟨hb, 0, none⟩), .int .i64 root, .int .i64 x] W fun e w' => e = .returned (.int .i64 r) ∧ HeapAt w' base hb K ∧ Below base W w') :
    Calls Tryz.prog 81 #[.slice A H.length c, shV 5 root n, .int .i64 x, .bool true] w fun e w' => Out3 w.heap.size w' e K 5 r (n + 1) 0 ∧ Below w.heap.size w w' := by
  obtain ⟨W0, hW0⟩ : ∃ W0, W0 = (w.alloc (.cells #[.int .i64 5, .int .i64 root, .int .i64 n] 25)).alloc zero25 := ⟨_, rfl⟩
  have hsz := Lib.hid (show W0.heap.size = w.heap.size + 2 by rw [hW0, World.size_alloc, World.size_alloc])
  have b1 := Lib.hid (show W0.heap[w.heap.size]? = some (.cells #[.int .i64 5, .int .i64 root, .int .i64 n] 25 (0, 0)) by
    rw [hW0]
    exact blk_alloc (heap_alloc_new w _) _)
  have b2 := Lib.hid (show W0.heap[w.heap.size + 1]? = some (.cells #[.int .i64 0, .int .i64 0, .int .i64 0] 25 (0, 0)) by
    have := heap_alloc_new (w.alloc (.cells #[.int .i64 5, .int .i64 root, .int .i64 n] 25)) zero25
    rw [World.size_alloc] at this
    rw [hW0]
    exact this)
  have hB0 := Lib.hid (show Below w.heap.size w W0 by rw [hW0]; exact two_alloc w _ _)
  have hBw := Lib.hid (fun W (hW : Below W0.heap.size W0 W) => (hB0.out.trans (hW.mono (by have := hsz.out; omega)) : Below w.heap.size w W))
  have hla := Lib.hid (fun W (hW : Below W0.heap.size W0 W) => by have := sought_calls H 5 root n x A c W (Kd.C_below hC (hBw.out W hW)) hLa; rw [ha] at this; exact this)
  have hgr := Lib.hid (fun W (hW : Below W0.heap.size W0 W) => grown_calls A c H W (Kd.C_below hC (hBw.out W hW)) hlH hbig)
  have hfD := Lib.hid (show ¬ Digital 5 by unfold Digital; omega)
  have hct := Lib.hid (fun base v W (hW : Ints W base v l) => contains_calls hW (by omega) x)
  rw [hh] at hct
  have hof := Lib.hid (fun W => of_calls 5 W (by omega) (by omega))
  rw [show formV 5 = .iface 157 (.agg #[]) from rfl] at hof
  have hmm : ∀ W : World, (method 312 157 (.agg #[]) "sward/shape.put").run Tryz.prog W = .ok (192, .agg #[]) W := fun _ => by kernel_rfl
  have hb9 : (false == true) = false := rfl
  have hPh := Lib.hid hP
  clear hC hLa ha hbig hh hP
  go_enter Tryz.func81, Tryz.ntmps81
  go_wp2_with fail
  rw [← hW0]
  clear hW0
  refine (hla.out _ (Below.refl _ _)).mono ?_
  rintro e w1 ⟨⟨v1, l1, rfl, o1, hx0, hx1⟩, hb1⟩
  obtain rfl : l1 = l := hx1 hfD.out
  have o1' := Lib.hid o1
  have hB1 := Lib.hid hb1
  obtain ⟨A1, c1, rfl, hc1, hC1⟩ := Kd.R_reads o1
  have p0 : w1.cell? ⟨w.heap.size, 0, none⟩ = some (.int .i64 5) := by rw [blk_cell (blk_below b1.out hb1)]; rfl
  clear hb1 o1 hx1 hx0 hC1
  have hgc := Lib.hid (hgr.out w1 hB1.out)
  obtain ⟨n1, hn1⟩ : ∃ n1, n1 = l1.length := ⟨_, rfl⟩
  rw [← hn1] at hll hc1 o1' ⊢
  replace hn1 := Lib.hid hn1
  go_wp2_with fail
  refine (hgc.out).mono ?_
  rintro e w3 ⟨hb, rfl, hH3, hB3⟩
  have hB3' := Lib.hid (hB1.out.trans (hB3.mono hB1.out.size))
  have o3 := Kd.R_below o1'.out hB3
  have hcc := Lib.hid (hct.out _ _ _ (by rw [hn1.out] at o3; exact o3))
  rw [← hn1.out] at hcc
  have hs2 := Lib.hid (show w.heap.size + 2 ≤ w1.heap.size by have := hB1.out.size; have := hsz.out; omega)
  replace hH3 := Lib.hid hH3
  clear hB3 o3
  go_wp2_with fail
  refine (hcc.out).mono ?_
  rintro e w5 ⟨rfl, rfl⟩
  obtain ⟨g9, hg9⟩ : ∃ g9, g9 = w.heap.size + 1 := ⟨_, rfl⟩
  obtain ⟨g5, hg5⟩ : ∃ g5, g5 = w.heap.size := ⟨_, rfl⟩
  have h56 := Lib.hid (show w5.heap[g5]? = some (.cells #[.int .i64 5, .int .i64 root, .int .i64 n] 25 (0, 0)) by rw [hg5]; exact blk_below b1.out hB3'.out)
  have h96 := Lib.hid (show w5.heap[g9]? = some (.cells #[.int .i64 0, .int .i64 0, .int .i64 0] 25 (0, 0)) by rw [hg9]; exact blk_below b2.out hB3'.out)
  have hB6 := Lib.hid (hBw.out _ hB3'.out)
  have hHp := Lib.hid (fun W (hW : Below w5.heap.size w5 W) => hPh.out _ _ W (hH3.out.step hW))
  have hs3 := Lib.hid (show w1.heap.size ≤ w5.heap.size by have := hH3.out.1; have := hH3.out.lt; omega)
  have hs4 := Lib.hid (show g9 < w5.heap.size from blk_lt h96.out)
  have hgl := Lib.hid (show g5 < w1.heap.size by have := hs2.out; omega)
  have hgl9 := Lib.hid (show g9 < w1.heap.size by have := hs2.out; omega)
  have hsw := Lib.hid (show w.heap.size ≤ w5.heap.size by have := hs3.out; have := hs2.out; omega)
  have hsw1 := Lib.hid (show w.heap.size ≤ w1.heap.size by have := hs2.out; omega)
  clear hH3 p0 hPh
  go_wp2
  rw [← hg9, ← hg5]
  replace hg9 := Lib.hid hg9
  replace hg5 := Lib.hid hg5
  have q0 : w5.drew.cell? ⟨g5, 0, none⟩ = some (.int .i64 5) := by show w5.cell? _ = _; rw [blk_cell h56.out]; rfl
  have q1 : w5.drew.cell? ⟨g5, 1, none⟩ = some (.int .i64 root) := by show w5.cell? _ = _; rw [blk_cell h56.out]; rfl
  go_region_with (first
    | (go_at_call 99; refine (hof.out _).mono ?_; rintro e w6 ⟨rfl, hBo⟩; have e0 : w6.cell? ⟨g5, 1, none⟩ = some (.int .i64 root) := pw_cell_below hBo q1; have hBo' := Lib.hid (show Below w5.heap.size w5 w6 from ((Below.refl w5.heap.size w5).drew).trans hBo); clear hBo)
    | (go_at_call 192; refine (hHp.out _ hBo'.out).mono ?_; rintro e w7 ⟨rfl, hH7, hB7⟩; have h57 := Lib.hid (show w7.heap[g5]? = some (.cells #[.int .i64 5, .int .i64 root, .int .i64 n] 25 (0, 0)) from (hB7.block g5 hgl.out).trans (blk_below h56.out hBo'.out)); have h97 := Lib.hid (show w7.heap[g9]? = some (.cells #[.int .i64 0, .int .i64 0, .int .i64 0] 25 (0, 0)) from (hB7.block g9 hgl9.out).trans (blk_below h96.out hBo'.out)); have hB7' := Lib.hid (hB6.out.trans ((hBo'.out.mono hsw.out).trans (hB7.mono hsw1.out))); have hH7' := Lib.hid hH7; have f1 : w7.frozen? ⟨g5, 1, none⟩ = false := blk_frozen h57.out 1; have c1' : w7.cell? ⟨g5, 1, none⟩ = some (.int .i64 root) := (blk_cell h57.out 1).trans rfl; clear hH7 hB7))
  all_goals
    have hnw : IntKind.i64.wrap (n + 1) = n + 1 := IntWalk.i64_in _ (by omega)
    have h58 := Lib.hid (blk_set h57.out 1 (.int .i64 r))
    have c2 : (w7.setCell ⟨g5, 1, none⟩ (.int .i64 r)).cell? ⟨g5, 2, none⟩ = some (.int .i64 n) := by rw [blk_cell h58.out]; rfl
    have f2 : (w7.setCell ⟨g5, 1, none⟩ (.int .i64 r)).frozen? ⟨g5, 2, none⟩ = false := blk_frozen h58.out 2
    have h59 := Lib.hid (blk_set h58.out 2 (.int .i64 (n + 1)))
    have h99 := Lib.hid (blk_far (p := ⟨g5, 2, none⟩) (blk_far (p := ⟨g5, 1, none⟩) h97.out (show g9 ≠ g5 by have := hg9.out; have := hg5.out; omega) (.int .i64 r)) (show g9 ≠ g5 by have := hg9.out; have := hg5.out; omega) (.int .i64 (n + 1)))
    have hH9 := Lib.hid ((hH7'.out.set25 h57.out 1 (.int .i64 r)).set25 h58.out 2 (.int .i64 (n + 1)))
    have hB9 := Lib.hid ((hB7'.out.setCell (p := ⟨g5, 1, none⟩) (show w.heap.size ≤ g5 by rw [hg5.out]; exact Nat.le_refl _) (.int .i64 r)).setCell (p := ⟨g5, 2, none⟩) (show w.heap.size ≤ g5 by rw [hg5.out]; exact Nat.le_refl _) (.int .i64 (n + 1)))
    clear q0 q1 e0 f1 c1' hof hHp hmm h56 h96 hBo' hgl hgl9 hsw hsw1 hs3 hs4
    go_wp2
    clear hnw c2 f2
    obtain ⟨W6, hW6⟩ : ∃ W6, W6 = (w7.setCell ⟨g5, 1, none⟩ (.int .i64 r)).setCell ⟨g5, 2, none⟩ (.int .i64 (n + 1)) := ⟨_, rfl⟩
    rw [← hW6]
    rw [← hW6] at h59 h99 hH9 hB9
    replace h99 := Lib.hid (show ∃ a b c, W6.heap[g9]? = some (.cells #[a, b, c] 25 (0, 0)) from ⟨_, _, _, h99.out⟩)
    replace h59 := Lib.hid (show W6.heap[g5]? = some (.cells #[.int .i64 5, .int .i64 r, .int .i64 (n + 1)] 25 (0, 0)) from h59.out)
    clear hW6 h57 h58 h97 hH7' hB7'
    obtain ⟨hq0, v5, hv5, hr5⟩ := hH9.out
    obtain ⟨A5, c5, rfl⟩ := Kd.R_slice hr5
    rw [sn_len] at hv5
    rw [sn_len] at hr5
    have hho := Lib.hid (show Hold1 hb g9 g5 (.slice A5 K.length c5) (.int .i64 5) (.int .i64 r) (.int .i64 (n + 1)) W6 from ⟨⟨hv5, h59.out⟩, h99.out⟩)
    have hnes := Lib.hid (show hb ≠ g9 ∧ g5 ≠ g9 by have := hs2.out; have := hg9.out; have := hg5.out; omega)
    have hd6 := Lib.hid hho.out.drew
    have hd7 := Lib.hid (fun (x y z : Value) => (hho.out.set hnes.out x y z).drew)
    have hfin := Lib.hid (fun (x y z : Value) => (show Kd.R kSN 95 (((W6.setCell ⟨g9, 0, none⟩ x).setCell ⟨g9, 1, none⟩ y).setCell ⟨g9, 2, none⟩ z).drew w.heap.size (fun _ => True) (.slice A5 K.length c5) (sn K) ∧ Below w.heap.size w (((W6.setCell ⟨g9, 0, none⟩ x).setCell ⟨g9, 1, none⟩ y).setCell ⟨g9, 2, none⟩ z).drew from
      ⟨Kd.R_lower (out_set_d hr5 h99.out x y z) (by have := hs2.out; omega), (below_setk hB9.out (show w.heap.size ≤ g9 by rw [hg9.out]; omega) x y z).drew⟩))
    obtain ⟨-, k0, k1, k2, k3, f0, f1, f2, d0, d1, d2⟩ := hho.out.cells
    clear hv5 hr5 hq0 hH9 b1 b2 hla hgr hct hgc hcc hB1 hB3' o1' hc1 hB0 hBw hll
    go_region_held3 (fun W' => Hold1 hb g9 g5 (.slice A5 K.length c5) (.int .i64 5) (.int .i64 r) (.int .i64 (n + 1)) W' ∧ W'.cell? ⟨hb, 0, none⟩ = some (.slice A5 K.length c5) ∧ W'.cell? ⟨g5, 0, none⟩ = some (.int .i64 5) ∧ W'.cell? ⟨g5, 1, none⟩ = some (.int .i64 r) ∧ W'.cell? ⟨g5, 2, none⟩ = some (.int .i64 (n + 1)) ∧ W'.frozen? ⟨g9, 0, none⟩ = false ∧ W'.frozen? ⟨g9, 1, none⟩ = false ∧ W'.frozen? ⟨g9, 2, none⟩ = false ∧ W'.cell? ⟨g9, 0, none⟩ = some (heldAt g9 0 W') ∧ W'.cell? ⟨g9, 1, none⟩ = some (heldAt g9 1 W') ∧ W'.cell? ⟨g9, 2, none⟩ = some (heldAt g9 2 W'))
      (first
        | with_reducible exact Hold1.cells hd6.out
        | with_reducible exact Hold1.cells (hd7.out _ _ _)
        | with_reducible exact Hold1.cells (by with_reducible assumption)
        | fail)
      (first | fail)
    go_wp2
    refine bodyPost_ret (results_tct rfl _ _ g9 #[.int .i64 5, .int .i64 r, .int .i64 (n + 1)] rfl (load_set3_d h99.out)) rfl ?_
    exact ⟨⟨_, by rfl, (hfin.out _ _ _).1⟩, (hfin.out _ _ _).2⟩
theorem changed_less {H : Sh.Hp} {root n x : Int} {A : Option Addr} {c : Nat} {w : World} {l : List Int} (hC : Nodes w A H) (hLa : ListsF H 1) (ha : Sh.sought H 1 root n x = (l, 0)) (hh : l.contains x = true) (hll : l.length ≤ 5000) (hlH : H.length ≤ 100000) (hbig : ∀ p ∈ H, p.1.length ≤ 1000000 ∧ p.2.length ≤ 1000000) (hn0 : 0 ≤ n) (hn1 : n ≤ 100000) {K : Sh.Hp} {r : Int} (hP : ∀ (base hb : Nat) (W : World), HeapAt W base hb H → Calls Tryz.prog 160 #[.agg #[], .pointer (some ⟨hb, 0, none⟩), .int .i64 root, .int .i64 x] W fun e w' => e = .returned (.int .i64 r) ∧ HeapAt w' base hb K ∧ Below base W w') :
    Calls Tryz.prog 81 #[.slice A H.length c, shV 1 root n, .int .i64 x, .bool false] w fun e w' => Out3 w.heap.size w' e K 1 r (n - 1) 0 ∧ Below w.heap.size w w' := by
  obtain ⟨W0, hW0⟩ : ∃ W0, W0 = (w.alloc (.cells #[.int .i64 1, .int .i64 root, .int .i64 n] 25)).alloc zero25 := ⟨_, rfl⟩
  have hsz := Lib.hid (show W0.heap.size = w.heap.size + 2 by rw [hW0, World.size_alloc, World.size_alloc])
  have b1 := Lib.hid (show W0.heap[w.heap.size]? = some (.cells #[.int .i64 1, .int .i64 root, .int .i64 n] 25 (0, 0)) by
    rw [hW0]
    exact blk_alloc (heap_alloc_new w _) _)
  have b2 := Lib.hid (show W0.heap[w.heap.size + 1]? = some (.cells #[.int .i64 0, .int .i64 0, .int .i64 0] 25 (0, 0)) by
    have := heap_alloc_new (w.alloc (.cells #[.int .i64 1, .int .i64 root, .int .i64 n] 25)) zero25
    rw [World.size_alloc] at this
    rw [hW0]
    exact this)
  have hB0 := Lib.hid (show Below w.heap.size w W0 by rw [hW0]; exact two_alloc w _ _)
  have hBw := Lib.hid (fun W (hW : Below W0.heap.size W0 W) => (hB0.out.trans (hW.mono (by have := hsz.out; omega)) : Below w.heap.size w W))
  have hla := Lib.hid (fun W (hW : Below W0.heap.size W0 W) => by have := sought_calls H 1 root n x A c W (Kd.C_below hC (hBw.out W hW)) hLa; rw [ha] at this; exact this)
  have hgr := Lib.hid (fun W (hW : Below W0.heap.size W0 W) => grown_calls A c H W (Kd.C_below hC (hBw.out W hW)) hlH hbig)
  have hfD := Lib.hid (show ¬ Digital 1 by unfold Digital; omega)
  have hct := Lib.hid (fun base v W (hW : Ints W base v l) => contains_calls hW (by omega) x)
  rw [hh] at hct
  have hof := Lib.hid (fun W => of_calls 1 W (by omega) (by omega))
  rw [show formV 1 = .iface 154 (.agg #[]) from rfl] at hof
  have hmm : ∀ W : World, (method 312 154 (.agg #[]) "sward/shape.drop").run Tryz.prog W = .ok (160, .agg #[]) W := fun _ => by kernel_rfl
  have hb9 : (true == false) = false := rfl
  have hPh := Lib.hid hP
  clear hC hLa ha hbig hh hP
  go_enter Tryz.func81, Tryz.ntmps81
  go_wp2_with fail
  rw [← hW0]
  clear hW0
  refine (hla.out _ (Below.refl _ _)).mono ?_
  rintro e w1 ⟨⟨v1, l1, rfl, o1, hx0, hx1⟩, hb1⟩
  obtain rfl : l1 = l := hx1 hfD.out
  have o1' := Lib.hid o1
  have hB1 := Lib.hid hb1
  obtain ⟨A1, c1, rfl, hc1, hC1⟩ := Kd.R_reads o1
  have p0 : w1.cell? ⟨w.heap.size, 0, none⟩ = some (.int .i64 1) := by rw [blk_cell (blk_below b1.out hb1)]; rfl
  clear hb1 o1 hx1 hx0 hC1
  have hgc := Lib.hid (hgr.out w1 hB1.out)
  obtain ⟨n1, hn1⟩ : ∃ n1, n1 = l1.length := ⟨_, rfl⟩
  rw [← hn1] at hll hc1 o1' ⊢
  replace hn1 := Lib.hid hn1
  go_wp2_with fail
  refine (hgc.out).mono ?_
  rintro e w3 ⟨hb, rfl, hH3, hB3⟩
  have hB3' := Lib.hid (hB1.out.trans (hB3.mono hB1.out.size))
  have o3 := Kd.R_below o1'.out hB3
  have hcc := Lib.hid (hct.out _ _ _ (by rw [hn1.out] at o3; exact o3))
  rw [← hn1.out] at hcc
  have hs2 := Lib.hid (show w.heap.size + 2 ≤ w1.heap.size by have := hB1.out.size; have := hsz.out; omega)
  replace hH3 := Lib.hid hH3
  clear hB3 o3
  go_wp2_with fail
  refine (hcc.out).mono ?_
  rintro e w5 ⟨rfl, rfl⟩
  obtain ⟨g9, hg9⟩ : ∃ g9, g9 = w.heap.size + 1 := ⟨_, rfl⟩
  obtain ⟨g5, hg5⟩ : ∃ g5, g5 = w.heap.size := ⟨_, rfl⟩
  have h56 := Lib.hid (show w5.heap[g5]? = some (.cells #[.int .i64 1, .int .i64 root, .int .i64 n] 25 (0, 0)) by rw [hg5]; exact blk_below b1.out hB3'.out)
  have h96 := Lib.hid (show w5.heap[g9]? = some (.cells #[.int .i64 0, .int .i64 0, .int .i64 0] 25 (0, 0)) by rw [hg9]; exact blk_below b2.out hB3'.out)
  have hB6 := Lib.hid (hBw.out _ hB3'.out)
  have hHp := Lib.hid (fun W (hW : Below w5.heap.size w5 W) => hPh.out _ _ W (hH3.out.step hW))
  have hs3 := Lib.hid (show w1.heap.size ≤ w5.heap.size by have := hH3.out.1; have := hH3.out.lt; omega)
  have hs4 := Lib.hid (show g9 < w5.heap.size from blk_lt h96.out)
  have hgl := Lib.hid (show g5 < w1.heap.size by have := hs2.out; omega)
  have hgl9 := Lib.hid (show g9 < w1.heap.size by have := hs2.out; omega)
  have hsw := Lib.hid (show w.heap.size ≤ w5.heap.size by have := hs3.out; have := hs2.out; omega)
  have hsw1 := Lib.hid (show w.heap.size ≤ w1.heap.size by have := hs2.out; omega)
  clear hH3 p0 hPh
  go_wp2
  rw [← hg9, ← hg5]
  replace hg9 := Lib.hid hg9
  replace hg5 := Lib.hid hg5
  have q0 : w5.drew.cell? ⟨g5, 0, none⟩ = some (.int .i64 1) := by show w5.cell? _ = _; rw [blk_cell h56.out]; rfl
  have q1 : w5.drew.cell? ⟨g5, 1, none⟩ = some (.int .i64 root) := by show w5.cell? _ = _; rw [blk_cell h56.out]; rfl
  go_region_with (first
    | (go_at_call 99; refine (hof.out _).mono ?_; rintro e w6 ⟨rfl, hBo⟩; have e0 : w6.cell? ⟨g5, 1, none⟩ = some (.int .i64 root) := pw_cell_below hBo q1; have hBo' := Lib.hid (show Below w5.heap.size w5 w6 from ((Below.refl w5.heap.size w5).drew).trans hBo); clear hBo)
    | (go_at_call 160; refine (hHp.out _ hBo'.out).mono ?_; rintro e w7 ⟨rfl, hH7, hB7⟩; have h57 := Lib.hid (show w7.heap[g5]? = some (.cells #[.int .i64 1, .int .i64 root, .int .i64 n] 25 (0, 0)) from (hB7.block g5 hgl.out).trans (blk_below h56.out hBo'.out)); have h97 := Lib.hid (show w7.heap[g9]? = some (.cells #[.int .i64 0, .int .i64 0, .int .i64 0] 25 (0, 0)) from (hB7.block g9 hgl9.out).trans (blk_below h96.out hBo'.out)); have hB7' := Lib.hid (hB6.out.trans ((hBo'.out.mono hsw.out).trans (hB7.mono hsw1.out))); have hH7' := Lib.hid hH7; have f1 : w7.frozen? ⟨g5, 1, none⟩ = false := blk_frozen h57.out 1; have c1' : w7.cell? ⟨g5, 1, none⟩ = some (.int .i64 root) := (blk_cell h57.out 1).trans rfl; clear hH7 hB7))
  all_goals
    have hnw : IntKind.i64.wrap (n - 1) = n - 1 := IntWalk.i64_in _ (by omega)
    have h58 := Lib.hid (blk_set h57.out 1 (.int .i64 r))
    have c2 : (w7.setCell ⟨g5, 1, none⟩ (.int .i64 r)).cell? ⟨g5, 2, none⟩ = some (.int .i64 n) := by rw [blk_cell h58.out]; rfl
    have f2 : (w7.setCell ⟨g5, 1, none⟩ (.int .i64 r)).frozen? ⟨g5, 2, none⟩ = false := blk_frozen h58.out 2
    have h59 := Lib.hid (blk_set h58.out 2 (.int .i64 (n - 1)))
    have h99 := Lib.hid (blk_far (p := ⟨g5, 2, none⟩) (blk_far (p := ⟨g5, 1, none⟩) h97.out (show g9 ≠ g5 by have := hg9.out; have := hg5.out; omega) (.int .i64 r)) (show g9 ≠ g5 by have := hg9.out; have := hg5.out; omega) (.int .i64 (n - 1)))
    have hH9 := Lib.hid ((hH7'.out.set25 h57.out 1 (.int .i64 r)).set25 h58.out 2 (.int .i64 (n - 1)))
    have hB9 := Lib.hid ((hB7'.out.setCell (p := ⟨g5, 1, none⟩) (show w.heap.size ≤ g5 by rw [hg5.out]; exact Nat.le_refl _) (.int .i64 r)).setCell (p := ⟨g5, 2, none⟩) (show w.heap.size ≤ g5 by rw [hg5.out]; exact Nat.le_refl _) (.int .i64 (n - 1)))
    clear q0 q1 e0 f1 c1' hof hHp hmm h56 h96 hBo' hgl hgl9 hsw hsw1 hs3 hs4
    go_wp2
    clear hnw c2 f2
    obtain ⟨W6, hW6⟩ : ∃ W6, W6 = (w7.setCell ⟨g5, 1, none⟩ (.int .i64 r)).setCell ⟨g5, 2, none⟩ (.int .i64 (n - 1)) := ⟨_, rfl⟩
    rw [← hW6]
    rw [← hW6] at h59 h99 hH9 hB9
    replace h99 := Lib.hid (show ∃ a b c, W6.heap[g9]? = some (.cells #[a, b, c] 25 (0, 0)) from ⟨_, _, _, h99.out⟩)
    replace h59 := Lib.hid (show W6.heap[g5]? = some (.cells #[.int .i64 1, .int .i64 r, .int .i64 (n - 1)] 25 (0, 0)) from h59.out)
    clear hW6 h57 h58 h97 hH7' hB7'
    obtain ⟨hq0, v5, hv5, hr5⟩ := hH9.out
    obtain ⟨A5, c5, rfl⟩ := Kd.R_slice hr5
    rw [sn_len] at hv5
    rw [sn_len] at hr5
    have hho := Lib.hid (show Hold1 hb g9 g5 (.slice A5 K.length c5) (.int .i64 1) (.int .i64 r) (.int .i64 (n - 1)) W6 from ⟨⟨hv5, h59.out⟩, h99.out⟩)
    have hnes := Lib.hid (show hb ≠ g9 ∧ g5 ≠ g9 by have := hs2.out; have := hg9.out; have := hg5.out; omega)
    have hd6 := Lib.hid hho.out.drew
    have hd7 := Lib.hid (fun (x y z : Value) => (hho.out.set hnes.out x y z).drew)
    have hfin := Lib.hid (fun (x y z : Value) => (show Kd.R kSN 95 (((W6.setCell ⟨g9, 0, none⟩ x).setCell ⟨g9, 1, none⟩ y).setCell ⟨g9, 2, none⟩ z).drew w.heap.size (fun _ => True) (.slice A5 K.length c5) (sn K) ∧ Below w.heap.size w (((W6.setCell ⟨g9, 0, none⟩ x).setCell ⟨g9, 1, none⟩ y).setCell ⟨g9, 2, none⟩ z).drew from
      ⟨Kd.R_lower (out_set_d hr5 h99.out x y z) (by have := hs2.out; omega), (below_setk hB9.out (show w.heap.size ≤ g9 by rw [hg9.out]; omega) x y z).drew⟩))
    obtain ⟨-, k0, k1, k2, k3, f0, f1, f2, d0, d1, d2⟩ := hho.out.cells
    clear hv5 hr5 hq0 hH9 b1 b2 hla hgr hct hgc hcc hB1 hB3' o1' hc1 hB0 hBw hll
    go_region_held3 (fun W' => Hold1 hb g9 g5 (.slice A5 K.length c5) (.int .i64 1) (.int .i64 r) (.int .i64 (n - 1)) W' ∧ W'.cell? ⟨hb, 0, none⟩ = some (.slice A5 K.length c5) ∧ W'.cell? ⟨g5, 0, none⟩ = some (.int .i64 1) ∧ W'.cell? ⟨g5, 1, none⟩ = some (.int .i64 r) ∧ W'.cell? ⟨g5, 2, none⟩ = some (.int .i64 (n - 1)) ∧ W'.frozen? ⟨g9, 0, none⟩ = false ∧ W'.frozen? ⟨g9, 1, none⟩ = false ∧ W'.frozen? ⟨g9, 2, none⟩ = false ∧ W'.cell? ⟨g9, 0, none⟩ = some (heldAt g9 0 W') ∧ W'.cell? ⟨g9, 1, none⟩ = some (heldAt g9 1 W') ∧ W'.cell? ⟨g9, 2, none⟩ = some (heldAt g9 2 W'))
      (first
        | with_reducible exact Hold1.cells hd6.out
        | with_reducible exact Hold1.cells (hd7.out _ _ _)
        | with_reducible exact Hold1.cells (by with_reducible assumption)
        | fail)
      (first | fail)
    go_wp2
    refine bodyPost_ret (results_tct rfl _ _ g9 #[.int .i64 1, .int .i64 r, .int .i64 (n - 1)] rfl (load_set3_d h99.out)) rfl ?_
    exact ⟨⟨_, by rfl, (hfin.out _ _ _).1⟩, (hfin.out _ _ _).2⟩
theorem Put_of {H K : Sh.Hp} {f root n x f1 r1 n1 e1 : Int} {A : Option Addr} {c : Nat} {w : World} (hC : Nodes w A H) (h81 : ∀ W, Nodes W A H → Calls Tryz.prog 81 #[.slice A H.length c, shV f root n, .int .i64 x, .bool true] W fun e w' => Out3 W.heap.size w' e K f1 r1 n1 e1 ∧ Below W.heap.size W w') :
    Calls Tryz.prog 36 #[.slice A H.length c, shV f root n, .int .i64 x] w fun e w' => Out3 w.heap.size w' e K f1 r1 n1 e1 ∧ Below w.heap.size w w' := by
  obtain ⟨W0, hW0⟩ : ∃ W0, W0 = (w.alloc (.cells #[.int .i64 f, .int .i64 root, .int .i64 n] 25)).alloc zero25 := ⟨_, rfl⟩
  have hsz := Lib.hid (show W0.heap.size = w.heap.size + 2 by rw [hW0, World.size_alloc, World.size_alloc])
  have b3 := Lib.hid (show W0.heap[w.heap.size + 1]? = some (.cells #[.int .i64 0, .int .i64 0, .int .i64 0] 25 (0, 0)) by
    have := heap_alloc_new (w.alloc (.cells #[.int .i64 f, .int .i64 root, .int .i64 n] 25)) zero25
    rw [World.size_alloc] at this
    rw [hW0]
    exact this)
  have hB0 := Lib.hid (show Below w.heap.size w W0 by rw [hW0]; exact two_alloc w _ _)
  have hcl := Lib.hid (h81 W0 (Kd.C_below hC hB0.out))
  clear hC h81
  go_enter Tryz.func36, Tryz.ntmps36
  go_wp2_with fail
  rw [← hW0]
  clear hW0
  refine (hcl.out).mono ?_
  rintro e w4 ⟨⟨v4, rfl, hR4⟩, hB4⟩
  have hr4 := blk_below b3.out hB4
  have hf4 := blk_frozen hr4
  have c40 : w4.cell? ⟨w.heap.size + 1, 0, none⟩ = some (.int .i64 0) := by rw [blk_cell hr4]; rfl
  have c41 : w4.cell? ⟨w.heap.size + 1, 1, none⟩ = some (.int .i64 0) := by rw [blk_cell hr4]; rfl
  have c42 : w4.cell? ⟨w.heap.size + 1, 2, none⟩ = some (.int .i64 0) := by rw [blk_cell hr4]; rfl
  have hBf := Lib.hid (hB0.out.trans (hB4.mono (by have := hsz.out; omega)))
  have hsr := Lib.hid (show w.heap.size ≤ W0.heap.size by have := hsz.out; omega)
  replace hr4 := Lib.hid hr4
  replace hR4 := Lib.hid hR4
  clear hB4
  go_wp2
  refine bodyPost_ret (results_tct rfl _ _ (w.heap.size + 1) #[.int .i64 f1, .int .i64 r1, .int .i64 n1] rfl (load_set3 hr4.out)) rfl ?_
  exact ⟨⟨v4, rfl, Kd.R_lower (out_set hR4.out hr4.out _ _ _) hsr.out⟩, (((hBf.out.setCell (p := ⟨w.heap.size + 1, 0, none⟩) (by show w.heap.size ≤ w.heap.size + 1; omega) _).setCell (p := ⟨w.heap.size + 1, 1, none⟩) (by show w.heap.size ≤ w.heap.size + 1; omega) _).setCell (p := ⟨w.heap.size + 1, 2, none⟩) (by show w.heap.size ≤ w.heap.size + 1; omega) _)⟩
theorem Drop_of {H K : Sh.Hp} {f root n x f1 r1 n1 e1 : Int} {A : Option Addr} {c : Nat} {w : World} (hC : Nodes w A H) (h81 : ∀ W, Nodes W A H → Calls Tryz.prog 81 #[.slice A H.length c, shV f root n, .int .i64 x, .bool false] W fun e w' => Out3 W.heap.size w' e K f1 r1 n1 e1 ∧ Below W.heap.size W w') :
    Calls Tryz.prog 37 #[.slice A H.length c, shV f root n, .int .i64 x] w fun e w' => Out3 w.heap.size w' e K f1 r1 n1 e1 ∧ Below w.heap.size w w' := by
  obtain ⟨W0, hW0⟩ : ∃ W0, W0 = (w.alloc (.cells #[.int .i64 f, .int .i64 root, .int .i64 n] 25)).alloc zero25 := ⟨_, rfl⟩
  have hsz := Lib.hid (show W0.heap.size = w.heap.size + 2 by rw [hW0, World.size_alloc, World.size_alloc])
  have b3 := Lib.hid (show W0.heap[w.heap.size + 1]? = some (.cells #[.int .i64 0, .int .i64 0, .int .i64 0] 25 (0, 0)) by
    have := heap_alloc_new (w.alloc (.cells #[.int .i64 f, .int .i64 root, .int .i64 n] 25)) zero25
    rw [World.size_alloc] at this
    rw [hW0]
    exact this)
  have hB0 := Lib.hid (show Below w.heap.size w W0 by rw [hW0]; exact two_alloc w _ _)
  have hcl := Lib.hid (h81 W0 (Kd.C_below hC hB0.out))
  clear hC h81
  go_enter Tryz.func37, Tryz.ntmps37
  go_wp2_with fail
  rw [← hW0]
  clear hW0
  refine (hcl.out).mono ?_
  rintro e w4 ⟨⟨v4, rfl, hR4⟩, hB4⟩
  have hr4 := blk_below b3.out hB4
  have hf4 := blk_frozen hr4
  have c40 : w4.cell? ⟨w.heap.size + 1, 0, none⟩ = some (.int .i64 0) := by rw [blk_cell hr4]; rfl
  have c41 : w4.cell? ⟨w.heap.size + 1, 1, none⟩ = some (.int .i64 0) := by rw [blk_cell hr4]; rfl
  have c42 : w4.cell? ⟨w.heap.size + 1, 2, none⟩ = some (.int .i64 0) := by rw [blk_cell hr4]; rfl
  have hBf := Lib.hid (hB0.out.trans (hB4.mono (by have := hsz.out; omega)))
  have hsr := Lib.hid (show w.heap.size ≤ W0.heap.size by have := hsz.out; omega)
  replace hr4 := Lib.hid hr4
  replace hR4 := Lib.hid hR4
  clear hB4
  go_wp2
  refine bodyPost_ret (results_tct rfl _ _ (w.heap.size + 1) #[.int .i64 f1, .int .i64 r1, .int .i64 n1] rfl (load_set3 hr4.out)) rfl ?_
  exact ⟨⟨v4, rfl, Kd.R_lower (out_set hR4.out hr4.out _ _ _) hsr.out⟩, (((hBf.out.setCell (p := ⟨w.heap.size + 1, 0, none⟩) (by show w.heap.size ≤ w.heap.size + 1; omega) _).setCell (p := ⟨w.heap.size + 1, 1, none⟩) (by show w.heap.size ≤ w.heap.size + 1; omega) _).setCell (p := ⟨w.heap.size + 1, 2, none⟩) (by show w.heap.size ≤ w.heap.size + 1; omega) _)⟩
end Go.Proofs.YtbfedeedicnedaaGreat
end
section
namespace Go.Proofs.YtbfedeedicnedaaGreat
open Go.RowKit
open Go.Proofs.YtbfedeedicnedaaGreatW.PrintWords
theorem enters74 (args : Array Value) (w : World) : (callFunc 74 args).run Tryz.prog w = .ok (.enter 74 args) w := enters_of Tryz.func74 (by kernel_rfl) rfl args w
theorem notel_calls (x : Int) (w : World) : Calls Tryz.prog 74 #[.int .i64 x] w fun e w' => e = .returned (.bool (!(Sh.el x))) ∧ w' = w := by
  have hel := Lib.hid (fun W => element_at (w := W) x (b := Sh.el x) rfl)
  generalize Sh.el x = b at *
  go_enter Tryz.func74, Tryz.ntmps74
  go_wp2_with fail
  refine (hel.out _).mono ?_
  rintro e w1 ⟨rfl, rfl⟩
  go_wp2
  go_ret
  exact ⟨rfl, rfl⟩
namespace Sh
def badAt : Nat → List Int → Int
  | _, [] => -1
  | i, x :: l => if el x then badAt (i + 1) l else i
theorem badAt_nonneg : ∀ (l : List Int) (i : Nat), decide (0 ≤ badAt i l) = l.any (fun x => !(el x)) := by
  intro l
  induction l with
  | nil => intro i; rfl
  | cons x l ih =>
    intro i
    unfold badAt
    rw [List.any_cons]
    cases el x
    · simp
    · simp only [if_true, Bool.not_true, Bool.false_or]
      exact ih (i + 1)
theorem badAt_le : ∀ (l : List Int) (i : Nat), -1 ≤ badAt i l ∧ badAt i l ≤ i + l.length := by
  intro l
  induction l with
  | nil => intro i; exact ⟨by unfold badAt; omega, by unfold badAt; omega⟩
  | cons x l ih =>
    intro i
    unfold badAt
    split
    · have := ih (i + 1)
      rw [List.length_cons]
      omega
    · rw [List.length_cons]
      omega
end Sh
theorem indexF_calls (l : List Int) (A : Option Addr) (c : Nat) (w : World) (hC : Kd.C kI w A l.length l) (hn : l.length ≤ 1000000) :
    Calls Tryz.prog 106 #[.slice A l.length c, .func (.func 74) #[] #[]] w fun e w' => e = .returned (.int .i64 (Sh.badAt 0 l)) ∧ w' = w := by
  have hF := enters74
  obtain ⟨R, hR⟩ : ∃ R, R = Sh.badAt 0 l := ⟨_, rfl⟩
  rw [← hR]
  replace hR := Lib.hid hR
  obtain ⟨n, hn'⟩ : ∃ n, n = l.length := ⟨_, rfl⟩
  have hCh := Lib.hid hC
  rw [← hn'] at hn ⊢
  replace hn' := Lib.hid hn'
  clear hC
  go_enter Tryz.func106, Tryz.ntmps106
  go_wp2
  go_loopg [8] n (fun g v8 wr => ∃ k : Nat, v8 = .int .i64 k ∧ k ≤ n ∧ Hid (g + k = n) ∧ wr = w ∧ Hid (R = Sh.badAt k (l.drop k)))
  case atStart => exact ⟨0, rfl, Nat.zero_le _, Lib.hid rfl, rfl, hR⟩
  case round =>
    obtain ⟨k, rfl, hk, hg, rfl, hRk⟩ := hrel
    by_cases hlt : k < n
    · obtain ⟨ad0, rfl, e0⟩ := at_int hCh.out k (by omega) (by have := hn'.out; omega)
      rw [Int.toNat_natCast] at e0
      have hRk2 := hRk.out
      rw [Sh.drop_at' l k (by have := hn'.out; omega)] at hRk2
      unfold Sh.badAt at hRk2
      obtain ⟨x, hx⟩ : ∃ x, x = Sh.gi l k := ⟨_, rfl⟩
      rw [← hx] at e0 hRk2
      have hne := Lib.hid (fun W => notel_calls x W)
      cases he : Sh.el x
      · rw [he] at hRk2 hne
        have hRk3 : R = (k : Int) := hRk2
        replace hRk3 := Lib.hid hRk3
        clear hRk2 hRk hx he
        go_wp2_with fail
        refine (hne.out _).mono ?_
        rintro e w1 ⟨rfl, rfl⟩
        go_wp2
        go_ret
        exact ⟨by rw [hRk3.out]; rfl, rfl⟩
      · rw [he] at hRk2 hne
        have hRk3 : R = Sh.badAt (k + 1) (l.drop (k + 1)) := hRk2
        replace hRk3 := Lib.hid hRk3
        clear hRk2 hRk hx he
        go_wp2_with fail
        refine (hne.out _).mono ?_
        rintro e w1 ⟨rfl, rfl⟩
        go_wp2
        go_roundg (n - (k + 1))
        case measure => have := hg.out; omega
        case rel => exact ⟨k + 1, by go_num, by omega, Lib.hid (by omega), rfl, hRk3⟩
    · have hRk3 : R = -1 := by rw [hRk.out, List.drop_of_length_le (by have := hn'.out; omega)]; rfl
      replace hRk3 := Lib.hid hRk3
      go_wp2
      go_ret
      exact ⟨by rw [hRk3.out]; rfl, rfl⟩
theorem containsF_calls (l : List Int) (A : Option Addr) (c : Nat) (w : World) (hC : Kd.C kI w A l.length l) (hn : l.length ≤ 1000000) :
    Calls Tryz.prog 73 #[.slice A l.length c, .func (.func 74) #[] #[]] w fun e w' => e = .returned (.bool (l.any fun x => !(Sh.el x))) ∧ w' = w := by
  have hcl := Lib.hid (indexF_calls l A c w hC hn)
  have hb := Sh.badAt_nonneg l 0
  have hl := Sh.badAt_le l 0
  rw [← hb]
  generalize Sh.badAt 0 l = r at *
  clear hb hC
  go_enter Tryz.func73, Tryz.ntmps73
  go_wp2_with fail
  refine (hcl.out).mono ?_
  rintro e w1 ⟨rfl, rfl⟩
  go_wp2
  go_ret
  exact ⟨rfl, rfl⟩
end Go.Proofs.YtbfedeedicnedaaGreat
end
