/-
  Texts of this claim: ShBJ, ShBK.
-/
import Derived.Test.YtbfedeedicnedaaGreatSe33
set_option linter.unusedVariables false
set_option linter.unusedSimpArgs false
section
namespace Go.Proofs.YtbfedeedicnedaaGreat
open Go.RowKit
open Go.Proofs.YtbfedeedicnedaaGreatW.PrintWords
theorem putH_len (t : List Int) (x : Int) : (Sh.putH t x).length = t.length := by unfold Sh.putH; rw [List.length_set]
theorem layH_len (l : List Int) (c : Nat) : (Sh.layH l c).length = c := by
  unfold Sh.layH
  suffices h : ∀ (l t : List Int), (l.foldl Sh.putH t).length = t.length by rw [h, List.length_replicate]
  intro l
  induction l with
  | nil => intro t; rfl
  | cons x l ih => intro t; rw [List.foldl_cons, ih, putH_len]
theorem layH_step (l : List Int) (c k : Nat) (h : k < l.length) : Sh.layH (l.take (k + 1)) c = Sh.putH (Sh.layH (l.take k) c) (Sh.gi l k) := by
  unfold Sh.layH
  rw [List.take_succ_eq_append_getElem h, List.foldl_append]
  have e : Sh.gi l k = l[k] := by unfold Sh.gi; rw [List.getD_eq_getElem?_getD, List.getElem?_eq_getElem h]; rfl
  rw [e]
  rfl
set_option maxRecDepth 100000 in
set_option maxHeartbeats 2000000 in
theorem hlay_calls {base hb : Nat} {H : Sh.Hp} {w : World} (hH : HeapAt w base hb H) {A : Option Addr} {c : Nat} {l : List Int} (hL : Low w base A l) (hx : ∀ x ∈ l, 0 ≤ x ∧ x ≤ 1023) (hn : l.length ≤ 1024) (hl : H.length ≤ 1000000) :
    Calls Tryz.prog 190 #[.agg #[], .pointer (some ⟨hb, 0, none⟩), .slice A l.length c] w fun e w' => e = .returned (.int .i64 H.length) ∧ HeapAt w' base hb (H ++ [(Sh.layH l (Sh.sizeH 20 8 l.length), [])]) ∧ Below base w w' := by
  have hsz : base ≤ w.heap.size := by have := hH.1; have := hH.lt; omega
  have hLh := Lib.hid hL
  have hxh := Lib.hid (fun k (h : k < l.length) => hx (Sh.gi l k) (Sh.mem_gi.2 ⟨k, h, rfl⟩))
  have hHh := Lib.hid hH
  obtain ⟨n, hn'⟩ : ∃ n, n = l.length := ⟨_, rfl⟩
  rw [← hn'] at hn hxh ⊢
  have hst := Lib.hid (fun c k (h : k < n) => layH_step l c k (by omega))
  obtain ⟨C, hC⟩ : ∃ C, C = Sh.sizeH 20 8 n := ⟨_, rfl⟩
  have hCok := Sh.sizeH_ok n hn
  rw [← hC] at hCok ⊢
  obtain ⟨hC0, hC2⟩ := hCok
  have hC8 := (Sh.pow2_pos hC0).1
  have hC9 := (Sh.pow2_pos hC0).2
  have hB0 := Lib.hid (show Below w.heap.size w (w.alloc (.cells #[] 157)) from (Below.refl _ _).alloc (Nat.le_refl _) _)
  replace hn' := Lib.hid hn'
  replace hC := Lib.hid hC
  clear hH hL hx hC0
  go_enter Tryz.func190, Tryz.ntmps190
  go_wp2
  go_loopg [7] 20 (fun g v7 wr => ∃ q : Nat, v7 = .int .i64 q ∧ 8 ≤ q ∧ q ≤ 4096 ∧ g ≤ 20 ∧ Hid (8 * 2 ^ (20 - g) ≤ q) ∧ wr = w.alloc (.cells #[] 157) ∧ Hid (C = Sh.sizeH g q n))
  case atStart => exact ⟨8, rfl, Nat.le_refl _, by omega, Nat.le_refl _, Lib.hid (by decide), rfl, hC⟩
  case round =>
    obtain ⟨q, rfl, hq8, hq9, hg20, hqp, rfl, hCq⟩ := hrel
    by_cases hlt : (q : Int) < 2 * (n : Int)
    · obtain ⟨g', hg'⟩ : ∃ g', gk = g' + 1 := by
        rcases gk with _ | g'
        · have := hqp.out
          simp at this
          omega
        · exact ⟨g', rfl⟩
      have hCn : Hid (C = Sh.sizeH g' (2 * q) n) := Lib.hid (by
        rw [hCq.out, hg']
        show (if q < 2 * n then _ else _) = _
        rw [if_pos (by omega)])
      have hqn : Hid (8 * 2 ^ (20 - g') ≤ 2 * q) := Lib.hid (by
        have h1 := hqp.out
        have e : 20 - g' = (20 - gk) + 1 := by omega
        rw [e, Nat.pow_succ]
        omega)
      have hltb : decide ((q : Int) < 2 * (n : Int)) = true := decide_eq_true hlt
      replace hg' := Lib.hid hg'
      go_wp2
      go_roundg g'
      case measure => have := hg'.out; omega
      case rel => exact ⟨2 * q, by go_num, by omega, by omega, by have := hg'.out; omega, hqn, rfl, hCn⟩
    · obtain rfl : q = C := by
        rw [hCq.out]
        rcases gk with _ | g'
        · rfl
        · show q = if q < 2 * n then _ else q
          rw [if_neg (by omega)]
      have hltb : decide ((q : Int) < 2 * (n : Int)) = false := decide_eq_false hlt
      clear hCq hqp
      obtain ⟨W2, hW2⟩ : ∃ W2, W2 = (w.alloc (.cells #[] 157)).alloc (.cells #[.int .i64 (-1)] 3) := ⟨_, rfl⟩
      have hB2 := Lib.hid (show Below w.heap.size w W2 by rw [hW2]; exact hB0.out.alloc hB0.out.size _)
      have hrp := Lib.hid (repeat_calls (w.heap.size + 1) q (-1) W2 (by
        rw [hW2]
        have := heap_alloc_new (w.alloc (.cells #[] 157)) (.cells #[.int .i64 (-1)] 3)
        rw [World.size_alloc] at this
        rw [blk_cell this]
        rfl) (by omega) (by omega))
      go_wp2_with fail
      rw [← hW2]
      clear hW2
      refine (hrp.out).mono ?_
      rintro e w3 ⟨g, rfl, hrow, hgs, hB3⟩
      have hgw := Lib.hid (show w.heap.size ≤ g from Nat.le_trans hB2.out.size hgs)
      have hB4 := Lib.hid (hB2.out.trans (hB3.mono hB2.out.size))
      have hrow4 := Lib.hid (show w3.heap[g]? = some (.cells ((Sh.layH (l.take 0) q).map fun (x : Int) => Value.int .i64 x).toArray 3 (0, 0)) by
        rw [hrow]
        unfold Sh.layH
        simp)
      clear hrow hgs hB3
      go_wp2
      go_loopg [25] n (fun g9 v25 wr => ∃ k : Nat, v25 = .int .i64 k ∧ k ≤ n ∧ Hid (g9 + k = n) ∧ Hid (Below w.heap.size w wr) ∧ Hid (wr.heap[g]? = some (.cells ((Sh.layH (l.take k) q).map fun (x : Int) => Value.int .i64 x).toArray 3 (0, 0))))
      case atStart => exact ⟨0, rfl, Nat.zero_le _, Lib.hid rfl, hB4, hrow4⟩
      case round =>
        obtain ⟨k, rfl, hk, hg9, hB, hrow⟩ := hrel
        by_cases hlt2 : k < n
        · obtain ⟨ad0, rfl, e0⟩ := at_int (hLh.out wr (hB.out.mono hsz)) k (by omega) (by have := hn'.out; omega)
          rw [Int.toNat_natCast] at e0
          obtain ⟨x0, x1⟩ := hxh.out k hlt2
          have hnx := hst.out q k hlt2
          obtain ⟨x, hxx⟩ : ∃ x, x = Sh.gi l k := ⟨_, rfl⟩
          rw [← hxx] at e0 hnx x0 x1
          replace hxx := Lib.hid hxx
          obtain ⟨t, ht⟩ : ∃ t, t = Sh.layH (l.take k) q := ⟨_, rfl⟩
          have htl : t.length = q := by rw [ht]; exact layH_len _ _
          rw [← ht] at hrow hnx
          replace ht := Lib.hid ht
          have hints := ints_row (base := w.heap.size) hrow.out hgw.out htl (by omega)
          obtain ⟨A9, c9, e9, hc9, hC9⟩ := Kd.R_reads hints
          have hCx : Kd.C kI wr (some ⟨g, 0, none⟩) t.length t := by
            simp only [Value.slice.injEq] at e9
            rw [e9.1]
            exact hC9
          have hpl := Lib.hid (place_calls t x (some ⟨g, 0, none⟩) q wr hCx x0 (by omega) (by omega) (by omega))
          rw [htl] at hpl
          have hsl := Sh.slot_lt x (Sh.place t x) (t := t) (by omega)
          rw [htl] at hsl
          unfold Sh.putH at hnx
          obtain ⟨P, hP⟩ : ∃ P, P = Sh.place t x := ⟨_, rfl⟩
          rw [← hP] at hpl hsl hnx
          obtain ⟨s, hs⟩ : ∃ s, s = Sh.slot t x P := ⟨_, rfl⟩
          rw [← hs] at hpl hsl hnx
          have hfz : wr.frozen? ⟨g, s, none⟩ = false := blk_frozen hrow.out s
          have hcl := ints_cell hrow.out s (by omega)
          have hrn := Lib.hid (ints_set hrow.out s x)
          rw [← hnx] at hrn
          have hBn := Lib.hid (hB.out.setCell (p := ⟨g, s, none⟩) hgw.out (.int .i64 x))
          replace hnx := Lib.hid hnx
          replace hs := Lib.hid hs
          replace hP := Lib.hid hP
          replace htl := Lib.hid htl
          obtain ⟨y, hy⟩ : ∃ y, y = Sh.gi t s := ⟨_, rfl⟩
          rw [← hy] at hcl
          replace hy := Lib.hid hy
          clear hints hc9 hC9 hCx e9
          go_wp2_with fail
          refine (hpl.out).mono ?_
          rintro e w5 ⟨rfl, rfl⟩
          go_wp2
          go_roundg (n - (k + 1))
          case measure => have := hg9.out; omega
          case rel => exact ⟨k + 1, by go_num, by omega, Lib.hid (by omega), hBn, hrn⟩
        · obtain rfl : k = n := by omega
          have hfin := Lib.hid (show wr.heap[g]? = some (.cells ((Sh.layH l q).map fun (x : Int) => Value.int .i64 x).toArray 3 (0, 0)) by
            have := hrow.out
            rwa [List.take_of_length_le (by have := hn'.out; omega)] at this)
          have hints := Lib.hid (ints_row (base := base) hfin.out (Nat.le_trans hsz hgw.out) (layH_len l q) (by omega))
          have hadd := Lib.hid (add_calls base hb H (Sh.layH l q) [] _ (.slice none 0 0) wr (hHh.out.step hB.out) hints.out (Kd.R_nil _ _ _ _ _) hl)
          clear hrow hfin
          go_wp2_with fail
          refine (hadd.out).mono ?_
          rintro e w5 ⟨rfl, hH5, hB5⟩
          have hH5' := Lib.hid hH5
          have hB5' := Lib.hid ((hB.out.mono hsz).trans hB5)
          clear hH5 hB5
          go_wp2
          go_ret
          exact ⟨rfl, hH5'.out, hB5'.out⟩
theorem laysF_all {H : Sh.Hp} {l : List Int} {f : Int} (hx : Sh.Els l) (hl : H.length ≤ 100000) : LaysF H l f := by
  intro ty k hk base hb w A c hH hL hc
  have hn := Sh.els_len hx
  by_cases hf : f = 5
  · subst hf
    rcases hk with ⟨_, _, h⟩ | ⟨_, _, h⟩ | ⟨_, _, h⟩ | ⟨_, _, h⟩ | ⟨rfl, rfl, _⟩
    · omega
    · omega
    · omega
    · omega
    · exact hlay_calls hH hL hx.2 hn (by omega)
  · exact laysF_some hf (by omega) hx hl ty k hk base hb w A c hH hL hc
end Go.Proofs.YtbfedeedicnedaaGreat
end
section
namespace Go.Proofs.YtbfedeedicnedaaGreat
open Go.RowKit
open Go.Proofs.YtbfedeedicnedaaGreatW.PrintWords Go.Proofs.YtbfedeedicnedaaGreatW.PrintMore
theorem HeapAt.item {w : World} {base hb : Nat} {H : Sh.Hp} (h : HeapAt w base hb H) (i : Nat) (hi : i < H.length) : ∃ ad c v0 v1, w.cell? ⟨hb, 0, none⟩ = some (.slice (some ad) H.length c) ∧ w.cell? (ad.add (i * 2)) = some v0 ∧ w.cell? ⟨(ad.add (i * 2)).block, (ad.add (i * 2)).off + 1, none⟩ = some v1 ∧ Ints w base v0 (Sh.nd H i).1 ∧ Ints w base v1 (Sh.nd H i).2 := by
  obtain ⟨h0, v, hv, hr⟩ := h
  obtain ⟨A, c, rfl, hc, hC⟩ := Kd.R_reads hr
  rw [sn_len] at hC hc hv hr
  obtain ⟨ad, A0, c0, A1, c1, rfl, -⟩ := Nodes.at hC (i : Int) (by omega) (by omega)
  obtain ⟨cs, hcl, hM, hcc⟩ := Go.Proofs.YtbfedeedicnedaaGreatW.PrintMore.Kd.R_get hr PAll.z95 (i : Int) (by omega) (by omega)
  have hsz : PAll.k95.sz = 2 := rfl
  rw [hsz] at hcc
  have hx : (sn H).getD (i : Int).toNat PAll.z95 = PAll.rd_T95 (sn H) (i : Int) := rfl
  rw [hx] at hM
  obtain ⟨v0, v1, rfl, g0, g1⟩ := PAll.k95_openM hM
  rw [(rd_sn H i).1] at g0
  rw [(rd_sn H i).2] at g1
  rw [Int.toNat_natCast] at hcc
  refine ⟨ad, c, v0, v1, by rw [blk_cell hv]; rfl, hcc 0 _ rfl, ?_, Kd.R_mono g0 (fun _ _ => trivial), Kd.R_mono g1 (fun _ _ => trivial)⟩
  have := hcc 1 _ rfl
  rw [← add_field _ _ 1 (by omega)]
  exact this
set_option maxRecDepth 100000 in
set_option maxHeartbeats 4000000 in
theorem adrop_calls {base hb : Nat} {H : Sh.Hp} {w : World} (hH : HeapAt w base hb H) (root x : Int) (ht : Sh.there H root = true) {l : List Int} (hl0 : (Sh.nd H root).1 = l) (hs : l.Pairwise (· ≤ ·)) (k : Nat) (hk : l.countP (· < x) = k) (hk1 : k < l.length) (hll : l.length ≤ 100000) (hl : H.length ≤ 1000000) :
    Calls Tryz.prog 160 #[.agg #[], .pointer (some ⟨hb, 0, none⟩), .int .i64 root, .int .i64 x] w fun e w' => e = .returned (.int .i64 H.length) ∧ HeapAt w' base hb (H ++ [(l.take k ++ l.drop (k + 1), [])]) ∧ Below base w w' := by
  have hsz : base ≤ w.heap.size := by have := hH.1; have := hH.lt; omega
  obtain ⟨hr0, hr1⟩ := Sh.there_iff.1 ht
  obtain ⟨i, rfl⟩ := Int.eq_ofNat_of_zero_le hr0
  obtain ⟨W1, hW1⟩ : ∃ W1, W1 = w.alloc (.cells #[] 154) := ⟨_, rfl⟩
  have hB1 := Lib.hid (show Below w.heap.size w W1 by rw [hW1]; exact (Below.refl _ _).alloc (Nat.le_refl _) _)
  have hH1 := hH.step hB1.out
  obtain ⟨ad, cH, v0, v1, d0, d1, d2, g0, g1⟩ := hH1.item i (by omega)
  rw [hl0] at g0
  have hbs := Lib.hid (fun n => bsearch_calls (Kd.R_drewN g0 n) (by omega) hs x)
  rw [hk] at hbs
  obtain ⟨A, c, rfl, hc, hC⟩ := Kd.R_reads g0
  have hCw := Lib.hid (fun W (hW : Below W1.heap.size W1 W) => (Kd.C_below hC hW : Kd.C kI W A l.length l))
  obtain ⟨s1, s2, s3⟩ := take_at A c l k (by omega) hc
  obtain ⟨A2, t1, t2, t3⟩ := drop_at A c l (k + 1) (by omega) hc
  have hlen1 : (l.take k).length = k := by rw [List.length_take]; omega
  have hlen2 : (l.drop (k + 1)).length = l.length - (k + 1) := by rw [List.length_drop]
  have hT := Lib.hid (fun W hW => s2 W (hCw.out W hW))
  have hD := Lib.hid (fun W hW => t2 W (hCw.out W hW))
  have hcl := Lib.hid (fun W hW => clone_calls A c (l.take k) W (hT.out W hW) (by omega))
  rw [hlen1] at hcl s1
  rw [hlen2] at hD t1
  obtain ⟨T, hTe⟩ : ∃ T, T = l.take k := ⟨_, rfl⟩
  obtain ⟨D, hDe⟩ : ∃ D, D = l.drop (k + 1) := ⟨_, rfl⟩
  rw [← hTe] at hcl hT hlen1 ⊢
  rw [← hDe] at hD hlen2 ⊢
  replace hTe := Lib.hid hTe
  replace hDe := Lib.hid hDe
  replace hlen1 := Lib.hid hlen1
  replace hlen2 := Lib.hid hlen2
  obtain ⟨n, hn⟩ : ∃ n, n = l.length := ⟨_, rfl⟩
  rw [← hn] at hk1 hll d1 hbs hD t1 s1 hlen2
  replace hn := Lib.hid hn
  have hHs := Lib.hid (fun W (hW : Below W1.heap.size W1 W) => hH1.step hW)
  have hadd := Lib.hid (fun W v (hW : HeapAt W base hb H) (h : Ints W base v (T ++ D)) => add_calls base hb H (T ++ D) [] v (.slice none 0 0) W hW h (Kd.R_nil _ _ _ _ _) hl)
  have hsb := Lib.hid (show base ≤ W1.heap.size from Nat.le_trans hsz hB1.out.size)
  have hBb := Lib.hid (fun W (hW : Below base W1 W) => ((hB1.out.mono hsz).trans hW : Below base w W))
  have hkw : IntKind.i64.wrap ((k : Int) + 1) = (k : Int) + 1 := IntWalk.i64_in _ (by omega)
  have hkc : ((k : Int) + 1) = ((k + 1 : Nat) : Int) := by omega
  have t1' : ∀ W : World, (Instr.slice 28 (.slice A n c) (some (.int .i64 ((k : Int) + 1))) none none).run Tryz.prog W = .ok (.slice A2 (n - (k + 1)) (c - (k + 1))) W := fun W => by rw [hkc]; exact t1 W
  replace hkw := Lib.hid hkw
  clear hH hH1 hC g0 g1 hs hk ht hl0 hkc t1 t2 s2 s3 t3
  subst hW1
  go_enter Tryz.func160, Tryz.ntmps160
  go_wp2_with fail
  refine (hbs.out 0).mono ?_
  rintro e w2 ⟨rfl, nq, rfl⟩
  have hB2 := Lib.hid (show Below (w.alloc (.cells #[] 154)).heap.size (w.alloc (.cells #[] 154)) (((w.alloc (.cells #[] 154)).drewN 0).drewN nq).drew from (pw_below_drewN (pw_below_drewN (Below.refl _ _) 0) nq).drew)
  have hs2 := Lib.hid (show (w.alloc (.cells #[] 154)).heap.size ≤ (((w.alloc (.cells #[] 154)).drewN 0).drewN nq).drew.heap.size from hB2.out.size)
  have hkw' := hkw.out
  go_wp2
  go_region_held3 (fun W' => True)
    (first
      | exact trivial
      | fail)
    (first
      | (go_at_call 76; refine (hcl.out _ hB2.out).mono ?_; rintro e w3 ⟨v3, rfl, ho3, hB3⟩; have ho3' := Lib.hid ho3; have hB3n := Lib.hid hB3; have hB3' := Lib.hid (hB2.out.trans (hB3.mono hs2.out)); clear ho3 hB3)
      | (refine app_all_step (W := w3) (w0 := (((w.alloc (.cells #[] 154)).drewN 0).drewN nq).drew) (((w.alloc (.cells #[] 154)).drewN 0).drewN nq).drew.heap.size (by rfl) _ _ (by rfl) v3 T D A2 (n - (k + 1)) (c - (k + 1)) rfl rfl ho3'.out (hD.out _ hB3'.out) hB3n.out hB3n.out.size (by have := hlen1.out; omega) ?_; intro v4 w4 a1 a2 a3; have ho4 := Lib.hid (Kd.R_lower a1 (Nat.le_trans hsb.out hs2.out)); have hBB := Lib.hid (hB2.out.trans (a2.mono hs2.out)); have hB4 := Lib.hid (hBB.out.mono hsb.out); have hH4 := Lib.hid (hHs.out _ hBB.out); clear a1 a2 a3)
      | (go_at_call 130; refine (hadd.out _ _ hH4.out ho4.out).mono ?_; rintro e w5 ⟨rfl, hH5, hB5⟩; have hH5' := Lib.hid hH5; have hB5' := Lib.hid (hBb.out _ (hB4.out.trans hB5)); clear hH5 hB5))
  clear hkw'
  go_wp2
  go_ret
  exact ⟨rfl, hH5'.out, hB5'.out⟩
theorem Ints.store {w : World} {base g n cap : Nat} {t : List Int} (h : Ints w base (.slice (some ⟨g, 0, none⟩) n cap) t) (hn : n = t.length) (s : Nat) (x : Int) : Ints (w.setCell ⟨g, s, none⟩ (.int .i64 x)) base (.slice (some ⟨g, 0, none⟩) n cap) (t.set s x) := by
  subst hn
  have := (own_store h.own (s : Int) x).1
  rw [Int.toNat_natCast] at this
  refine Ints.mk ?_
  rw [List.length_set]
  exact this
set_option maxRecDepth 100000 in
set_option maxHeartbeats 4000000 in
theorem hput_calls {base hb : Nat} {H : Sh.Hp} {w : World} (hH : HeapAt w base hb H) (root x : Int) (ht : Sh.there H root = true) {t l : List Int} (ht0 : (Sh.nd H root).1 = t) (hlist : Sh.listHash H root = some l) (hfit : 2 * (l.length + 1) ≤ t.length) (htl : t.length ≤ 100000) (hx0 : 0 ≤ x) (hx1 : x ≤ 1023) (hbig : ∀ p ∈ H, p.1.length ≤ 1000000) (hl : H.length ≤ 1000000) :
    Calls Tryz.prog 192 #[.agg #[], .pointer (some ⟨hb, 0, none⟩), .int .i64 root, .int .i64 x] w fun e w' => e = .returned (.int .i64 H.length) ∧ HeapAt w' base hb (H ++ [(Sh.putH t x, [])]) ∧ Below base w w' := by
  have hsz : base ≤ w.heap.size := by have := hH.1; have := hH.lt; omega
  obtain ⟨hr0, hr1⟩ := Sh.there_iff.1 ht
  obtain ⟨i, rfl⟩ := Int.eq_ofNat_of_zero_le hr0
  obtain ⟨W1, hW1⟩ : ∃ W1, W1 = w.alloc (.cells #[] 157) := ⟨_, rfl⟩
  have hB1 := Lib.hid (show Below w.heap.size w W1 by rw [hW1]; exact (Below.refl _ _).alloc (Nat.le_refl _) _)
  have hH1 := hH.step hB1.out
  obtain ⟨ad, cH, v0, v1, d0, d1, d2, g0, g1⟩ := hH1.item i (by omega)
  rw [ht0] at g0
  obtain ⟨A9, c9, d9, -, hN⟩ := hH1.cell
  rw [d0] at d9
  have hNd : Nodes W1 (some ad) H := by
    have := Option.some.inj d9
    simp only [Value.slice.injEq] at this
    rw [this.1]
    exact hN
  obtain ⟨A, c, rfl, hc, hC⟩ := Kd.R_reads g0
  have hls := Lib.hid (fun W (hW : Below W1.heap.size W1 W) => hlist_calls H (i : Int) (some ad) cH W (Kd.C_below hNd hW) hbig)
  rw [hlist] at hls
  have hCw := Lib.hid (fun W (hW : Below W1.heap.size W1 W) => (Kd.C_below hC hW : Kd.C kI W A t.length t))
  have hcn := Lib.hid (fun W hW => clone_calls A c t W (hCw.out W hW) (by omega))
  have hcell := Lib.hid (fun W (hW : Below W1.heap.size W1 W) => (⟨pw_cell_below hW d0, pw_cell_below hW d1⟩ : W.cell? ⟨hb, 0, none⟩ = some (.slice (some ad) H.length cH) ∧ W.cell? (ad.add (i * 2)) = some (.slice A t.length c)))
  obtain ⟨n, hn⟩ : ∃ n, n = t.length := ⟨_, rfl⟩
  have hnl : 0 < n := by omega
  have hpl := Lib.hid (fun A9 c9 W (hW : Kd.C kI W A9 t.length t) => place_calls t x A9 c9 W hW hx0 (by omega) (by omega) htl)
  have hsl := Sh.slot_lt x (Sh.place t x) (t := t) (by omega)
  rw [← hn] at hcn hcell hfit hpl hsl htl d1
  obtain ⟨m, hm⟩ : ∃ m, m = l.length := ⟨_, rfl⟩
  rw [← hm] at hfit
  have hput := Lib.hid (show Sh.putH t x = t.set (Sh.slot t x (Sh.place t x)) x from rfl)
  obtain ⟨P, hP⟩ : ∃ P, P = Sh.place t x := ⟨_, rfl⟩
  rw [← hP] at hpl hsl hput
  obtain ⟨s, hs⟩ : ∃ s, s = Sh.slot t x P := ⟨_, rfl⟩
  rw [← hs] at hpl hsl hput
  replace hP := Lib.hid hP
  replace hs := Lib.hid hs
  obtain ⟨F, hF⟩ : ∃ F, F = Sh.putH t x := ⟨_, rfl⟩
  rw [← hF] at hput ⊢
  replace hF := Lib.hid hF
  have hHs := Lib.hid (fun W (hW : Below W1.heap.size W1 W) => hH1.step hW)
  have hadd := Lib.hid (fun W v (hW : HeapAt W base hb H) (h : Ints W base v F) => add_calls base hb H F [] v (.slice none 0 0) W hW h (Kd.R_nil _ _ _ _ _) hl)
  have hsb := Lib.hid (show base ≤ W1.heap.size from Nat.le_trans hsz hB1.out.size)
  have hBb := Lib.hid (fun W (hW : Below base W1 W) => ((hB1.out.mono hsz).trans hW : Below base w W))
  have hBd := Lib.hid (show Below W1.heap.size W1 W1.drew from (Below.refl _ _).drew)
  have hfb : decide ((n : Int) < 2 * ((m : Int) + 1)) = false := decide_eq_false (by omega)
  have hkk := Lib.hid (fun W (hW : Below W1.heap.size W1 W) => (⟨hW, pw_cell_below hW d0⟩ : Below W1.heap.size W1 W ∧ W.cell? ⟨hb, 0, none⟩ = some (.slice (some ad) H.length cH)))
  replace hn := Lib.hid hn
  replace hm := Lib.hid hm
  clear hH hH1 hC g0 g1 ht ht0 hlist hN d9 hNd hbig d0 d1 d2
  subst hW1
  go_enter Tryz.func192, Tryz.ntmps192
  go_wp2
  go_region_held3 (fun W' => Below (w.alloc (.cells #[] 157)).heap.size (w.alloc (.cells #[] 157)) W' ∧ W'.cell? ⟨hb, 0, none⟩ = some (.slice (some ad) H.length cH))
    (first
      | exact hkk.out _ (by assumption)
      | exact hkk.out _ hBd.out
      | fail)
    (first
      | (go_at_call 191; refine (hls.out _ ?hl).mono ?_; (case hl => first | assumption | exact hBd.out); rintro e w3 ⟨⟨v3, rfl, ho3⟩, hB3⟩; have hB3' : Below (w.alloc (.cells #[] 157)).heap.size (w.alloc (.cells #[] 157)) w3 := hBd.out.trans (hB3.mono hBd.out.size); replace ho3 := Lib.hid ho3; replace hB3 := Lib.hid hB3))
  replace hB3' := Lib.hid (show Below (w.alloc (.cells #[] 157)).heap.size (w.alloc (.cells #[] 157)) w3 from by assumption)
  obtain ⟨k1, k2⟩ := hcell.out w3 hB3'.out
  obtain ⟨A3, c3, rfl⟩ := Kd.R_slice ho3.out
  have hml : ((some l).getD ([] : List Int)).length = m := hm.out.symm
  rw [hml]
  replace hml := Lib.hid hml
  clear ho3
  go_wp2_with fail
  refine (hcn.out _ hB3'.out).mono ?_
  rintro e w5 ⟨v5, rfl, ho5, hB5⟩
  have hB5' := Lib.hid (hB3'.out.trans (hB5.mono hB3'.out.size))
  rcases ho5.cases with ⟨-, h9⟩ | ⟨g, cap, cur, rfl, hgb, hgc, hcap, -, -, -⟩
  · exact absurd hn.out (by rw [h9]; simp; omega)
  have hrd : Kd.C kI w5 (some ⟨g, 0, none⟩) t.length t := by
    obtain ⟨A6, c6, e6, _, hC6⟩ := Kd.R_reads ho5
    simp only [Value.slice.injEq] at e6
    rw [e6.1]
    exact hC6
  have hpl2 := Lib.hid (hpl.out _ cap w5 (by rw [← hn.out] at hrd; exact hrd))
  have hfz : w5.frozen? ⟨g, s, none⟩ = false := blk_frozen hgc s
  obtain ⟨ads, hads, hcs⟩ := at_int hrd (s : Int) (by omega) (by have := hn.out; omega)
  rw [Int.toNat_natCast] at hcs
  have hads2 : ads.add s = ⟨g, s, none⟩ := by
    cases hads
    exact add_of g s
  rw [hads2] at hcs
  have hst := Lib.hid (ho5.store rfl s x)
  rw [← hput.out] at hst
  rw [← hn.out] at hst ⊢
  have hBs := Lib.hid (hB5'.out.setCell (p := ⟨g, s, none⟩) (show (w.alloc (.cells #[] 157)).heap.size ≤ g from Nat.le_trans hB3'.out.size hgb) (.int .i64 x))
  have hb3 := Lib.hid (show base ≤ w3.heap.size from Nat.le_trans hsb.out hB3'.out.size)
  have hadd2 := Lib.hid (hadd.out _ _ (hHs.out _ hBs.out) (Kd.R_lower hst.out hb3.out))
  obtain ⟨y, hy⟩ : ∃ y, y = Sh.gi t s := ⟨_, rfl⟩
  rw [← hy] at hcs
  replace hy := Lib.hid hy
  have hw1 : IntKind.i64.wrap ((m : Int) + 1) = (m : Int) + 1 := IntWalk.i64_in _ (by omega)
  have hw2 : IntKind.i64.wrap (2 * ((m : Int) + 1)) = 2 * ((m : Int) + 1) := IntWalk.i64_in _ (by omega)
  clear hrd hB5 ho5 hgc hads hads2 hgb k1 k2
  go_wp2_with fail
  refine (hpl2.out).mono ?_
  rintro e w6 ⟨rfl, rfl⟩
  go_wp2_with fail
  refine (hadd2.out).mono ?_
  rintro e w7 ⟨rfl, hH7, hB7⟩
  have hH7' := Lib.hid hH7
  have hB7' := Lib.hid (hBb.out _ ((hBs.out.mono hsb.out).trans hB7))
  clear hH7 hB7
  go_wp2
  go_ret
  exact ⟨rfl, hH7'.out, hB7'.out⟩
end Go.Proofs.YtbfedeedicnedaaGreat
end
