/-
  Texts of this claim: ShCB, ShCC.
-/
import Derived.Test.YtbfedeedicnedaaGreatSj34
set_option linter.unusedVariables false
set_option linter.unusedSimpArgs false
set_option maxHeartbeats 8000000
set_option maxRecDepth 100000
section
namespace Go.Proofs.YtbfedeedicnedaaGreat
open Go.RowKit
open Go.Proofs.YtbfedeedicnedaaGreatW.PrintWords
def DMarks (base : Nat) : List Deferred → World → Prop
 | [], _ => True
 | d :: ds, W => (∃ b, d = { target := .collected b, args := #[] } ∧ base ≤ b ∧ W.heap[b]? = some (.deferred (some [])) ∧ ∀ d' ∈ ds, d' ≠ d) ∧ DMarks base ds W
theorem DMarks.put {base : Nat} : ∀ {ds : List Deferred} {W : World} {b : Nat}, DMarks base ds W → (∀ d ∈ ds, d ≠ { target := .collected b, args := #[] }) → ∀ o, DMarks base ds (W.putObj b o)
 | [], _, _, _, _, _ => trivial
 | d :: ds, W, b, ⟨⟨c, hd, hb, hc, hn⟩, h⟩, hne, o => ⟨⟨c, hd, hb, (World.putObj_heap_other (fun e => hne d (List.mem_cons_self) (by rw [hd, e]))).trans hc, hn⟩, DMarks.put h (fun d' hd' => hne d' (List.mem_cons_of_mem _ hd')) o⟩
theorem DMarks.keep {base : Nat} : ∀ {ds : List Deferred} {W W' : World}, DMarks base ds W → (∀ b : Nat, W.heap[b]? = some (.deferred (some [])) → W'.heap[b]? = some (.deferred (some []))) → DMarks base ds W'
 | [], _, _, _, _ => trivial
 | d :: ds, W, W', ⟨⟨c, hd, hb, hc, hn⟩, h⟩, hk => ⟨⟨c, hd, hb, hk c hc, hn⟩, h.keep hk⟩
theorem DMarks.lt {base : Nat} : ∀ {ds : List Deferred} {W : World}, DMarks base ds W → ∀ d ∈ ds, ∃ b, d = { target := .collected b, args := #[] } ∧ b < W.heap.size
 | [], _, _, d, hd => by cases hd
 | d :: ds, W, ⟨⟨c, hd, hb, hc, hn⟩, h⟩, d', hd' => by
  rcases List.mem_cons.1 hd' with rfl | hd'
  ·exact ⟨c, hd, (Array.getElem?_eq_some_iff.1 hc).1⟩
  ·exact h.lt d' hd'
theorem leaves_marks {fn : Func} {tmps : Array Value} {R : Ending → World → Prop} {base : Nat} (Inv : World → Prop) (hput : ∀ W b, Inv W → base ≤ b → W.heap[b]? = some (.deferred (some [])) → Inv (W.putObj b (.deferred none)))
  (hres : ∀ W, Inv W → LeavesIn Fence.wide 3 Tryz.prog fn tmps R [] .returning W) : ∀ (ds : List Deferred) (W : World), DMarks base ds W → Inv W → LeavesInM Fence.wide 3 Tryz.prog fn tmps R ds .returning W
 | [], W, _, hi => hres W hi
 | d :: ds, W, ⟨⟨b, hd, hb, hc, hn⟩, h⟩, hi => by
  subst hd
  refine ⟨by simp, .inl ⟨_, _, rfl, run_takeDeferred hc, ?_⟩⟩
  exact leaves_marks Inv hput hres ds _ (h.put hn _) (hput W b hi hb hc)
namespace Sh
def PgAt (H : Hp) (ks : List Int) (R : Option (List Int)) (k n : Nat) : Prop := ∃ pre, pre.length = n ∧ R = (listPagesF H k (ks.drop k)).map (pre ++ ·)
theorem PgAt.start (H : Hp) (ks : List Int) : PgAt H ks (listPagesF H 0 ks) 0 0 := ⟨[], rfl, by simp⟩
theorem pg_drop (l : List Int) (i : Nat) (h : i < l.length) : l.drop i = gi l i :: l.drop (i + 1) := by
 rw [List.drop_eq_getElem_cons h]
 unfold gi
 rw [List.getD_eq_getElem?_getD, List.getElem?_eq_getElem h]
 rfl
theorem PgAt.skip {H : Hp} {ks : List Int} {R : Option (List Int)} {k n : Nat} (h : PgAt H ks R k n) (hk : k < ks.length) (hx : gi ks k = -1) : PgAt H ks R (k + 1) n := by
 obtain ⟨pre, hp, hR⟩ := h
 refine ⟨pre, hp, ?_⟩
 rw [hR, pg_drop ks k hk, hx]
 rfl
theorem PgAt.bad {H : Hp} {ks : List Int} {R : Option (List Int)} {k n : Nat} (h : PgAt H ks R k n) (hk : k < ks.length) (hx : gi ks k ≠ -1) (hp : page H (gi ks k) 32 = none) : R = none := by
 obtain ⟨pre, _, hR⟩ := h
 rw [hR, pg_drop ks k hk]
 show Option.map _ (if gi ks k = -1 then _ else _) = none
 rw [if_neg hx, hp]
 rfl
theorem PgAt.page {H : Hp} {ks : List Int} {R : Option (List Int)} {k n : Nat} {l : List Int} (h : PgAt H ks R k n) (hk : k < ks.length) (hx : gi ks k ≠ -1) (hp : page H (gi ks k) 32 = some l) : PgAt H ks R (k + 1) (n + l.length) := by
 obtain ⟨pre, hpre, hR⟩ := h
 refine ⟨pre ++ l.map fun b => 32 * (k : Int) + b, by simp [hpre], ?_⟩
 rw [hR, pg_drop ks k hk]
 show Option.map _ (if gi ks k = -1 then _ else _) = _
 rw [if_neg hx, hp]
 simp only [Option.bind_some, Option.map_map]
 congr 1
 funext r
 simp
theorem PgAt.done {H : Hp} {ks : List Int} {R : Option (List Int)} {k n : Nat} (h : PgAt H ks R k n) (hk : ks.length ≤ k) : ∃ l, R = some l ∧ l.length = n := by
 obtain ⟨pre, hpre, hR⟩ := h
 rw [List.drop_eq_nil_of_le hk] at hR
 exact ⟨pre, by rw [hR]; simp [listPagesF], hpre⟩
end Sh
theorem below_putO {B : Nat} {w W : World} (h : Below B w W) (r : Nat) (hr : B ≤ r) (o : Obj) : Below B w (W.putObj r o) :=
 ⟨h.os, h.tape, h.output, by simpa using h.size, fun k hk => (World.putObj_heap_other (by omega)).trans (h.block k hk)⟩
theorem wpIn_region_round0 {l n id : Nat} {P : Program} {ops : List Oper} {Q : Exit → Act → World → Prop} {a : Act} {w : World} (hQ : ∀ a w, ¬ Q .outgrown a w)
  (hnd : ∀ (i : Nat) (o : Oper), ops.toArray[i]? = some o → ∀ c, o.op ≠ .defer c) (h : wpList P ops.toArray Q ops a w) : (Code.region id ops.toArray false).wpIn (Fence.wide.inRound l) n P Q a w :=
 wpIn_region (wpOpsIn_of_wpOps hQ hnd _ a w (by rw [List.range_eq_range', ← Array.length_toList, wpOps_eq_wpList ops.toArray.toList 0 (by simp)]; simpa using h))
theorem nd_of_all {ops : Array Oper} (h : (ops.toList.all fun o => match o.op with | .defer _ => false | _ => true) = true) (i : Nat) (o : Oper) (ho : ops[i]? = some o) (c) : o.op ≠ .defer c := by
 have hm : o ∈ ops.toList := by
  have := Array.mem_of_getElem? ho
  simpa using this
 have := List.all_eq_true.1 h o hm
 intro he
 rw [he] at this
 cases this
def OutL (W : World) (g8 : Nat) (ok : Nat → Prop) (l : List Int) : Prop := ∃ v, W.heap[g8]? = some (.cells #[v] 28 (0, 0)) ∧ Kd.R kI 3 W (g8 + 1) ok v l
theorem OutL.below {W W' : World} {g8 : Nat} {ok : Nat → Prop} {l : List Int} (h : OutL W g8 ok l) (hb : Below W.heap.size W W') : OutL W' g8 ok l := by
 obtain ⟨v, a, b⟩ := h
 exact ⟨v, blk_below a hb, Kd.R_below b hb⟩
theorem OutL.put {W : World} {g8 : Nat} {ok : Nat → Prop} {l : List Int} (h : OutL W g8 ok l) (r : Nat) (o : Obj) (h8 : g8 ≠ r) (hr : ¬ ok r) : OutL (W.putObj r o) g8 ok l := by
 obtain ⟨v, a, b⟩ := h
 exact ⟨v, (World.putObj_heap_other h8).trans a, Kd.R_step b (fun k hk _ => World.putObj_heap_other (fun e => hr (e ▸ hk)))⟩
structure DgAt (w W : World) (g8 bs i9 : Nat) (k : Nat) (ds : List Deferred) (l : List Int) : Prop where
 out : OutL W g8 (fun b => b < i9 ∨ bs + 3 ≤ b) l
 nine : W.heap[i9]? = some (.cells #[.int .i64 k] 3 (0, 0))
 bel : Below w.heap.size w W
 marks : DMarks (g8 + 1) ds W
theorem DgAt.below {w W W' : World} {g8 bs i9 k : Nat} {ds : List Deferred} {l : List Int} (h : DgAt w W g8 bs i9 k ds l) (hb : Below W.heap.size W W') : DgAt w W' g8 bs i9 k ds l :=
 ⟨h.out.below hb, blk_below h.nine hb, h.bel.trans (hb.mono h.bel.size), h.marks.keep fun b hb' => blk_below hb' hb⟩
theorem DgAt.put {w W : World} {g8 bs i9 k : Nat} {ds : List Deferred} {l : List Int} (h : DgAt w W g8 bs i9 k ds l) (h8 : g8 < bs) (h9 : i9 < bs) (hw : w.heap.size ≤ bs) (hds : ∀ d ∈ ds, d ≠ { target := .collected (bs + 2), args := #[] }) (o : Obj) : DgAt w (W.putObj (bs + 2) o) g8 bs i9 k ds l :=
 ⟨h.out.put _ _ (by omega) (by omega), (World.putObj_heap_other (by omega)).trans h.nine, below_putO h.bel _ (by omega) _, h.marks.put hds _⟩
def plFrame (w : World) (ad : Addr) (H : Sh.Hp) (c i : Nat) (A1 : Option Addr) (c1 k : Nat) (u : Nat → Value) : Array Value :=
 #[.agg #[], .slice (some ad) H.length c, .int .i64 i, .pointer (some ⟨w.heap.size, 0, none⟩), u 4, u 5, u 6, u 7, .pointer (some ⟨w.heap.size + 1, 0, none⟩), u 9, u 10, u 11, u 12, u 13, u 14, u 15, u 16, u 17, u 18, u 19, u 20, u 21, u 22, u 23, u 24, u 25, u 26, u 27, u 28, u 29, u 30, u 31, u 32, u 33, u 34, u 35, u 36, u 37, .slice A1 32 c1, .int .i64 32, .int .i64 k, u 41, u 42, u 43, u 44, u 45, u 46, u 47, u 48, u 49, u 50, u 51, u 52, u 53, u 54, u 55, u 56, u 57, u 58, u 59, u 60, u 61, u 62, u 63, u 64, u 65, u 66, u 67, u 68, u 69, u 70, u 71, u 72, u 73, u 74, u 75, u 76, u 77, u 78, u 79, u 80, u 81, u 82, u 83, u 84, u 85, u 86, u 87, u 88, u 89, u 90, u 91, u 92, u 93, u 94, u 95, u 96, u 97, u 98, u 99, u 100, u 101, u 102, u 103, u 104, u 105, u 106]
theorem as_list {α : Type} (d : α) (l : List α) : l = (List.range l.length).map fun n => l.getD n d := by
 apply List.ext_getElem
 ·simp
 ·intro i h1 h2
  simp [List.getD_eq_getElem?_getD, h1]
theorem as_u107 (a : Array Value) (h : a.size = 107) : ∃ u : Nat → Value, a = #[u 0, u 1, u 2, u 3, u 4, u 5, u 6, u 7, u 8, u 9, u 10, u 11, u 12, u 13, u 14, u 15, u 16, u 17, u 18, u 19, u 20, u 21, u 22, u 23, u 24, u 25, u 26, u 27, u 28, u 29, u 30, u 31, u 32, u 33, u 34, u 35, u 36, u 37, u 38, u 39, u 40, u 41, u 42, u 43, u 44, u 45, u 46, u 47, u 48, u 49, u 50, u 51, u 52, u 53, u 54, u 55, u 56, u 57, u 58, u 59, u 60, u 61, u 62, u 63, u 64, u 65, u 66, u 67, u 68, u 69, u 70, u 71, u 72, u 73, u 74, u 75, u 76, u 77, u 78, u 79, u 80, u 81, u 82, u 83, u 84, u 85, u 86, u 87, u 88, u 89, u 90, u 91, u 92, u 93, u 94, u 95, u 96, u 97, u 98, u 99, u 100, u 101, u 102, u 103, u 104, u 105, u 106] := by
 refine ⟨fun n => a.toList.getD n undef, ?_⟩
 have := as_list undef a.toList
 rw [Array.length_toList, h] at this
 rw [← Array.toArray_toList (xs := a)]
 conv => lhs; rw [this]
 rfl
theorem pl_bad {w W : World} {ds : List Deferred} {tmps : Array Value} (hm : DMarks (w.heap.size + 2) ds W) (hB : Below w.heap.size w W) (h6 : tmps.getD 6 undef = .slice none 0 0) (h7 : tmps.getD 7 undef = .bool false) :
  LeavesInM Fence.wide 3 Tryz.prog Tryz.f168 tmps (fun e w' => GotX False w.heap.size w' e none ∧ Below w.heap.size w w') ds .returning W :=
 leaves_marks (base := w.heap.size + 2) (fun W => Below w.heap.size w W) (fun W b h hb _ => below_putO h b (by omega) _)
  (fun W h => ⟨_, results_tmp2 rfl _ _ _, ⟨.slice none 0 0, [], by rw [h6, h7]; rfl, Kd.R_nil _ _ _ _ _, rfl, fun h => h.elim⟩, h⟩) ds W hm hB
theorem pl_good {w W : World} {ds : List Deferred} {tmps : Array Value} {v : Value} {lo l : List Int} (hm : DMarks (w.heap.size + 2) ds W) (hB : Below w.heap.size w W) (hv : Kd.R kI 3 W (w.heap.size + 2) (fun _ => True) v lo) (hl : lo.length = l.length) (h6 : tmps.getD 6 undef = v) (h7 : tmps.getD 7 undef = .bool true) :
  LeavesInM Fence.wide 3 Tryz.prog Tryz.f168 tmps (fun e w' => GotX False w.heap.size w' e (some l) ∧ Below w.heap.size w w') ds .returning W :=
 leaves_marks (base := w.heap.size + 2) (fun W => Below w.heap.size w W ∧ Kd.R kI 3 W (w.heap.size + 2) (fun _ => True) v lo)
  (fun W b h hb hd => ⟨below_putO h.1 b (by omega) _, Kd.R_mono (Kd.R_step (Kd.R_bound h.2) (fun k hk _ => World.putObj_heap_other (by
   rintro rfl
   obtain ⟨_, _, _, q, _, cells, hc⟩ := hk
   rw [hc] at hd
   cases hd))) (fun _ _ => trivial)⟩)
  (fun W h => ⟨_, results_tmp2 rfl _ _ _, ⟨v, lo, by rw [h6, h7]; rfl, Kd.R_lower h.2 (by omega), hl, fun h => h.elim⟩, h.1⟩) ds W hm ⟨hB, hv⟩
theorem page_some {H : Sh.Hp} {x : Int} {v : Nat} (ht : Sh.there H x = true) (h2 : (Sh.nd H x).2.length = 0) (h1 : (Sh.nd H x).1.length = 1) (hv : Sh.gi (Sh.nd H x).1 0 = v) (h0 : 1 ≤ v) (h32 : v < 4294967296) : Sh.page H x 32 = some (Sh.ones v 32) := by
 unfold Sh.page
 rw [ht, h2, h1, hv]
 rw [if_pos (by simp; omega)]
 rfl
theorem page_bad {H : Sh.Hp} {x : Int} (h : Sh.there H x = false ∨ (Sh.nd H x).2.length ≠ 0 ∨ (Sh.nd H x).1.length ≠ 1 ∨ Sh.gi (Sh.nd H x).1 0 < 1 ∨ 4294967296 ≤ Sh.gi (Sh.nd H x).1 0) : Sh.page H x 32 = none := by
 unfold Sh.page
 rw [if_neg]
 simp only [Bool.and_eq_true, beq_iff_eq, decide_eq_true_eq]
 rintro ⟨a, b, c, d, e⟩
 rcases h with h | h | h | h | h
 ·rw [h] at a; cases a
 ·exact h b
 ·exact h c
 ·omega
 ·have : ((2 ^ 32 : Nat) : Int) = 4294967296 := by decide
  omega
theorem fold_one (p : Tmp) (v : Value) (t : Array Value) : (#[p].zip #[v]).foldl (fun t (p, v) => t.setIfInBounds p v) t = t.setIfInBounds p v := by
 simp [Array.zip]
def PlI (w : World) (ad : Addr) (H : Sh.Hp) (c i : Nat) (A1 : Option Addr) (c1 : Nat) (ks : List Int) (R : Option (List Int)) (g : Nat) (a' : Act) (wr : World) : Prop :=
 ∃ (u : Nat → Value) (k n : Nat) (ds : List Deferred) (lo : List Int), a' = ⟨plFrame w ad H c i A1 c1 k u, ds⟩ ∧ u 6 = .slice none 0 0 ∧ u 7 = .bool false ∧ k ≤ 32 ∧ Hid (g + k = 32) ∧ Hid (lo.length = n ∧ n ≤ 32 * k) ∧ Hid (Sh.PgAt H ks R k n) ∧
  Hid (OutL wr (w.heap.size + 1) (fun _ => True) lo) ∧ Hid (Below (w.alloc (.cells #[] 155)).heap.size (w.alloc (.cells #[] 155)) wr) ∧ Hid (w.heap.size + 2 ≤ wr.heap.size) ∧ Hid (DMarks (w.heap.size + 2) ds wr)
theorem PlI.mk {w : World} {ad : Addr} {H : Sh.Hp} {c i : Nat} {A1 : Option Addr} {c1 : Nat} {ks : List Int} {R : Option (List Int)} {g : Nat} {wr W : World} (k n : Nat) {ds : List Deferred} (lo : List Int) (T : Array Value)
  (hT : T = plFrame w ad H c i A1 c1 k (fun n => T.toList.getD n undef)) (h6 : T.toList.getD 6 undef = .slice none 0 0) (h7 : T.toList.getD 7 undef = .bool false) (hk : k ≤ 32) (hg : g + k = 32) (hlo : lo.length = n ∧ n ≤ 32 * k) (hpg : Sh.PgAt H ks R k n)
  (hout : OutL wr (w.heap.size + 1) (fun _ => True) lo) (hB : Below (w.alloc (.cells #[] 155)).heap.size (w.alloc (.cells #[] 155)) wr) (hs : w.heap.size + 2 ≤ wr.heap.size) (hm : DMarks (w.heap.size + 2) ds wr) (hW : Below wr.heap.size wr W) : PlI w ad H c i A1 c1 ks R g ⟨T, ds⟩ W :=
 ⟨_, k, n, ds, lo, congrArg (fun T => Act.mk T ds) hT, h6, h7, hk, Lib.hid hg, Lib.hid hlo, Lib.hid hpg, Lib.hid (hout.below hW), Lib.hid (hB.trans (hW.mono (by have := hB.size; omega))), Lib.hid (Nat.le_trans hs hW.size), Lib.hid (hm.keep fun b h => blk_below h hW)⟩
theorem plist_ok (H : Sh.Hp) (i : Nat) (A : Option Addr) (c : Nat) (w : World) (hC : Nodes w A H) (hT : TabOk w) (hbig : ∀ p ∈ H, p.1.length ≤ 1000000 ∧ p.2.length ≤ 1000000) (ht : Sh.there H (i : Int) = true)
  (h0 : (Sh.nd H (i : Int)).1.length = 0) (h1 : (Sh.nd H (i : Int)).2.length = 32) :
  Calls Tryz.prog 168 #[.agg #[], .slice A H.length c, .int .i64 i] w fun e w' => GotX False w.heap.size w' e (Sh.listPagesF H 0 (Sh.nd H (i : Int)).2) ∧ Below w.heap.size w w' := by
 have hth := Lib.hid (fun W => there_at (w := W) (A := A) (c := c) ht)
 have hths := Lib.hid (fun (x : Int) (b : Bool) (hx : Sh.there H x = b) W => there_at (w := W) (A := A) (c := c) hx)
 obtain ⟨hr0, hr1⟩ := Sh.there_iff.1 ht
 have hC1 := Kd.C_alloc hC (.cells #[] 155)
 obtain ⟨ad, A0, c0, A1, c1, rfl, d0, d1, l0, g0, l1, g1⟩ := Nodes.at hC1 i hr0 hr1
 simp only [Int.toNat_natCast] at d0 d1
 generalize (Sh.nd H (i : Int)).1 = l at *
 generalize hks : (Sh.nd H (i : Int)).2 = ks at *
 have hg1 := Lib.hid g1
 rw [h0] at d0
 rw [h1] at d1
 rw [h1] at hg1
 have h1h := Lib.hid h1
 have hCh := Lib.hid hC
 have hTh := Lib.hid hT
 have hbigh := Lib.hid hbig
 clear hC hT hC1 g0 g1 l0 l1 h0 h1 hks hr0 ht hbig
 have e1 : ((w.alloc (.cells #[] 155)).alloc (.cells #[.slice none 0 0] 28)).cell? ⟨(ad.add (i * 2)).block, (ad.add (i * 2)).off + 1, none⟩ = some (.slice A1 32 c1) :=
  (((Below.refl _ _).alloc (Nat.le_refl _) _).cell (p := ⟨(ad.add (i * 2)).block, (ad.add (i * 2)).off + 1, none⟩) (World.block_lt_of_cell? _ _ d1)).trans d1
 have hmf : ∀ (fn : Fn) (first cap : Array Value) (w : World), (Instr.makeFunc fn first cap).run Tryz.prog w = .ok (.func fn first cap) w := fun _ _ _ _ => rfl
 have hB2 := Lib.hid (show Below w.heap.size w ((w.alloc (.cells #[] 155)).alloc (.cells #[.slice none 0 0] 28)) from ((Below.refl _ _).alloc (Nat.le_refl _) _).alloc (by rw [World.size_alloc]; omega) _)
 have hs2 := Lib.hid (show ((w.alloc (.cells #[] 155)).alloc (.cells #[.slice none 0 0] 28)).heap.size = w.heap.size + 2 by rw [World.size_alloc, World.size_alloc])
 have ho2 := Lib.hid (show ((w.alloc (.cells #[] 155)).alloc (.cells #[.slice none 0 0] 28)).heap[w.heap.size + 1]? = some (.cells #[.slice none 0 0] 28 (0, 0)) by
  have := heap_alloc_new (w.alloc (.cells #[] 155)) (.cells #[.slice none 0 0] 28)
  rw [World.size_alloc] at this
  exact this)
 have hw1 := Lib.hid (show Below w.heap.size w (w.alloc (.cells #[] 155)) from (Below.refl _ _).alloc (Nat.le_refl _) _)
 have hB12 := Lib.hid (show Below (w.alloc (.cells #[] 155)).heap.size (w.alloc (.cells #[] 155)) ((w.alloc (.cells #[] 155)).alloc (.cells #[.slice none 0 0] 28)) from (Below.refl _ _).alloc (Nat.le_refl _) _)
 obtain ⟨R, hR⟩ : ∃ R, R = Sh.listPagesF H 0 ks := ⟨_, rfl⟩
 rw [← hR]
 have hR0 : Hid (Sh.PgAt H ks R 0 0) := Lib.hid (by rw [hR]; exact Sh.PgAt.start H ks)
 clear hR
 refine callsIn_wide.1 (callsIn_of_wp_marks (n := 3) Tryz.func168 rfl (by simp [Fence.wide]) (wpIn_wide.2 ?_))
 simp only [Tryz.ntmps168, List.size_toArray, List.length_cons, List.length_nil, Nat.reduceAdd, Nat.reduceSub, Array.replicate_succ, Array.replicate_zero, List.push_toArray, List.append_toArray, List.nil_append, List.cons_append]
 go_wp2_with fail
 refine (hth.out _).mono ?_
 rintro e w1 ⟨rfl, rfl⟩
 go_wp2
 clear d0 d1 e1 hr1 hth
 generalize hW0 : (w.alloc (.cells #[] 155)).alloc (.cells #[.slice none 0 0] 28) = W0 at *
 clear hW0
 have hK := ‹∀ (a : Act) (w_1 : World), Code.wp _ _ _ a w_1 → _›
 refine wp_loop_ghost_k (PlI w ad H c i A1 c1 ks R) 32 ?_ ?_
 ·exact PlI.mk 0 0 [] _ rfl rfl rfl (by omega) rfl ⟨rfl, by omega⟩ hR0.out ⟨_, ho2.out, Kd.R_nil _ _ _ _ _⟩ hB12.out (by rw [hs2.out]; exact Nat.le_refl _) trivial (Below.refl _ _)
 ·rintro gk _ wr ⟨u, k, n, ds, lo, rfl, u6, u7, hk, hg, hlo, hpg, hout, hB, hsz, hm⟩ J K hJ hKK
  unfold plFrame
  rw [u6, u7]
  clear u6 u7
  obtain ⟨v8, hv8, hv8R⟩ := hout.out
  have c8 := blk_cell hv8 0
  simp only [List.getElem?_toArray, List.getElem?_cons_zero] at c8
  replace hv8 := Lib.hid hv8
  replace hv8R := Lib.hid hv8R
  have hBw := Lib.hid (hw1.out.trans (hB.out.mono (by rw [World.size_alloc]; omega)))
  by_cases hlt : k < 32
  ·obtain ⟨ad1, rfl, e0⟩ := at_int (Kd.C_below hg1.out hB.out) k (by omega) (by omega)
   rw [Int.toNat_natCast] at e0
   obtain ⟨x, hx⟩ : ∃ x, x = Sh.gi ks k := ⟨_, rfl⟩
   rw [← hx] at e0
   replace hx := Lib.hid hx
   by_cases hx1 : x = -1
   ·have hpg2 := Lib.hid (hpg.out.skip (by rw [h1h.out]; exact hlt) (by rw [← hx.out]; exact hx1))
    subst hx1
    go_wp2
    exact Handed.intro (gk - 1) (by have := hg.out; omega) (hJ _ _ _ (PlI.mk (k + 1) n lo _ rfl rfl rfl (by omega) (by have := hg.out; omega) ⟨hlo.out.1, by have := hlo.out.2; omega⟩ hpg2.out hout.out hB.out hsz.out hm.out ((Below.refl _ _).alloc (Nat.le_refl _) _)))
   ·have hxb : (x == -1) = false := by rw [beq_eq_false_iff_ne]; exact hx1
    have hbad : Hid (Sh.page H x 32 = none → R = none) := Lib.hid (fun h => hpg.out.bad (by rw [h1h.out]; exact hlt) (by rw [← hx.out]; exact hx1) (by rw [← hx.out]; exact h))
    have hgood : Hid (∀ l, Sh.page H x 32 = some l → Sh.PgAt H ks R (k + 1) (n + l.length)) := Lib.hid (fun l h => hpg.out.page (by rw [h1h.out]; exact hlt) (by rw [← hx.out]; exact hx1) (by rw [← hx.out]; exact h))
    have hBad : Hid (∀ (W : World) (tmps : Array Value), R = none → Below wr.heap.size wr W → tmps.getD 6 undef = .slice none 0 0 → tmps.getD 7 undef = .bool false → LeavesInM Fence.wide 3 Tryz.prog Tryz.f168 tmps (fun e w' => GotX False w.heap.size w' e R ∧ Below w.heap.size w w') ds .returning W) := Lib.hid (fun W tmps hRn hW a6 a7 => by
     rw [hRn]
     exact pl_bad (hm.out.keep fun b h => blk_below h hW) (hBw.out.trans (hW.mono hBw.out.size)) a6 a7)
    have hC3 := Lib.hid (Kd.C_alloc (Kd.C_below hCh.out hBw.out) (.cells #[.int .i64 k] 3))
    by_cases htx : Sh.there H x = true
    case neg =>
     have htx' : Sh.there H x = false := by simpa using htx
     have hcl := Lib.hid (hths.out x false htx')
     have hRn := Lib.hid (hbad.out (page_bad (.inl htx')))
     clear htx htx' hx1
     go_wp2_with fail
     refine (hcl.out _).mono ?_
     rintro e w2 ⟨rfl, rfl⟩
     go_wp2
     exact hBad.out _ _ hRn.out ((Below.refl _ _).alloc (Nat.le_refl _) _) rfl rfl
    case pos =>
     have hcl := Lib.hid (hths.out x true htx)
     obtain ⟨hx0, hxH⟩ := Sh.there_iff.1 htx
     have hmem := hbigh.out _ (List.mem_of_getElem? (Sh.nd_there htx))
     obtain ⟨adx, B0, q0, B1, q1, hadx, f0, f1, m0, k0, m1, k1⟩ := Nodes.at hC3.out x hx0 hxH
     cases hadx
     obtain ⟨y, rfl⟩ := Int.eq_ofNat_of_zero_le hx0
     simp only [Int.toNat_natCast] at f0 f1
     obtain ⟨N1, hN1⟩ : ∃ N, N = (Sh.nd H (y : Int)).1 := ⟨_, rfl⟩
     obtain ⟨n2, hn2⟩ : ∃ N, N = (Sh.nd H (y : Int)).2.length := ⟨_, rfl⟩
     have hpb := Lib.hid (@page_bad H (y : Int))
     have hps := Lib.hid (fun v => @page_some H (y : Int) v htx)
     rw [← hN1, ← hn2] at hpb hps
     rw [← hN1] at f0 k0
     rw [← hn2] at f1
     obtain ⟨n1, hn1⟩ : ∃ n, n = N1.length := ⟨_, rfl⟩
     rw [← hn1] at f0 k0 hpb hps
     have hk0 := Lib.hid k0
     rw [← hN1, ← hn2, ← hn1] at hmem
     obtain ⟨hm1, hm2⟩ := hmem
     clear htx m0 m1 k0 k1 hN1 hn2 hn1
     by_cases h2 : n2 = 0
     case neg =>
      have hRn := Lib.hid (hbad.out (hpb.out (.inr (.inl h2))))
      have h2' : 0 < n2 := by omega
      clear h2 hx1
      go_wp2_with fail
      refine (hcl.out _).mono ?_
      rintro e w2 ⟨rfl, rfl⟩
      go_wp2
      exact hBad.out _ _ hRn.out ((Below.refl _ _).alloc (Nat.le_refl _) _) rfl rfl
     case pos =>
      subst h2
      by_cases h1 : n1 = 1
      case neg =>
       have hRn := Lib.hid (hbad.out (hpb.out (.inr (.inr (.inl h1)))))
       have h1' : ((n1 : Int) != 1) = true := by simp; omega
       clear hx1
       go_wp2_with fail
       refine (hcl.out _).mono ?_
       rintro e w2 ⟨rfl, rfl⟩
       go_wp2
       exact hBad.out _ _ hRn.out ((Below.refl _ _).alloc (Nat.le_refl _) _) rfl rfl
      case pos =>
       subst h1
       obtain ⟨adn, rfl, n0⟩ := at_zero hk0.out (by omega)
       obtain ⟨v, hv⟩ : ∃ v, v = Sh.gi N1 0 := ⟨_, rfl⟩
       rw [← hv] at n0 hpb hps
       clear hv
       by_cases hv1 : v < 1
       ·have hRn := Lib.hid (hbad.out (hpb.out (.inr (.inr (.inr (.inl hv1))))))
        clear hx1
        go_wp2_with fail
        refine (hcl.out _).mono ?_
        rintro e w2 ⟨rfl, rfl⟩
        go_wp2
        exact hBad.out _ _ hRn.out ((Below.refl _ _).alloc (Nat.le_refl _) _) rfl rfl
       ·by_cases hv2 : 4294967296 ≤ v
        ·have hRn := Lib.hid (hbad.out (hpb.out (.inr (.inr (.inr (.inr hv2))))))
         have hv1' : 1 ≤ v := by omega
         clear hx1
         go_wp2_with fail
         refine (hcl.out _).mono ?_
         rintro e w2 ⟨rfl, rfl⟩
         go_wp2
         exact hBad.out _ _ hRn.out ((Below.refl _ _).alloc (Nat.le_refl _) _) rfl rfl
        ·have hv1' : 1 ≤ v := by omega
         have hv2' : v < 4294967296 := by omega
         obtain ⟨m, hmv⟩ := Int.eq_ofNat_of_zero_le (show 0 ≤ v by omega)
         have hpg2 := Lib.hid (hgood.out _ (hps.out m rfl rfl hmv (by omega) (by omega)))
         have hit := Lib.hid (digits_iter m 32 (wr.heap.size + 1) (by omega) (by omega))
         have hdg := Lib.hid (fun W => digits_calls v W)
         replace hmv := Lib.hid hmv
         clear hx1 hv1 hv2
         go_wp2_with fail
         refine (hcl.out _).mono ?_
         rintro e w2 ⟨rfl, rfl⟩
         go_wp2_with fail
         clear hv1' hv2'
         refine (hdg.out _).mono ?_
         rintro e w2 ⟨rfl, rfl⟩
         go_wp2
         obtain ⟨W2, hW2⟩ : ∃ W2, W2 = (wr.alloc (.cells #[.int .i64 k] 3)).alloc (.cells #[.int .i64 v] 3) := ⟨_, rfl⟩
         rw [← hW2]
         have hb2 : Below wr.heap.size wr W2 := by rw [hW2]; exact ((Below.refl _ _).alloc (Nat.le_refl _) _).alloc (by rw [World.size_alloc]; omega) _
         have hs22 : W2.heap.size = wr.heap.size + 2 := by rw [hW2, World.size_alloc, World.size_alloc]
         have hn9 : W2.heap[wr.heap.size]? = some (.cells #[.int .i64 k] 3 (0, 0)) := by rw [hW2]; exact blk_alloc (heap_alloc_new _ _) _
         have hnb : W2.heap[wr.heap.size + 1]? = some (.cells #[.int .i64 v] 3 (0, 0)) := by
          have := heap_alloc_new (wr.alloc (.cells #[.int .i64 k] 3)) (.cells #[.int .i64 v] 3)
          rw [World.size_alloc] at this
          rw [hW2]
          exact this
         clear hW2
         have hK2 := ‹∀ (a : Act) (w_1 : World), Code.wp _ _ _ a w_1 → _›
         have hpos := (hTh.out).pos
         have hds : ∀ d ∈ ds, ∃ b, d = { target := .collected b, args := #[] } ∧ b < wr.heap.size := hm.out.lt
         have hwsz := hsz.out
         have hW2T : TabOk W2 := hTh.out.below (hBw.out.trans (hb2.mono hBw.out.size)) hpos
         have hD0 : DgAt (w.alloc (.cells #[] 155)) W2 (w.heap.size + 1) (wr.heap.size + 1) wr.heap.size k ds (lo ++ ([] : List Int).map fun b => 32 * (k : Int) + b) :=
          ⟨⟨v8, blk_below hv8.out hb2, by
           rw [List.map_nil, List.append_nil]
           exact Kd.R_mono (Kd.R_below (Kd.R_bound hv8R.out) hb2) (fun b hb => .inl (by have := hb.2.2.1; omega))⟩, hn9, hB.out.trans (hb2.mono (by rw [World.size_alloc]; omega)), hm.out.keep fun b h => blk_below h hb2⟩
         refine wpIn_wide.1 (rf_law (lb := #[.pointer (some ⟨wr.heap.size + 1, 0, none⟩)]) (gf := 174) rfl ?eg hit.out ?hps ?hWok ?hIc ?hSt (fun p W => DgAt (w.alloc (.cells #[] 155)) W (w.heap.size + 1) (wr.heap.size + 1) wr.heap.size k ds (lo ++ p.map fun b => 32 * (k : Int) + b)) (fun _ _ _ => False)
          (fun x a W => ∃ T : Array Value, a = ⟨T, []⟩ ∧ T.size = 107 ∧ T.toList.getD 8 undef = .pointer (some ⟨w.heap.size + 1, 0, none⟩) ∧ T.toList.getD 9 undef = .pointer (some ⟨wr.heap.size, 0, none⟩) ∧ T.toList.getD 11 undef = .int .i64 x)
          ?hIst ?hIxst ?hIp ?hIxp ?hAp ?h0 ?hassign ?hbody ?hdone ?hstop ?hfell)
         case eg => exact fun args w' => enters_of Tryz.func174 (by kernel_rfl) rfl args w'
         case hps => intro x; rfl
         case hWok =>
          intro W hb hz
          have hc := blk_cell (blk_below hnb hb) 0
          simp only [List.getElem?_toArray, List.getElem?_cons_zero, hmv.out] at hc
          exact ⟨hc, hW2T.below hb (by omega)⟩
         case hIc => rintro W j hz (rfl | rfl) <;> omega
         case hSt => intro W0 W W' hz hz2 hb j hj; exact hb.block j (by omega)
         case hIst => intro p W0 W W' _ hi hb; exact hi.below hb
         case hIxst => intro c p W0 W W' _ hi _; exact hi
         case hIp =>
          intro p W o hi
          rw [hs22]
          exact hi.put (by omega) (by omega) (by rw [World.size_alloc]; omega) (fun d hd he => by
           obtain ⟨b, hb, hlt'⟩ := hds d hd
           rw [hb] at he
           injection he with he
           injection he with he
           omega) o
         case hIxp => intro c p W o hi; exact hi
         case hAp => intro x a W o h; exact h
         case h0 => intro W hb hz; exact hD0.below hb
         case hassign =>
          intro pre x W K hi hm hz hK
          simp only [encD]
          rw [fold_one]
          simp only [List.setIfInBounds_toArray, List.set_cons_zero, List.set_cons_succ]
          gi_wp2
          exact hK _ _ ⟨_, rfl, rfl, rfl, rfl, rfl⟩ hi (KeepI.refl _)
         case hbody =>
          rintro W0 pre x a' W hz0 hz hIc hi ⟨T, rfl, hT, h8, h9, h11⟩ hm
          obtain ⟨u, rfl⟩ := as_u107 T hT
          obtain ⟨v, hv8, hvR⟩ := hi.out
          have e8 : u 8 = .pointer (some ⟨w.heap.size + 1, 0, none⟩) := h8
          have e9 : u 9 = .pointer (some ⟨wr.heap.size, 0, none⟩) := h9
          have e11 : u 11 = .int .i64 x := h11
          rw [e8, e9, e11]
          clear h8 h9 h11 e8 e9 e11
          have c8 := blk_cell hv8 0
          have c9 := blk_cell hi.nine 0
          have z8 := blk_frozen hv8 0
          simp only [List.getElem?_toArray, List.getElem?_cons_zero] at c8 c9
          obtain ⟨hlen, hx0, hx255⟩ := hm
          refine wpIn_block ?_
          refine wpIn_region_round0 (fun _ _ h => h) (nd_of_all rfl) ?_
          obtain ⟨L, hL⟩ : ∃ L, L = lo ++ pre.map fun b => 32 * (k : Int) + b := ⟨_, rfl⟩
          have hll : L.length ≤ 2000 := by
           have := hlo.out
           have := Sh.ones_le m 32
           rw [hL]
           simp only [List.length_append, List.length_map]
           omega
          rw [← hL] at hvR
          replace hL := Lib.hid hL
          obtain ⟨A6, c6, rfl⟩ := Kd.R_slice hvR
          have hown := Lib.hid (Kd.own_of_R hvR)
          have hok := Lib.hid (hvR.1)
          have hKeep := Lib.hid (fun (v1 : Value) (w1 : World) (h1 : w1.ownsRow (w.heap.size + 1 + 1) 3 1 v1 (L ++ [32 * (k : Int) + x]).length (nums .i64 (L ++ [32 * (k : Int) + x]))) (h2 : Below (w.heap.size + 1 + 1) W w1) (h3 : W.grownBy w1 (Value.slice A6 L.length c6).ownBlock) (h4 : v1.ownBlock = (Value.slice A6 L.length c6).ownBlock ∨ ∃ b, v1.ownBlock = some b ∧ W.heap.size ≤ b) => (by
           have hv8w := hv8
           have h8lt := blk_lt hv8
           have hbase : ∀ b, (Value.slice A6 L.length c6).ownBlock = some b → w.heap.size + 1 + 1 ≤ b := fun b hb => ((Kd.R_bound hvR).1 b hb).2.1
           have hne : ∀ j, (j = wr.heap.size + 1 ∨ j = 0) ∨ j = wr.heap.size + 2 ∨ j = wr.heap.size + 2 + 1 → some j ≠ (Value.slice A6 L.length c6).ownBlock ∧ j ≠ w.heap.size + 1 ∧ j < W.heap.size := fun j hj => by
            refine ⟨fun he => ?_, by omega, by omega⟩
            have := hok.out j he.symm
            have := hbase j he.symm
            omega
           have h18 : w1.heap[w.heap.size + 1]? = some (.cells #[(Value.slice A6 L.length c6)] 28 (0, 0)) := (h2.block _ (by omega)).trans hv8
           have hR1 : Kd.R kI 3 w1 (w.heap.size + 1 + 1) (fun b => b < wr.heap.size ∨ wr.heap.size + 1 + 3 ≤ b) v1 (L ++ [32 * (k : Int) + x]) := Kd.R_of_own h1 (fun b hb => by
            rcases h4 with h4 | ⟨b', hb', hge⟩
            ·exact hok.out b (h4 ▸ hb)
            ·rw [hb] at hb'
             obtain rfl := Option.some.inj hb'
             right
             omega)
           refine ⟨⟨Nat.le_trans h3.size (by simp), fun j hj => ?_⟩, ⟨⟨v1, ?_, ?_⟩, ?_, ?_, ?_⟩⟩
           ·obtain ⟨a1, a2, a3⟩ := hne j hj
            rw [Below.heap_setCell _ _ _ j a2]
            exact h3.block j a3 a1
           ·exact blk_set h18 0 v1
           ·rw [List.map_append, ← List.append_assoc, ← hL.out]
            exact Kd.R_set hR1 h18 (fun q hq => by
             rcases List.mem_cons.1 hq with rfl | hq
             ·decide
             ·cases hq) 0 v1
           ·rw [Below.heap_setCell _ _ _ _ (by show wr.heap.size ≠ w.heap.size + 1; omega)]
            refine blk_grown hi.nine h3 (fun he => ?_)
            have := hok.out _ he.symm
            omega
           ·refine Below.setCell (p := ⟨w.heap.size + 1, 0, none⟩) (hi.bel.trans (h2.mono (by rw [World.size_alloc]; omega))) (by rw [World.size_alloc]; exact Nat.le_refl _) _
           ·refine hi.marks.keep fun b hb => ?_
            have hb8 : b ≠ w.heap.size + 1 := fun he => by
             rw [he, hv8] at hb
             cases hb
            rw [Below.heap_setCell _ _ _ b hb8]
            refine blk_grown hb h3 (fun he => ?_)
            obtain ⟨_, _, _, q, _, cells, hcc⟩ := (Kd.R_bound hvR).1 b he.symm
            rw [hcc] at hb
            exact absurd hb (by intro hc; cases hc) : KeepI (fun j => (j = wr.heap.size + 1 ∨ j = 0) ∨ j = wr.heap.size + 2 ∨ j = wr.heap.size + 2 + 1) W (w1.setCell ⟨w.heap.size + 1, 0, none⟩ v1) ∧ DgAt (w.alloc (.cells #[] 155)) (w1.setCell ⟨w.heap.size + 1, 0, none⟩ v1) (w.heap.size + 1) (wr.heap.size + 1) wr.heap.size k ds (lo ++ (pre ++ [x]).map fun b => 32 * (k : Int) + b)))
          have h18s := Lib.hid (fun (w1 : World) (h2 : Below (w.heap.size + 1 + 1) W w1) => (show w1.cell? ⟨w.heap.size + 1, 0, none⟩ = some (Value.slice A6 L.length c6) ∧ w1.frozen? ⟨w.heap.size + 1, 0, none⟩ = false from by
           have h18 : w1.heap[w.heap.size + 1]? = some (.cells #[(Value.slice A6 L.length c6)] 28 (0, 0)) := (h2.block _ (by omega)).trans hv8
           have h19 := blk_cell h18 0
           simp only [List.getElem?_toArray, List.getElem?_cons_zero] at h19
           exact ⟨h19, blk_frozen h18 0⟩))
          have hWs := Lib.hid (show w.heap.size + 1 + 1 ≤ W.heap.size by omega)
          clear hvR hok hi hD0 hW2T hds hn9 hnb hb2 hv8 hz hIc hlen
          go_wp2_with (at_builtin; refine print_append_num (w0 := W) (w.heap.size + 1 + 1) rfl _ _ 28 3 .i64 8 rfl (by kernel_rfl) PAll.info3 (by omega) (.slice A6 L.length c6) L (32 * (k : Int) + x) rfl rfl hown.out (Below.refl _ _) hWs.out (by omega) ?_; intro v1 w1 h1 h2 h3 h4; obtain ⟨A5, c5, rfl⟩ := Kd.R_slice (Ints.mk h1); have hKp := Lib.hid (hKeep.out _ w1 h1 h2 h3 h4); obtain ⟨q1, q2⟩ := h18s.out w1 h2; clear h1 h2 h3 h4 hKeep h18s; generalize (L ++ [32 * (k : Int) + x]).length = N1 at *)
          exact hKp.out
         case hdone =>
          intro xs W hfull hi hd
          refine hK2 _ _ ?_
          dsimp only
          have hfin := Lib.hid (fun (T : Array Value) (g : Nat) (hg' : g + (k + 1) = 32) (hT : T = plFrame w ad H c i (some ad1) c1 (k + 1) (fun n => T.toList.getD n undef)) (h6 : T.toList.getD 6 undef = .slice none 0 0) (h7 : T.toList.getD 7 undef = .bool false) =>
           (PlI.mk (k + 1) (n + (Sh.ones m 32).length) (lo ++ xs.map fun b => 32 * (k : Int) + b) T hT h6 h7 (by omega) hg' (by
            have := hlo.out
            have := Sh.ones_le m 32
            simp only [List.length_append, List.length_map, hfull]
            omega) hpg2.out (by
            obtain ⟨v, a, b⟩ := hi.out
            exact ⟨v, a, Kd.R_mono b (fun _ _ => trivial)⟩) hi.bel (by have := hi.bel.size; rw [World.size_alloc] at this; have := blk_lt hi.nine; omega) (ds := { target := .collected W2.heap.size, args := #[] } :: ds) ⟨⟨W2.heap.size, rfl, by omega, hd, fun d' hd' he => by
             obtain ⟨b, hb, hlt'⟩ := hds d' hd'
             rw [hb] at he
             injection he with he
             injection he with he
             omega⟩, hi.marks⟩ (Below.refl _ _)  : PlI w ad H c i (some ad1) c1 ks R g ⟨T, { target := .collected W2.heap.size, args := #[] } :: ds⟩ W))
          clear hi hd hfull hD0 hW2T hds hn9 hnb hb2 hs22
          go_wp2
          exact Handed.intro (gk - 1) (by have := hg.out; omega) (hJ _ _ _ (hfin.out _ _ (by have := hg.out; omega) rfl rfl rfl))
         case hstop => intro c pre W hi _; exact hi.elim
         case hfell => intro ch xs W hf _ _; exact hf.elim
  ·obtain rfl : k = 32 := by omega
   clear hlt hk
   obtain ⟨l', hl', hll'⟩ := hpg.out.done (by rw [h1h.out]; exact Nat.le_refl _)
   have hfin := Lib.hid (fun (tmps : Array Value) (a6 : tmps.getD 6 undef = v8) (a7 : tmps.getD 7 undef = .bool true) => (show LeavesInM Fence.wide 3 Tryz.prog Tryz.f168 tmps (fun e w' => GotX False w.heap.size w' e R ∧ Below w.heap.size w w') ds .returning wr by
    rw [hl']
    exact pl_good hm.out hBw.out hv8R.out (by rw [hlo.out.1, hll']) a6 a7))
   clear hl' hll'
   go_wp2
   exact hfin.out _ rfl rfl
end Go.Proofs.YtbfedeedicnedaaGreat
end
section
namespace Go.Proofs.YtbfedeedicnedaaGreat
open Go.RowKit
open Go.Proofs.YtbfedeedicnedaaGreatW.PrintWords
theorem got_none {w w' : World} (hb : Below w.heap.size w w') : GotX False w.heap.size w' (.returned (.tuple #[.slice none 0 0, .bool false])) none ∧ Below w.heap.size w w' :=
  ⟨⟨_, [], rfl, Kd.R_nil _ _ _ _ _, rfl, fun h => h.elim⟩, hb⟩
theorem plist_calls (H : Sh.Hp) (root : Int) (A : Option Addr) (c : Nat) (w : World) (hC : Nodes w A H) (hT : TabOk w) (hbig : ∀ p ∈ H, p.1.length ≤ 1000000 ∧ p.2.length ≤ 1000000) :
    Calls Tryz.prog 168 #[.agg #[], .slice A H.length c, .int .i64 root] w fun e w' => GotX False w.heap.size w' e (Sh.listPages H root) ∧ Below w.heap.size w w' := by
  have hB0 := Lib.hid (show Below w.heap.size w (w.alloc (.cells #[] 155)) from (Below.refl _ _).alloc (Nat.le_refl _) _)
  unfold Sh.listPages
  by_cases ht : Sh.there H root = true
  case neg =>
    have ht' : Sh.there H root = false := by simpa using ht
    have hth := Lib.hid (fun W => there_at (w := W) (A := A) (c := c) ht')
    rw [ht']
    simp only [Bool.false_and, Bool.false_eq_true, if_false]
    clear ht ht' hC hT hbig
    go_enter Tryz.func168, Tryz.ntmps168
    go_wp2_with fail
    refine (hth.out _).mono ?_
    rintro e w1 ⟨rfl, rfl⟩
    go_wp2
    go_ret2
    exact got_none hB0.out
  case pos =>
    have hth := Lib.hid (fun W => there_at (w := W) (A := A) (c := c) ht)
    obtain ⟨hr0, hr1⟩ := Sh.there_iff.1 ht
    obtain ⟨hm1, hm2⟩ := hbig _ (List.mem_of_getElem? (Sh.nd_there ht))
    by_cases h0 : (Sh.nd H root).1.length = 0
    · by_cases h1 : (Sh.nd H root).2.length = 32
      · rw [ht, h0, h1]
        obtain ⟨i, rfl⟩ := Int.eq_ofNat_of_zero_le hr0
        exact plist_ok H i A c w hC hT hbig ht h0 h1
      · have hb : ((Sh.nd H root).2.length == 32) = false := by rw [beq_eq_false_iff_ne]; exact h1
        rw [hb]
        simp only [Bool.and_false, Bool.false_eq_true, if_false]
        have hC1 := Kd.C_alloc hC (.cells #[] 155)
        obtain ⟨ad, A0, c0, A1, c1, rfl, d0, d1, l0, g0, l1, g1⟩ := Nodes.at hC1 root hr0 hr1
        obtain ⟨i, rfl⟩ := Int.eq_ofNat_of_zero_le hr0
        simp only [Int.toNat_natCast] at d0 d1
        rw [h0] at d0
        generalize (Sh.nd H (i : Int)).2.length = n1 at *
        have h1' : ((n1 : Int) != 32) = true := by simp; omega
        clear h0 hb hC hC1 g0 g1 ht hT hbig hr0 l0 l1
        go_enter Tryz.func168, Tryz.ntmps168
        go_wp2_with fail
        refine (hth.out _).mono ?_
        rintro e w1 ⟨rfl, rfl⟩
        go_wp2
        go_ret2
        exact got_none hB0.out
    · have hb : ((Sh.nd H root).1.length == 0) = false := by rw [beq_eq_false_iff_ne]; exact h0
      rw [hb]
      simp only [Bool.false_and, Bool.and_false, Bool.false_eq_true, if_false]
      have hC1 := Kd.C_alloc hC (.cells #[] 155)
      obtain ⟨ad, A0, c0, A1, c1, rfl, d0, d1, l0, g0, l1, g1⟩ := Nodes.at hC1 root hr0 hr1
      obtain ⟨i, rfl⟩ := Int.eq_ofNat_of_zero_le hr0
      simp only [Int.toNat_natCast] at d0 d1
      generalize (Sh.nd H (i : Int)).1.length = n1 at *
      have h1' : 0 < n1 := by omega
      clear h0 hb hC hC1 g0 g1 ht hT hbig hr0 l0 l1
      go_enter Tryz.func168, Tryz.ntmps168
      go_wp2_with fail
      refine (hth.out _).mono ?_
      rintro e w1 ⟨rfl, rfl⟩
      go_wp2
      go_ret2
      exact got_none hB0.out
end Go.Proofs.YtbfedeedicnedaaGreat
end
