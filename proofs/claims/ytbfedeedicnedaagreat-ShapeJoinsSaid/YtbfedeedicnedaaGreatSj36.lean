/-
  Texts of this claim: ShCD, ShCE, ShCF, ShCG.
-/
import Derived.Test.YtbfedeedicnedaaGreatSj35
set_option linter.unusedVariables false
set_option linter.unusedSimpArgs false
set_option maxHeartbeats 8000000
set_option maxRecDepth 100000
section
namespace Go.Proofs.YtbfedeedicnedaaGreat
open Go.RowKit
open Go.Proofs.YtbfedeedicnedaaGreatW.PrintWords
theorem as_u110 (a : Array Value) (h : a.size = 110) : ∃ u : Nat → Value, a = #[u 0, u 1, u 2, u 3, u 4, u 5, u 6, u 7, u 8, u 9, u 10, u 11, u 12, u 13, u 14, u 15, u 16, u 17, u 18, u 19, u 20, u 21, u 22, u 23, u 24, u 25, u 26, u 27, u 28, u 29, u 30, u 31, u 32, u 33, u 34, u 35, u 36, u 37, u 38, u 39, u 40, u 41, u 42, u 43, u 44, u 45, u 46, u 47, u 48, u 49, u 50, u 51, u 52, u 53, u 54, u 55, u 56, u 57, u 58, u 59, u 60, u 61, u 62, u 63, u 64, u 65, u 66, u 67, u 68, u 69, u 70, u 71, u 72, u 73, u 74, u 75, u 76, u 77, u 78, u 79, u 80, u 81, u 82, u 83, u 84, u 85, u 86, u 87, u 88, u 89, u 90, u 91, u 92, u 93, u 94, u 95, u 96, u 97, u 98, u 99, u 100, u 101, u 102, u 103, u 104, u 105, u 106, u 107, u 108, u 109] := by
  refine ⟨fun n => a.toList.getD n undef, ?_⟩
  have := as_list undef a.toList
  rw [Array.length_toList, h] at this
  rw [← Array.toArray_toList (xs := a)]
  conv => lhs; rw [this]
  rfl
theorem DgAt.app {w W w1 : World} {g8 bs i9 k : Nat} {ds : List Deferred} {L : List Int} {y : Int} {v v1 : Value} (hi : DgAt w W g8 bs i9 k ds L) (hv8 : W.heap[g8]? = some (.cells #[v] 28 (0, 0))) (hvR : Kd.R kI 3 W (g8 + 1) (fun b => b < i9 ∨ bs + 3 ≤ b) v L)
    (hw : w.heap.size ≤ g8) (h0 : 0 < g8) (h8 : g8 < bs) (h9 : i9 < bs) (h98 : i9 ≠ g8) (hz : bs + 3 ≤ W.heap.size)
    (h1 : w1.ownsRow (g8 + 1) 3 1 v1 (L ++ [y]).length (nums .i64 (L ++ [y]))) (h2 : Below (g8 + 1) W w1) (h3 : W.grownBy w1 v.ownBlock) (h4 : v1.ownBlock = v.ownBlock ∨ ∃ b, v1.ownBlock = some b ∧ W.heap.size ≤ b) :
    KeepI (fun j => (j = bs ∨ j = 0) ∨ j = bs + 1 ∨ j = bs + 1 + 1) W (w1.setCell ⟨g8, 0, none⟩ v1) ∧ DgAt w (w1.setCell ⟨g8, 0, none⟩ v1) g8 bs i9 k ds (L ++ [y]) := by
  have hok := hvR.1
  have hbase : ∀ b, v.ownBlock = some b → g8 + 1 ≤ b := fun b hb => ((Kd.R_bound hvR).1 b hb).2.1
  have hne : ∀ j, (j = bs ∨ j = 0) ∨ j = bs + 1 ∨ j = bs + 1 + 1 → some j ≠ v.ownBlock ∧ j ≠ g8 ∧ j < W.heap.size := fun j hj => by
    refine ⟨fun he => ?_, by omega, by omega⟩
    have := hok j he.symm
    have := hbase j he.symm
    omega
  have h18 : w1.heap[g8]? = some (.cells #[v] 28 (0, 0)) := (h2.block _ (by omega)).trans hv8
  have hR1 : Kd.R kI 3 w1 (g8 + 1) (fun b => b < i9 ∨ bs + 3 ≤ b) v1 (L ++ [y]) := Kd.R_of_own h1 (fun b hb => by
    rcases h4 with h4 | ⟨b', hb', hge⟩
    · exact hok b (h4 ▸ hb)
    · rw [hb] at hb'
      obtain rfl := Option.some.inj hb'
      right
      omega)
  refine ⟨⟨Nat.le_trans h3.size (by simp), fun j hj => ?_⟩, ⟨⟨v1, ?_, ?_⟩, ?_, ?_, ?_⟩⟩
  · obtain ⟨a1, a2, a3⟩ := hne j hj
    rw [Below.heap_setCell _ _ _ j a2]
    exact h3.block j a3 a1
  · exact blk_set h18 0 v1
  · exact Kd.R_set hR1 h18 (fun q hq => by
      rcases List.mem_cons.1 hq with rfl | hq
      · decide
      · cases hq) 0 v1
  · rw [Below.heap_setCell _ _ _ _ h98]
    refine blk_grown hi.nine h3 (fun he => ?_)
    have := hok _ he.symm
    omega
  · exact Below.setCell (p := ⟨g8, 0, none⟩) (hi.bel.trans (h2.mono (by omega))) hw _
  · refine hi.marks.keep fun b hb => ?_
    have hb8 : b ≠ g8 := fun he => by
      rw [he, hv8] at hb
      cases hb
    rw [Below.heap_setCell _ _ _ b hb8]
    refine blk_grown hb h3 (fun he => ?_)
    obtain ⟨_, _, _, q, _, cells, hcc⟩ := (Kd.R_bound hvR).1 b he.symm
    rw [hcc] at hb
    cases hb
theorem tl_good {w W : World} {ds : List Deferred} {tmps : Array Value} {v : Value} {lo : List Int} {n : Nat} (hm : DMarks (w.heap.size + 4) ds W) (hB : Below w.heap.size w W) (hv : Kd.R kI 3 W (w.heap.size + 4) (fun _ => True) v lo) (hl : lo.length = n) (h6 : tmps.getD 10 undef = v) (h7 : tmps.getD 11 undef = .bool true) :
    LeavesInM Fence.wide 3 Tryz.prog Tryz.f186 tmps (fun e w' => (∃ v l, e = .returned (.tuple #[v, .bool true]) ∧ Ints w' w.heap.size v l ∧ l.length = n) ∧ Below w.heap.size w w') ds .returning W :=
  leaves_marks (base := w.heap.size + 4) (fun W => Below w.heap.size w W ∧ Kd.R kI 3 W (w.heap.size + 4) (fun _ => True) v lo)
    (fun W b h hb hd => ⟨below_putO h.1 b (by omega) _, Kd.R_mono (Kd.R_step (Kd.R_bound h.2) (fun k hk _ => World.putObj_heap_other (by
      rintro rfl
      obtain ⟨_, _, _, q, _, cells, hc⟩ := hk
      rw [hc] at hd
      cases hd))) (fun _ _ => trivial)⟩)
    (fun W h => ⟨_, results_tmp2 rfl _ _ _, ⟨v, lo, by rw [h6, h7], Kd.R_lower h.2 (by omega), hl⟩, h.1⟩) ds W hm ⟨hB, hv⟩
theorem tleaf_ok (H : Sh.Hp) (i m bg : Nat) (A : Option Addr) (c : Nat) (w : World) (hC : Nodes w A H) (hT : TabOk w) (hm1 : 1 ≤ m) (hm16 : m < 16) (hbg : bg ≤ 255) (ht : Sh.there H (i : Int) = true)
    (h2 : (Sh.nd H (i : Int)).2.length = 0) (h1 : (Sh.nd H (i : Int)).1.length = 1) (hv : Sh.gi (Sh.nd H (i : Int)).1 0 = m) :
    Calls Tryz.prog 186 #[.agg #[], .slice A H.length c, .int .i64 i, .int .i64 5, .int .i64 bg] w fun e w' => (∃ v l, e = .returned (.tuple #[v, .bool true]) ∧ Ints w' w.heap.size v l ∧ l.length = (Sh.ones m 4).length) ∧ Below w.heap.size w w' := by
  have hth := Lib.hid (fun W => there_at (w := W) (A := A) (c := c) ht)
  obtain ⟨hr0, hr1⟩ := Sh.there_iff.1 ht
  have hC1 := Kd.C_alloc (Kd.C_alloc hC (.cells #[] 156)) (.cells #[.int .i64 bg] 3)
  obtain ⟨ad, A0, c0, A1, c1, rfl, d0, d1, l0, g0, l1, g1⟩ := Nodes.at hC1 i hr0 hr1
  simp only [Int.toNat_natCast] at d0 d1
  rw [h1] at d0 g0
  rw [h2] at d1
  obtain ⟨adn, rfl, n0⟩ := at_zero g0 (by omega)
  rw [hv] at n0
  have n1 := (((Below.refl _ ((w.alloc (.cells #[] 156)).alloc (.cells #[.int .i64 bg] 3))).alloc (Nat.le_refl _) (.cells #[.slice (some adn) 1 c0, .slice A1 0 c1] 95)).alloc (by simp) (.cells #[.slice none 0 0] 28)).cell (World.block_lt_of_cell? _ _ n0)
  rw [n0] at n1
  have hTh := Lib.hid hT
  have hit := Lib.hid (digits_iter m 4 (w.heap.size + 1 + 1 + 1 + 1) (by omega) (by omega))
  have hdg := Lib.hid (fun W => digits_calls (m : Int) W)
  clear hC hT hC1 g0 g1 l0 l1 h2 h1 hv hr0 ht
  have hmf : ∀ (fn : Fn) (first cap : Array Value) (w : World), (Instr.makeFunc fn first cap).run Tryz.prog w = .ok (.func fn first cap) w := fun _ _ _ _ => rfl
  refine callsIn_wide.1 (callsIn_of_wp_marks (n := 3) Tryz.func186 rfl (by simp [Fence.wide]) (wpIn_wide.2 ?_))
  simp only [Tryz.ntmps186, List.size_toArray, List.length_cons, List.length_nil, Nat.reduceAdd, Nat.reduceSub, Array.replicate_succ, Array.replicate_zero, List.push_toArray, List.append_toArray, List.nil_append, List.cons_append]
  go_wp2_with fail
  refine (hth.out _).mono ?_
  rintro e w1 ⟨rfl, rfl⟩
  go_wp2_with fail
  refine (hdg.out _).mono ?_
  rintro e w2 ⟨rfl, rfl⟩
  go_wp2
  obtain ⟨W2, hW2⟩ : ∃ W2, W2 = ((((w.alloc (.cells #[] 156)).alloc (.cells #[.int .i64 bg] 3)).alloc (.cells #[.slice (some adn) 1 c0, .slice A1 0 c1] 95)).alloc (.cells #[.slice none 0 0] 28)).alloc (.cells #[.int .i64 m] 3) := ⟨_, rfl⟩
  rw [← hW2]
  have hb2 : Below w.heap.size w W2 := by
    rw [hW2]
    exact (((((Below.refl _ _).alloc (Nat.le_refl _) _).alloc (by simp) _).alloc (by simp; omega) _).alloc (by simp; omega) _).alloc (by simp; omega) _
  have hs22 : W2.heap.size = w.heap.size + 1 + 1 + 1 + 1 + 1 := by rw [hW2]; simp
  have hn9 : W2.heap[w.heap.size + 1]? = some (.cells #[.int .i64 bg] 3 (0, 0)) := by
    have := heap_alloc_new (w.alloc (.cells #[] 156)) (.cells #[.int .i64 bg] 3)
    rw [World.size_alloc] at this
    rw [hW2]
    exact blk_alloc (blk_alloc (blk_alloc this _) _) _
  have hv8 : W2.heap[w.heap.size + 1 + 1 + 1]? = some (.cells #[.slice none 0 0] 28 (0, 0)) := by
    have := heap_alloc_new (((w.alloc (.cells #[] 156)).alloc (.cells #[.int .i64 bg] 3)).alloc (.cells #[.slice (some adn) 1 c0, .slice A1 0 c1] 95)) (.cells #[.slice none 0 0] 28)
    rw [World.size_alloc, World.size_alloc, World.size_alloc] at this
    rw [hW2]
    exact blk_alloc this _
  have hnb : W2.heap[w.heap.size + 1 + 1 + 1 + 1]? = some (.cells #[.int .i64 m] 3 (0, 0)) := by
    have := heap_alloc_new ((((w.alloc (.cells #[] 156)).alloc (.cells #[.int .i64 bg] 3)).alloc (.cells #[.slice (some adn) 1 c0, .slice A1 0 c1] 95)).alloc (.cells #[.slice none 0 0] 28)) (.cells #[.int .i64 m] 3)
    rw [World.size_alloc, World.size_alloc, World.size_alloc, World.size_alloc] at this
    rw [hW2]
    exact this
  clear hW2
  have hK2 := ‹∀ (a : Act) (w_1 : World), Code.wp _ _ _ a w_1 → _›
  have hpos := (hTh.out).pos
  have hW2T : TabOk W2 := hTh.out.below hb2 hpos
  have hD0 : DgAt w W2 (w.heap.size + 1 + 1 + 1) (w.heap.size + 1 + 1 + 1 + 1) (w.heap.size + 1) bg [] (([] : List Int).map fun b => 4 * (bg : Int) + b) := ⟨⟨_, hv8, Kd.R_nil _ _ _ _ _⟩, hn9, hb2, trivial⟩
  refine wpIn_wide.1 (rf_law (lb := #[.pointer (some ⟨w.heap.size + 1 + 1 + 1 + 1, 0, none⟩)]) (gf := 174) rfl ?eg hit.out ?hps ?hWok ?hIc ?hSt (fun p W => DgAt w W (w.heap.size + 1 + 1 + 1) (w.heap.size + 1 + 1 + 1 + 1) (w.heap.size + 1) bg [] (p.map fun b => 4 * (bg : Int) + b)) (fun _ _ _ => False)
    (fun x a W => ∃ T : Array Value, a = ⟨T, []⟩ ∧ T.size = 110 ∧ T.toList.getD 13 undef = .pointer (some ⟨w.heap.size + 1 + 1 + 1, 0, none⟩) ∧ T.toList.getD 9 undef = .pointer (some ⟨w.heap.size + 1, 0, none⟩) ∧ T.toList.getD 14 undef = .int .i64 x)
    ?hIst ?hIxst ?hIp ?hIxp ?hAp ?h0 ?hassign ?hbody ?hdone ?hstop ?hfell)
  case eg => exact fun args w' => enters_of Tryz.func174 (by kernel_rfl) rfl args w'
  case hps => intro x; rfl
  case hWok =>
    intro W hb hz
    have hc := blk_cell (blk_below hnb hb) 0
    simp only [List.getElem?_toArray, List.getElem?_cons_zero] at hc
    exact ⟨hc, hW2T.below hb (by omega)⟩
  case hIc => rintro W j hz (rfl | rfl) <;> omega
  case hSt => intro W0 W W' hz hz2 hb j hj; exact hb.block j (by omega)
  case hIst => intro p W0 W W' _ hi hb; exact hi.below hb
  case hIxst => intro c p W0 W W' _ hi _; exact hi
  case hIp =>
    intro p W o hi
    rw [hs22]
    exact hi.put (by omega) (by omega) (by omega) (fun d hd => by cases hd) o
  case hIxp => intro c p W o hi; exact hi
  case hAp => intro x a W o h; exact h
  case h0 => intro W hb hz; exact hD0.below hb
  case hassign =>
    intro pre x W K hi hm hz hK
    simp only [encD]
    rw [fold_one]
    simp only [List.setIfInBounds_toArray, List.set_cons_zero, List.set_cons_succ]
    gi_wp2
    exact hK _ _ ⟨_, rfl, rfl, rfl, rfl, rfl⟩ hi (KeepI.refl _)
  case hbody =>
    rintro W0 pre x a' W hz0 hz hIc hi ⟨T, rfl, hT, h8, h9, h11⟩ hm
    obtain ⟨u, rfl⟩ := as_u110 T hT
    obtain ⟨v, hv8, hvR⟩ := hi.out
    have e8 : u 13 = .pointer (some ⟨w.heap.size + 1 + 1 + 1, 0, none⟩) := h8
    have e9 : u 9 = .pointer (some ⟨w.heap.size + 1, 0, none⟩) := h9
    have e11 : u 14 = .int .i64 x := h11
    rw [e8, e9, e11]
    clear h8 h9 h11 e8 e9 e11
    have c8 := blk_cell hv8 0
    have c9 := blk_cell hi.nine 0
    have z8 := blk_frozen hv8 0
    simp only [List.getElem?_toArray, List.getElem?_cons_zero] at c8 c9
    obtain ⟨hlen, hx0, hx255⟩ := hm
    refine wpIn_block ?_
    refine wpIn_region_round0 (fun _ _ h => h) (nd_of_all rfl) ?_
    obtain ⟨L, hL⟩ : ∃ L, L = pre.map fun b => 4 * (bg : Int) + b := ⟨_, rfl⟩
    have hll : L.length ≤ 2000 := by
      have := Sh.ones_le m 4
      rw [hL]
      simp only [List.length_map]
      omega
    rw [← hL] at hvR
    replace hL := Lib.hid hL
    obtain ⟨A6, c6, rfl⟩ := Kd.R_slice hvR
    have hown := Lib.hid (Kd.own_of_R hvR)
    have hKeep := Lib.hid (fun (v1 : Value) (w1 : World) h1 h2 h3 h4 => (show _ ∧ DgAt w _ _ _ _ bg [] ((pre ++ [x]).map fun b => 4 * (bg : Int) + b) from by
      have := DgAt.app (w1 := w1) (v1 := v1) (y := 4 * (bg : Int) + x) (hL.out ▸ hi : DgAt w W (w.heap.size + 1 + 1 + 1) (w.heap.size + 1 + 1 + 1 + 1) (w.heap.size + 1) bg [] L) hv8 hvR (by omega) (by omega) (by omega) (by omega) (by omega) (by omega) h1 h2 h3 h4
      rw [List.map_append, List.map_cons, List.map_nil, ← hL.out]
      exact this))
    have h18s := Lib.hid (fun (w1 : World) (h2 : Below (w.heap.size + 1 + 1 + 1 + 1) W w1) => (show w1.cell? ⟨w.heap.size + 1 + 1 + 1, 0, none⟩ = some (.slice A6 L.length c6) ∧ w1.frozen? ⟨w.heap.size + 1 + 1 + 1, 0, none⟩ = false from by
      have h18 : w1.heap[w.heap.size + 1 + 1 + 1]? = some (.cells #[(Value.slice A6 L.length c6)] 28 (0, 0)) := (h2.block _ (by omega)).trans hv8
      have h19 := blk_cell h18 0
      simp only [List.getElem?_toArray, List.getElem?_cons_zero] at h19
      exact ⟨h19, blk_frozen h18 0⟩))
    have hWs := Lib.hid (show w.heap.size + 1 + 1 + 1 + 1 ≤ W.heap.size by omega)
    clear hvR hi hD0 hW2T hn9 hnb hb2 hv8 hz hIc hlen n0 n1
    go_wp2_with (at_builtin; refine print_append_num (w0 := W) (w.heap.size + 1 + 1 + 1 + 1) rfl _ _ 28 3 .i64 8 rfl (by kernel_rfl) PAll.info3 (by omega) (.slice A6 L.length c6) L (4 * (bg : Int) + x) rfl rfl hown.out (Below.refl _ _) hWs.out (by omega) ?_; intro v1 w1 h1 h2 h3 h4; obtain ⟨A5, c5, rfl⟩ := Kd.R_slice (Ints.mk h1); have hKp := Lib.hid (hKeep.out _ w1 h1 h2 h3 h4); obtain ⟨q1, q2⟩ := h18s.out w1 h2; clear h1 h2 h3 h4 hKeep h18s; generalize (L ++ [4 * (bg : Int) + x]).length = N1 at *)
    exact hKp.out
  case hdone =>
    intro xs W hfull hi hd
    refine hK2 _ _ ?_
    dsimp only
    obtain ⟨v, hv8, hvR⟩ := hi.out
    have c8 := blk_cell hv8 0
    simp only [List.getElem?_toArray, List.getElem?_cons_zero] at c8
    have hfin := Lib.hid (fun (tmps : Array Value) (a6 : tmps.getD 10 undef = v) (a7 : tmps.getD 11 undef = .bool true) => (tl_good (ds := [{ target := .collected W2.heap.size, args := #[] }]) ⟨⟨W2.heap.size, rfl, by omega, hd, fun d' hd' => by cases hd'⟩, trivial⟩ hi.bel (Kd.R_mono hvR (fun _ _ => trivial)) (by rw [List.length_map, hfull]) a6 a7))
    clear hi hd hfull hD0 hW2T hn9 hnb hb2 hs22 hvR hv8 n0 n1
    go_wp2
    exact hfin.out _ rfl rfl
  case hstop => intro c pre W hi _; exact hi.elim
  case hfell => intro ch xs W hf _ _; exact hf.elim
end Go.Proofs.YtbfedeedicnedaaGreat
end
section
namespace Go.Proofs.YtbfedeedicnedaaGreat
open Go.RowKit
open Go.Proofs.YtbfedeedicnedaaGreatW.PrintWords
namespace Sh
def trF (h : Hp) (g : Nat) (kids : List Int) (begun : Int) (k : Nat) : Option (List Int) :=
  (List.range k).foldl (fun acc (d : Nat) => acc.bind fun out => if gi kids d = -1 then some out else (walkTrie h g (gi kids d) (4 * begun + d)).map fun l => out ++ l) (some [])
theorem trF_succ (h : Hp) (g : Nat) (kids : List Int) (begun : Int) (k : Nat) : trF h g kids begun (k + 1) = (trF h g kids begun k).bind fun out => if gi kids k = -1 then some out else (walkTrie h g (gi kids k) (4 * begun + k)).map fun l => out ++ l := by
  unfold trF
  rw [List.range_succ, List.foldl_append]
  rfl
theorem trF_none (h : Hp) (g : Nat) (kids : List Int) (begun : Int) {k : Nat} (hk : trF h g kids begun k = none) : ∀ j, trF h g kids begun (k + j) = none := by
  intro j
  induction j with
  | zero => exact hk
  | succ j ih => rw [← Nat.add_assoc, trF_succ, ih]; rfl
theorem walkTrie_succ (h : Hp) (g : Nat) (root begun : Int) : walkTrie h (g + 1) root begun = if there h root && (((nd h root).1.length == 0) && ((nd h root).2.length == 4)) then (trF h g (nd h root).2 begun 4).bind fun out => if out.length = 0 then none else some out else none := rfl
end Sh
def GotTr (base : Nat) (g : Nat) (w' : World) (e : Ending) (r : Option (List Int)) : Prop := ∃ v l, e = .returned (.tuple #[v, .bool r.isSome]) ∧ Ints w' base v l ∧ l.length = (r.getD []).length ∧ l.length ≤ 4 ^ (g + 1)
theorem gotT_none {w w' : World} {g : Nat} (hb : Below w.heap.size w w') : GotTr w.heap.size g w' (.returned (.tuple #[.slice none 0 0, .bool false])) none ∧ Below w.heap.size w w' :=
  ⟨⟨_, [], rfl, Kd.R_nil _ _ _ _ _, rfl, Nat.zero_le _⟩, hb⟩
theorem page_bad4 {H : Sh.Hp} {x : Int} (h : Sh.there H x = false ∨ (Sh.nd H x).2.length ≠ 0 ∨ (Sh.nd H x).1.length ≠ 1 ∨ Sh.gi (Sh.nd H x).1 0 < 1 ∨ 16 ≤ Sh.gi (Sh.nd H x).1 0) : Sh.page H x 4 = none := by
  unfold Sh.page
  rw [if_neg]
  simp only [Bool.and_eq_true, beq_iff_eq, decide_eq_true_eq]
  rintro ⟨a, b, c, d, e⟩
  rcases h with h | h | h | h | h
  · rw [h] at a; cases a
  · exact h b
  · exact h c
  · omega
  · have : ((2 ^ 4 : Nat) : Int) = 16 := by decide
    omega
theorem page_some4 {H : Sh.Hp} {x : Int} {v : Nat} (ht : Sh.there H x = true) (h2 : (Sh.nd H x).2.length = 0) (h1 : (Sh.nd H x).1.length = 1) (hv : Sh.gi (Sh.nd H x).1 0 = v) (h0 : 1 ≤ v) (h32 : v < 16) : Sh.page H x 4 = some (Sh.ones v 4) := by
  unfold Sh.page
  rw [ht, h2, h1, hv]
  rw [if_pos (by simp; omega)]
  rfl
theorem twalk0_calls (H : Sh.Hp) (root : Int) (bg : Nat) (A : Option Addr) (c : Nat) (w : World) (hC : Nodes w A H) (hT : TabOk w) (hbig : ∀ p ∈ H, p.1.length ≤ 1000000 ∧ p.2.length ≤ 1000000) (hbg : bg ≤ 255) :
    Calls Tryz.prog 186 #[.agg #[], .slice A H.length c, .int .i64 root, .int .i64 5, .int .i64 bg] w fun e w' => GotTr w.heap.size 0 w' e (Sh.walkTrie H 0 root bg) ∧ Below w.heap.size w w' := by
  have hB0 := Lib.hid (show Below w.heap.size w ((w.alloc (.cells #[] 156)).alloc (.cells #[.int .i64 bg] 3)) from ((Below.refl _ _).alloc (Nat.le_refl _) _).alloc (by simp) _)
  have hB4 := Lib.hid (fun (o1 o2 : Obj) => (show Below w.heap.size w ((((w.alloc (.cells #[] 156)).alloc (.cells #[.int .i64 bg] 3)).alloc o1).alloc o2) from (hB0.out.alloc (by simp; omega) _).alloc (by simp; omega) _))
  show Calls Tryz.prog 186 _ w fun e w' => GotTr w.heap.size 0 w' e ((Sh.page H root 4).map fun l => l.map fun d => 4 * (bg : Int) + d) ∧ Below w.heap.size w w'
  by_cases ht : Sh.there H root = true
  case neg =>
    have ht' : Sh.there H root = false := by simpa using ht
    have hth := Lib.hid (fun W => there_at (w := W) (A := A) (c := c) ht')
    rw [page_bad4 (.inl ht')]
    clear ht ht' hC hT hbig
    go_enter Tryz.func186, Tryz.ntmps186
    go_wp2_with fail
    refine (hth.out _).mono ?_
    rintro e w1 ⟨rfl, rfl⟩
    go_wp2
    go_ret2
    exact gotT_none hB0.out
  case pos =>
    have hth := Lib.hid (fun W => there_at (w := W) (A := A) (c := c) ht)
    obtain ⟨hr0, hr1⟩ := Sh.there_iff.1 ht
    obtain ⟨hm1, hm2⟩ := hbig _ (List.mem_of_getElem? (Sh.nd_there ht))
    obtain ⟨i, rfl⟩ := Int.eq_ofNat_of_zero_le hr0
    have hC1 := Kd.C_alloc (Kd.C_alloc hC (.cells #[] 156)) (.cells #[.int .i64 bg] 3)
    have hok := tleaf_ok H i (hT := hT) (A := A) (c := c) (w := w) (hC := hC) (bg := bg) (hbg := hbg) (ht := ht)
    have hpb := @page_bad4 H (i : Int)
    have hps := fun v => @page_some4 H (i : Int) v ht
    obtain ⟨ad, A0, c0, A1, c1, rfl, d0, d1, l0, g0, l1, g1⟩ := Nodes.at hC1 i hr0 hr1
    simp only [Int.toNat_natCast] at d0 d1
    obtain ⟨N1, hN1⟩ : ∃ N, N = (Sh.nd H (i : Int)).1 := ⟨_, rfl⟩
    obtain ⟨n2, hn2⟩ : ∃ N, N = (Sh.nd H (i : Int)).2.length := ⟨_, rfl⟩
    rw [← hN1, ← hn2] at hok hpb hps
    rw [← hN1] at d0 g0
    rw [← hn2] at d1
    obtain ⟨n1, hn1⟩ : ∃ n, n = N1.length := ⟨_, rfl⟩
    rw [← hn1] at d0 g0 hok hpb hps
    rw [← hN1, ← hn1] at hm1
    rw [← hn2] at hm2
    by_cases h2 : n2 = 0
    case neg =>
      rw [hpb (.inr (.inl h2))]
      have h2' : 0 < n2 := by omega
      clear h2 hpb hps hok hN1 hn2 hn1 hC hC1 g0 g1 l0 l1 ht hT hbig hr0
      go_enter Tryz.func186, Tryz.ntmps186
      go_wp2_with fail
      refine (hth.out _).mono ?_
      rintro e w1 ⟨rfl, rfl⟩
      go_wp2
      go_ret2
      exact gotT_none (hB4.out _ _)
    case pos =>
      subst h2
      by_cases h1 : n1 = 1
      case neg =>
        rw [hpb (.inr (.inr (.inl h1)))]
        have h1' : ((n1 : Int) != 1) = true := by simp; omega
        clear h1 hpb hps hok hN1 hn2 hn1 hC hC1 g0 g1 l0 l1 ht hT hbig hr0
        go_enter Tryz.func186, Tryz.ntmps186
        go_wp2_with fail
        refine (hth.out _).mono ?_
        rintro e w1 ⟨rfl, rfl⟩
        go_wp2
        go_ret2
        exact gotT_none (hB4.out _ _)
      case pos =>
        subst h1
        obtain ⟨adn, rfl, n0⟩ := at_zero g0 (by omega)
        obtain ⟨v, hv⟩ : ∃ v, v = Sh.gi N1 0 := ⟨_, rfl⟩
        rw [← hv] at n0 hpb hps hok
        by_cases hv1 : v < 1 ∨ 16 ≤ v
        · rw [hpb (by rcases hv1 with h | h; exact .inr (.inr (.inr (.inl h))); exact .inr (.inr (.inr (.inr h))))]
          have n3 := (((Below.refl _ ((w.alloc (.cells #[] 156)).alloc (.cells #[.int .i64 bg] 3))).alloc (Nat.le_refl _) (.cells #[.slice (some adn) 1 c0, .slice A1 0 c1] 95)).alloc (by simp) (.cells #[.slice none 0 0] 28)).cell (World.block_lt_of_cell? _ _ n0)
          rw [n0] at n3
          clear hpb hps hok hv hN1 hn2 hn1 hC hC1 g0 g1 l0 l1 ht hT hbig hr0
          by_cases hv2 : v < 1
          · clear hv1
            go_enter Tryz.func186, Tryz.ntmps186
            go_wp2_with fail
            refine (hth.out _).mono ?_
            rintro e w1 ⟨rfl, rfl⟩
            go_wp2
            go_ret2
            exact gotT_none (hB4.out _ _)
          · have hv3 : 16 ≤ v := by omega
            clear hv1
            go_enter Tryz.func186, Tryz.ntmps186
            go_wp2_with fail
            refine (hth.out _).mono ?_
            rintro e w1 ⟨rfl, rfl⟩
            go_wp2
            go_ret2
            exact gotT_none (hB4.out _ _)
        · obtain ⟨m, rfl⟩ := Int.eq_ofNat_of_zero_le (show 0 ≤ v by omega)
          rw [hps m rfl rfl rfl (by omega) (by omega)]
          refine (hok m (by omega) (by omega) rfl rfl rfl).mono ?_
          rintro e w' ⟨⟨v, l, rfl, hI, hl⟩, hB⟩
          have := Sh.ones_le m 4
          exact ⟨⟨v, l, rfl, hI, by rw [hl]; simp, by omega⟩, hB⟩
end Go.Proofs.YtbfedeedicnedaaGreat
end
section
namespace Go.Proofs.YtbfedeedicnedaaGreat
open Go.RowKit
open Go.Proofs.YtbfedeedicnedaaGreatW.PrintWords
theorem OutL.app {W w1 : World} {g8 : Nat} {v1 : Value} {L : List Int} (h1 : Kd.R kI 3 w1 (g8 + 1) (fun _ => True) v1 L) (h8 : ∃ v, w1.heap[g8]? = some (.cells #[v] 28 (0, 0))) : OutL (w1.setCell ⟨g8, 0, none⟩ v1) g8 (fun _ => True) L := by
 obtain ⟨v, h8⟩ := h8
 exact ⟨v1, blk_set h8 0 v1, Kd.R_set h1 h8 (fun q hq => by
   rcases List.mem_cons.1 hq with rfl | hq
   ·decide
   ·cases hq) 0 v1⟩
structure TwAt (w : World) (H : Sh.Hp) (g : Nat) (ks : List Int) (bg : Int) (k : Nat) (lo : List Int) (W : World) : Prop where
 out : OutL W (w.heap.size + 1 + 1 + 1) (fun _ => True) lo
 nine : W.heap[w.heap.size + 1]? = some (.cells #[.int .i64 bg] 3 (0, 0))
 bel : Below w.heap.size w W
 siz : w.heap.size + 1 + 1 + 1 + 1 ≤ W.heap.size
 acc : ∃ l, Sh.trF H g ks bg k = some l ∧ lo.length = l.length
 few : lo.length ≤ k * 4 ^ (g + 1)
theorem TwAt.below {w : World} {H : Sh.Hp} {g : Nat} {ks : List Int} {bg : Int} {k : Nat} {lo : List Int} {W W' : World} (h : TwAt w H g ks bg k lo W) (hb : Below W.heap.size W W') : TwAt w H g ks bg k lo W' :=
 ⟨h.out.below hb, blk_below h.nine hb, h.bel.trans (hb.mono h.bel.size), Nat.le_trans h.siz hb.size, h.acc, h.few⟩
theorem TwAt.skip {w : World} {H : Sh.Hp} {g : Nat} {ks : List Int} {bg : Int} {k : Nat} {lo : List Int} {W : World} (h : TwAt w H g ks bg k lo W) (hx : Sh.gi ks k = -1) : TwAt w H g ks bg (k + 1) lo W := by
 obtain ⟨l, hl, hn⟩ := h.acc
 exact ⟨h.out, h.nine, h.bel, h.siz, ⟨l, by rw [Sh.trF_succ, hl]; simp [hx], hn⟩, by have := h.few; rw [Nat.add_mul]; omega⟩
theorem TwAt.more {w : World} {H : Sh.Hp} {g : Nat} {ks : List Int} {bg : Int} {k : Nat} {lo l' l2 : List Int} {W w1 : World} {v1 : Value} (h : TwAt w H g ks bg k lo W) (hx : Sh.gi ks k ≠ -1) (hr : Sh.walkTrie H g (Sh.gi ks k) (4 * bg + k) = some l') (hl2 : l2.length = l'.length) (hl4 : l2.length ≤ 4 ^ (g + 1))
  (h1 : Kd.R kI 3 w1 (w.heap.size + 1 + 1 + 1 + 1) (fun _ => True) v1 (lo ++ l2)) (hb : Below (w.heap.size + 1 + 1 + 1 + 1) W w1) : TwAt w H g ks bg (k + 1) (lo ++ l2) (w1.setCell ⟨w.heap.size + 1 + 1 + 1, 0, none⟩ v1) := by
 obtain ⟨l, hl, hn⟩ := h.acc
 obtain ⟨v, hv, _⟩ := h.out
 refine ⟨OutL.app (W := W) h1 ⟨v, (hb.block _ (by omega)).trans hv⟩, ?_, ?_, ?_, ⟨l ++ l', ?_, by simp [hn, hl2]⟩, ?_⟩
 ·rw [Below.heap_setCell _ _ _ _ (by show w.heap.size + 1 ≠ w.heap.size + 1 + 1 + 1; omega)]
  exact (hb.block _ (by omega)).trans h.nine
 ·exact Below.setCell (p := ⟨w.heap.size + 1 + 1 + 1, 0, none⟩) (h.bel.trans (hb.mono (by omega))) (by show w.heap.size ≤ w.heap.size + 1 + 1 + 1; omega) _
 ·have h1 := hb.size
  have h2 := h.siz
  simp
  omega
 ·rw [Sh.trF_succ, hl]
  simp only [Option.bind_some]
  rw [if_neg hx, hr]
  rfl
 ·have := h.few
  rw [List.length_append, Nat.add_mul]
  omega
theorem trie_bad {H : Sh.Hp} {g : Nat} {root bg : Int} (h : Sh.there H root = false ∨ (Sh.nd H root).1.length ≠ 0 ∨ (Sh.nd H root).2.length ≠ 4) : Sh.walkTrie H (g + 1) root bg = none := by
 rw [Sh.walkTrie_succ, if_neg]
 simp only [Bool.and_eq_true, beq_iff_eq]
 rintro ⟨a, b, c⟩
 rcases h with h | h | h
 ·rw [h] at a; cases a
 ·exact h b
 ·exact h c
theorem pow_step {g : Nat} (hg : g + 1 ≤ 4) {bg : Int} {k : Nat} (h0 : 0 ≤ bg) (h : bg < ((4 ^ (4 - (g + 1)) : Nat) : Int)) (hk : k < 4) : 0 ≤ 4 * bg + k ∧ 4 * bg + k < ((4 ^ (4 - g) : Nat) : Int) := by
 have e : (4 : Nat) ^ (4 - g) = 4 * 4 ^ (4 - (g + 1)) := by rw [show 4 - g = (4 - (g + 1)) + 1 by omega, Nat.pow_succ, Nat.mul_comm]
 rw [e]
 omega
theorem pow_most (g : Nat) : (4 : Nat) ^ (4 - g) ≤ 256 := by
 have : (4 : Nat) ^ (4 - g) ≤ 4 ^ 4 := Nat.pow_le_pow_right (by omega) (by omega)
 simpa using this
theorem twalkS_calls (H : Sh.Hp) (hbig : ∀ p ∈ H, p.1.length ≤ 1000000 ∧ p.2.length ≤ 1000000) (g : Nat) (hg : g + 1 ≤ 4)
  (ih : ∀ (root lv bg : Int) (A : Option Addr) (c : Nat) (w : World), Nodes w A H → TabOk w → lv = 5 - g → 0 ≤ bg → bg < ((4 ^ (4 - g) : Nat) : Int) → Calls Tryz.prog 186 #[.agg #[], .slice A H.length c, .int .i64 root, .int .i64 lv, .int .i64 bg] w fun e w' => GotTr w.heap.size g w' e (Sh.walkTrie H g root bg) ∧ Below w.heap.size w w')
  (root lv bg : Int) (A : Option Addr) (c : Nat) (w : World) (hC : Nodes w A H) (hT : TabOk w) (hlv : lv = 5 - (g + 1 : Nat)) (hb0 : 0 ≤ bg) (hb1 : bg < ((4 ^ (4 - (g + 1)) : Nat) : Int)) :
  Calls Tryz.prog 186 #[.agg #[], .slice A H.length c, .int .i64 root, .int .i64 lv, .int .i64 bg] w fun e w' => GotTr w.heap.size (g + 1) w' e (Sh.walkTrie H (g + 1) root bg) ∧ Below w.heap.size w w' := by
 have hB0 := Lib.hid (show Below w.heap.size w ((w.alloc (.cells #[] 156)).alloc (.cells #[.int .i64 bg] 3)) from ((Below.refl _ _).alloc (Nat.le_refl _) _).alloc (by simp) _)
 have hB4 := Lib.hid (fun (o1 o2 : Obj) => (show Below w.heap.size w ((((w.alloc (.cells #[] 156)).alloc (.cells #[.int .i64 bg] 3)).alloc o1).alloc o2) from (hB0.out.alloc (by simp; omega) _).alloc (by simp; omega) _))
 have hlv5 : (lv == 5) = false := by rw [beq_eq_false_iff_ne]; omega
 have hlv1 : 1 ≤ lv := by omega
 have hlv4 : lv ≤ 4 := by omega
 have hbm : bg ≤ 256 := by have := pow_most (g + 1); omega
 replace hlv := Lib.hid hlv
 replace hb1 := Lib.hid hb1
 by_cases ht : Sh.there H root = true
 case neg =>
  have ht' : Sh.there H root = false := by simpa using ht
  have hth := Lib.hid (fun W => there_at (w := W) (A := A) (c := c) ht')
  rw [trie_bad (.inl ht')]
  clear ht ht' hC hT hbig ih
  go_enter Tryz.func186, Tryz.ntmps186
  go_wp2_with fail
  refine (hth.out _).mono ?_
  rintro e w1 ⟨rfl, rfl⟩
  go_wp2
  go_ret2
  exact gotT_none hB0.out
 case pos =>
  have hth := Lib.hid (fun W => there_at (w := W) (A := A) (c := c) ht)
  obtain ⟨hr0, hr1⟩ := Sh.there_iff.1 ht
  obtain ⟨hm1, hm2⟩ := hbig _ (List.mem_of_getElem? (Sh.nd_there ht))
  obtain ⟨i, rfl⟩ := Int.eq_ofNat_of_zero_le hr0
  have hC1 := Kd.C_alloc (Kd.C_alloc hC (.cells #[] 156)) (.cells #[.int .i64 bg] 3)
  have hpb := @trie_bad H g (i : Int) bg
  have hps := Sh.walkTrie_succ H g (i : Int) bg
  rw [ht] at hps
  obtain ⟨ad, A0, c0, A1, c1, rfl, d0, d1, l0, g0, l1, g1⟩ := Nodes.at hC1 i hr0 hr1
  simp only [Int.toNat_natCast] at d0 d1
  obtain ⟨ks, hks⟩ : ∃ N, N = (Sh.nd H (i : Int)).2 := ⟨_, rfl⟩
  obtain ⟨n1, hn1⟩ : ∃ N, N = (Sh.nd H (i : Int)).1.length := ⟨_, rfl⟩
  rw [← hks, ← hn1] at hpb hps
  rw [← hks] at d1 g1
  rw [← hn1] at d0
  obtain ⟨n2, hn2⟩ : ∃ n, n = ks.length := ⟨_, rfl⟩
  rw [← hn2] at d1 g1 hpb hps
  rw [← hks, ← hn2] at hm2
  rw [← hn1] at hm1
  by_cases h1 : n1 = 0
  case neg =>
   rw [hpb (.inr (.inl h1))]
   have h1' : 0 < n1 := by omega
   clear h1 hpb hps hks hn2 hn1 hC hC1 g0 g1 l0 l1 ht hT hbig hr0 ih
   go_enter Tryz.func186, Tryz.ntmps186
   go_wp2_with fail
   refine (hth.out _).mono ?_
   rintro e w1 ⟨rfl, rfl⟩
   go_wp2
   go_ret2
   exact gotT_none (hB4.out _ _)
  case pos =>
   subst h1
   by_cases h2 : n2 = 4
   case neg =>
    rw [hpb (.inr (.inr h2))]
    have h2' : ((n2 : Int) != 4) = true := by simp; omega
    clear h2 hpb hps hks hn2 hn1 hC hC1 g0 g1 l0 l1 ht hT hbig hr0 ih
    go_enter Tryz.func186, Tryz.ntmps186
    go_wp2_with fail
    refine (hth.out _).mono ?_
    rintro e w1 ⟨rfl, rfl⟩
    go_wp2
    go_ret2
    exact gotT_none (hB4.out _ _)
   case pos =>
    subst h2
    rw [show (true && ((0 : Nat) == 0 && (4 : Nat) == 4)) = true from rfl, if_pos rfl] at hps
    rw [hps]
    have hn2h := Lib.hid hn2
    have hg1 := Lib.hid g1
    have hih := Lib.hid ih
    have hCh := Lib.hid hC
    have hTh := Lib.hid hT
    have hpw := Lib.hid (fun (k : Nat) (hk : k < 4) => pow_step hg (k := k) hb0 hb1.out hk)
    have hp4 := Lib.hid (show (4 : Nat) ^ (g + 1) ≤ 256 by
     have : (4 : Nat) ^ (g + 1) ≤ 4 ^ 4 := Nat.pow_le_pow_right (by omega) hg
     simpa using this)
    have hl5 := Lib.hid (show lv + 1 = 5 - (g : Int) by have := hlv.out; omega)
    obtain ⟨R, hR⟩ : ∃ R, R = ((Sh.trF H g ks bg 4).bind fun out => if out.length = 0 then none else some out) := ⟨_, rfl⟩
    rw [← hR]
    have hRh := Lib.hid hR
    have hat0 := Lib.hid (show TwAt w H g ks bg 0 [] ((((w.alloc (.cells #[] 156)).alloc (.cells #[.int .i64 bg] 3)).alloc (.cells #[.slice A0 0 c0, .slice A1 4 c1] 95)).alloc (.cells #[.slice none 0 0] 28)) from by
     refine ⟨⟨.slice none 0 0, ?_, Kd.R_nil _ _ _ _ _⟩, ?_, hB4.out _ _, by simp, ⟨[], rfl, rfl⟩, Nat.zero_le _⟩
     ·have := heap_alloc_new (((w.alloc (.cells #[] 156)).alloc (.cells #[.int .i64 bg] 3)).alloc (.cells #[.slice A0 0 c0, .slice A1 4 c1] 95)) (.cells #[.slice none 0 0] 28)
      rw [World.size_alloc, World.size_alloc, World.size_alloc] at this
      exact this
     ·have := heap_alloc_new (w.alloc (.cells #[] 156)) (.cells #[.int .i64 bg] 3)
      rw [World.size_alloc] at this
      exact blk_alloc (blk_alloc this _) _)
    have hk1 := Lib.hid (show Below ((w.alloc (.cells #[] 156)).alloc (.cells #[.int .i64 bg] 3)).heap.size ((w.alloc (.cells #[] 156)).alloc (.cells #[.int .i64 bg] 3)) ((((w.alloc (.cells #[] 156)).alloc (.cells #[.int .i64 bg] 3)).alloc (.cells #[.slice A0 0 c0, .slice A1 4 c1] 95)).alloc (.cells #[.slice none 0 0] 28)) from ((Below.refl _ _).alloc (Nat.le_refl _) _).alloc (by simp) _)
    clear hR hpb hps hks hn2 hn1 hC hC1 g0 g1 l0 l1 ht hT hbig hr0 ih hg
    go_enter Tryz.func186, Tryz.ntmps186
    go_wp2_with fail
    refine (hth.out _).mono ?_
    rintro e w1 ⟨rfl, rfl⟩
    go_wp2
    clear d0 d1 hr1 hm1 hm2
    go_loopg [80] 4 (fun gg v80 wr => ∃ (k : Nat) (lo : List Int), v80 = .int .i64 k ∧ k ≤ 4 ∧ Hid (gg + k = 4) ∧ Hid (TwAt w H g ks bg k lo wr) ∧ Hid (Below ((w.alloc (.cells #[] 156)).alloc (.cells #[.int .i64 bg] 3)).heap.size ((w.alloc (.cells #[] 156)).alloc (.cells #[.int .i64 bg] 3)) wr))
    case atStart => exact ⟨0, [], rfl, by omega, Lib.hid rfl, hat0, hk1⟩
    case round =>
     obtain ⟨k, lo, rfl, hk, hgk, hat, hkB⟩ := hrel
     clear hat0 hk1
     obtain ⟨v, hv13, hvR⟩ := hat.out.out
     have c13 := blk_cell hv13 0
     have z13 := blk_frozen hv13 0
     have c9 := blk_cell hat.out.nine 0
     simp only [List.getElem?_toArray, List.getElem?_cons_zero] at c13 c9
     replace hv13 := Lib.hid hv13
     replace hvR := Lib.hid hvR
     by_cases hlt : k < 4
     ·obtain ⟨ad1, rfl, e0⟩ := at_int (Kd.C_below hg1.out hkB.out) k (by omega) (by omega)
      rw [Int.toNat_natCast] at e0
      obtain ⟨x, hx⟩ : ∃ x, x = Sh.gi ks k := ⟨_, rfl⟩
      rw [← hx] at e0
      replace hx := Lib.hid hx
      by_cases hx1 : x = -1
      ·have hat2 := Lib.hid (hat.out.skip (by rw [← hx.out]; exact hx1))
       subst hx1
       go_wp2
       go_roundg (4 - (k + 1))
       case measure => have := hgk.out; omega
       case rel => exact ⟨k + 1, lo, by go_num, by omega, Lib.hid (by omega), hat2, hkB⟩
      ·have hxb : (x == -1) = false := by rw [beq_eq_false_iff_ne]; exact hx1
       obtain ⟨r, hr⟩ : ∃ r, r = Sh.walkTrie H g x (4 * bg + k) := ⟨_, rfl⟩
       have hcl := Lib.hid (hih.out x (lv + 1) (4 * bg + k) (some ad) c wr (Kd.C_below hCh.out hat.out.bel) (hTh.out.below hat.out.bel hTh.out.pos) hl5.out (hpw.out k hlt).1 (hpw.out k hlt).2)
       rw [← hr] at hcl
       replace hr := Lib.hid hr
       replace hx1 := Lib.hid hx1
       go_wp2_with fail
       refine (hcl.out).mono ?_
       rintro e w2 ⟨⟨v2, l2, rfl, hI2, hl2, hf2⟩, hb2⟩
       clear hcl
       cases r with
       | none =>
        have hRn := Lib.hid (show R = none from by
         have h1 : Sh.trF H g ks bg (k + 1) = none := by
          obtain ⟨l, hl, _⟩ := hat.out.acc
          rw [Sh.trF_succ, hl]
          simp only [Option.bind_some]
          rw [← hx.out, if_neg hx1.out, ← hr.out]
          rfl
         have h2 := Sh.trF_none H g ks bg h1 (4 - (k + 1))
         rw [show k + 1 + (4 - (k + 1)) = 4 by omega] at h2
         rw [hRh.out, h2]
         rfl)
        have hbf := Lib.hid (hat.out.bel.trans (hb2.mono hat.out.bel.size))
        clear hb2 hI2 hl2 hf2
        go_wp2
        go_ret2
        rw [hRn.out]
        exact gotT_none hbf.out
       | some l' =>
        have hat2 := Lib.hid (hat.out.below hb2)
        have hkB2 := Lib.hid (hkB.out.trans (hb2.mono hkB.out.size))
        obtain ⟨A7, c7, rfl, hc7, hC7⟩ := Kd.R_reads hI2
        have hl2h := Lib.hid (show l2.length = l'.length from hl2)
        have hv13b := Lib.hid (blk_below hv13.out hb2)
        have d13 := blk_cell hv13b.out 0
        have y13 := blk_frozen hv13b.out 0
        simp only [List.getElem?_toArray, List.getElem?_cons_zero] at d13
        have hvR2 := Lib.hid (Kd.R_below hvR.out hb2)
        have hf2h := Lib.hid hf2
        have hC7h := Lib.hid hC7
        have hs13 := Lib.hid hat2.out.siz
        have hfl := Lib.hid (show lo.length + l2.length ≤ 1000000 by
         have := hat.out.few
         have := hp4.out
         have : k * 4 ^ (g + 1) ≤ 4 * 256 := Nat.mul_le_mul (by omega) (by omega)
         omega)
        have hmore := Lib.hid (fun (v1 : Value) (w1 : World) (h1 : Kd.R kI 3 w1 (w.heap.size + 1 + 1 + 1 + 1) (fun _ => True) v1 (lo ++ l2)) (hb : Below (w.heap.size + 1 + 1 + 1 + 1) w2 w1) => hat2.out.more (by rw [← hx.out]; exact hx1.out) (by rw [← hx.out]; exact hr.out.symm) hl2h.out hf2h.out h1 hb)
        have hst := Lib.hid (fun (w1 : World) (hb : Below (w.heap.size + 1 + 1 + 1 + 1) w2 w1) => (show w1.cell? ⟨w.heap.size + 1 + 1 + 1, 0, none⟩ = some v ∧ w1.frozen? ⟨w.heap.size + 1 + 1 + 1, 0, none⟩ = false from by
         have h18 := (hb.block (w.heap.size + 1 + 1 + 1) (by omega)).trans hv13b.out
         have h19 := blk_cell h18 0
         simp only [List.getElem?_toArray, List.getElem?_cons_zero] at h19
         exact ⟨h19, blk_frozen h18 0⟩))
        have hkst := Lib.hid (fun (v1 : Value) (w1 : World) (hb : Below (w.heap.size + 1 + 1 + 1 + 1) w2 w1) => (show Below ((w.alloc (.cells #[] 156)).alloc (.cells #[.int .i64 bg] 3)).heap.size ((w.alloc (.cells #[] 156)).alloc (.cells #[.int .i64 bg] 3)) (w1.setCell ⟨w.heap.size + 1 + 1 + 1, 0, none⟩ v1) from
         Below.setCell (p := ⟨w.heap.size + 1 + 1 + 1, 0, none⟩) (hkB2.out.trans (hb.mono (by simp))) (by simp) _))
        obtain ⟨A6, c6, rfl⟩ := Kd.R_slice hvR2.out
        clear hb2 hI2 hl2 hf2 hC7 c13 z13 c9 e0
        obtain ⟨n7, hn7⟩ : ∃ n, n = l2.length := ⟨_, rfl⟩
        obtain ⟨n6, hn6⟩ : ∃ n, n = lo.length := ⟨_, rfl⟩
        rw [← hn7] at hC7h hc7 ⊢
        rw [← hn6] at hvR2 d13 hst
        rw [← hn7] at hfl
        replace hn6 := Lib.hid hn6
        replace hn7 := Lib.hid hn7
        go_wp2_with (at_builtin; refine app_all (w0 := w2) (w.heap.size + 1 + 1 + 1 + 1) rfl _ _ rfl (.slice A6 n6 c6) lo l2 A7 n7 c7 rfl rfl hvR2.out hC7h.out (Below.refl _ _) hs13.out hfl.out ?_; intro v1 w1 h1 h2 h3; obtain ⟨A5, c5, rfl⟩ := Kd.R_slice h1; have hmo := Lib.hid (hmore.out _ w1 h1 h2); have hks1 := Lib.hid (hkst.out (.slice A5 (lo ++ l2).length c5) w1 h2); obtain ⟨j1, j2⟩ := hst.out w1 h2; clear h1 h2 h3 hmore hkst hst; generalize (lo ++ l2).length = N1 at *)
        go_roundg (4 - (k + 1))
        case measure => have := hgk.out; omega
        case rel => exact ⟨k + 1, lo ++ l2, by go_num, by omega, Lib.hid (by omega), hmo, hks1⟩
     ·obtain rfl : k = 4 := by omega
      obtain ⟨l, hl, hln⟩ := hat.out.acc
      have hRl := Lib.hid (show R = if l.length = 0 then none else some l by rw [hRh.out, hl]; rfl)
      have hbf := Lib.hid hat.out.bel
      have hfew := Lib.hid (show lo.length ≤ 4 ^ (g + 1 + 1) by rw [Nat.pow_succ _ (g + 1), Nat.mul_comm]; exact hat.out.few)
      replace hln := Lib.hid hln
      obtain ⟨A6, c6, rfl⟩ := Kd.R_slice hvR.out
      obtain ⟨n6, hn6⟩ : ∃ n, n = lo.length := ⟨_, rfl⟩
      rw [← hn6] at hvR c13
      replace hn6 := Lib.hid hn6
      clear c9 hat hl hkB
      by_cases h0 : n6 = 0
      ·subst h0
       have hRn := Lib.hid (show R = none by rw [hRl.out, if_pos (by rw [← hln.out, ← hn6.out])])
       go_wp2
       go_quiet (fail)
       go_wp2
       go_ret2
       rw [hRn.out]
       exact ⟨⟨_, [], rfl, by have := hvR.out; rw [show lo = [] from List.eq_nil_of_length_eq_zero hn6.out.symm] at this; exact Kd.R_below (Kd.R_lower this (by omega)) (by first | exact (Below.refl _ _).drew | exact pw_below_drewN (Below.refl _ _) _), rfl, Nat.zero_le _⟩, by first | exact hbf.out.drew | exact pw_below_drewN hbf.out _⟩
      ·have h0' : 0 < n6 := by omega
       have hRn := Lib.hid (show R = some l by rw [hRl.out, if_neg (by rw [← hln.out, ← hn6.out]; exact h0)])
       clear h0
       go_wp2
       go_quiet (fail)
       go_wp2
       go_ret2
       rw [hRn.out]
       exact ⟨⟨_, lo, rfl, Kd.R_below (Kd.R_lower hvR.out (by omega)) (by first | exact (Below.refl _ _).drew | exact pw_below_drewN (Below.refl _ _) _), hln.out, hfew.out⟩, by first | exact hbf.out.drew | exact pw_below_drewN hbf.out _⟩
end Go.Proofs.YtbfedeedicnedaaGreat
end
section
namespace Go.Proofs.YtbfedeedicnedaaGreat
open Go.RowKit
open Go.Proofs.YtbfedeedicnedaaGreatW.PrintWords
theorem twalk_all (H : Sh.Hp) (hbig : ∀ p ∈ H, p.1.length ≤ 1000000 ∧ p.2.length ≤ 1000000) : ∀ (g : Nat), g ≤ 4 → ∀ (root lv bg : Int) (A : Option Addr) (c : Nat) (w : World), Nodes w A H → TabOk w → lv = 5 - g → 0 ≤ bg → bg < ((4 ^ (4 - g) : Nat) : Int) →
    Calls Tryz.prog 186 #[.agg #[], .slice A H.length c, .int .i64 root, .int .i64 lv, .int .i64 bg] w fun e w' => GotTr w.heap.size g w' e (Sh.walkTrie H g root bg) ∧ Below w.heap.size w w'
  | 0, _, root, lv, bg, A, c, w, hC, hT, hlv, h0, h1 => by
    obtain ⟨b, rfl⟩ := Int.eq_ofNat_of_zero_le h0
    obtain rfl : lv = 5 := by rw [hlv]; rfl
    have e : (4 ^ (4 - 0) : Nat) = 256 := by decide
    rw [e] at h1
    exact twalk0_calls H root b A c w hC hT hbig (by omega)
  | g + 1, hg, root, lv, bg, A, c, w, hC, hT, hlv, h0, h1 => twalkS_calls H hbig g hg (twalk_all H hbig g (by omega)) root lv bg A c w hC hT hlv h0 h1
theorem trlist_calls (H : Sh.Hp) (root : Int) (A : Option Addr) (c : Nat) (w : World) (hC : Nodes w A H) (hT : TabOk w) (hbig : ∀ p ∈ H, p.1.length ≤ 1000000 ∧ p.2.length ≤ 1000000) :
    Calls Tryz.prog 181 #[.agg #[], .slice A H.length c, .int .i64 root] w fun e w' => GotX False w.heap.size w' e (Sh.listTrie H root) ∧ Below w.heap.size w w' := by
  have hB0 := Lib.hid (show Below w.heap.size w (w.alloc (.cells #[] 156)) from (Below.refl _ _).alloc (Nat.le_refl _) _)
  unfold Sh.listTrie
  by_cases hr : root = -1
  · subst hr
    rw [if_pos rfl]
    clear hC hT hbig
    go_enter Tryz.func181, Tryz.ntmps181
    go_wp2
    go_ret2
    exact ⟨⟨.slice none 0 0, [], rfl, Kd.R_nil _ _ _ _ _, rfl, fun h => h.elim⟩, hB0.out⟩
  · rw [if_neg hr]
    have hrb : (root == -1) = false := by rw [beq_eq_false_iff_ne]; exact hr
    have hcl := Lib.hid (twalk_all H hbig 4 (Nat.le_refl _) root 1 0 A c (w.alloc (.cells #[] 156)) (Kd.C_alloc hC _) (hT.below hB0.out hT.pos) rfl (by omega) (by decide))
    have hs := Lib.hid (show w.heap.size ≤ (w.alloc (.cells #[] 156)).heap.size by rw [World.size_alloc]; omega)
    obtain ⟨r, hr2⟩ : ∃ r, r = Sh.walkTrie H 4 root 0 := ⟨_, rfl⟩
    rw [← hr2] at hcl ⊢
    clear hC hT hbig hr hr2
    go_enter Tryz.func181, Tryz.ntmps181
    go_wp2_with fail
    refine (hcl.out).mono ?_
    rintro e w1 ⟨⟨v, l, rfl, ho, hl, _⟩, hb⟩
    have ho1 := Lib.hid (Kd.R_lower ho hs.out)
    have hb1 := Lib.hid (Below.trans hB0.out (hb.mono hs.out))
    have hlh := Lib.hid hl
    clear ho hb hl
    go_wp2
    go_ret2
    exact ⟨⟨_, l, rfl, ho1.out, hlh.out, fun h => h.elim⟩, hb1.out⟩
end Go.Proofs.YtbfedeedicnedaaGreat
end
