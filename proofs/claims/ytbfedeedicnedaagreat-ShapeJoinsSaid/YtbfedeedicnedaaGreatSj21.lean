/-
  Texts of this claim: ShAD, ShM.
-/
import Derived.Test.YtbfedeedicnedaaGreatSj18
import Derived.Test.YtbfedeedicnedaaGreatSj20
set_option linter.unusedVariables false
set_option linter.unusedSimpArgs false
set_option maxHeartbeats 8000000
set_option maxRecDepth 100000
section
namespace Go.Proofs.YtbfedeedicnedaaGreat
open Go.RowKit
open Go.Proofs.YtbfedeedicnedaaGreatW.PrintWords
namespace Sh
def wordP (ws : List Nat) (x : Nat) : List Nat := ws.set (x / 32) (ws.getD (x / 32) 0 ||| 2 ^ (x % 32))
def wordsP (l : List Int) : List Nat := l.foldl (fun ws x => wordP ws x.toNat) (List.replicate 32 0)
def pageP : Nat → Hp → List Int → List Nat → Hp × List Int
  | _, H, ks, [] => (H, ks)
  | i, H, ks, w :: ws => if w = 0 then pageP (i + 1) H ks ws else pageP (i + 1) (H ++ [([(w : Int)], [])]) (ks.set i H.length) ws
def layP (H : Hp) (l : List Int) : Hp × Int :=
  ((pageP 0 H (List.replicate 32 (-1)) (wordsP l)).1 ++ [([], (pageP 0 H (List.replicate 32 (-1)) (wordsP l)).2)], (pageP 0 H (List.replicate 32 (-1)) (wordsP l)).1.length)
theorem words_at (l : List Int) (k : Nat) (h : k < l.length) : wordsP (l.take (k + 1)) = wordP (wordsP (l.take k)) (gi l k).toNat := by
  unfold wordsP
  rw [List.take_succ_eq_append_getElem h, List.foldl_append]
  unfold gi
  rw [List.getD_eq_getElem?_getD, List.getElem?_eq_getElem h]
  rfl
theorem wordP_len (ws : List Nat) (x : Nat) : (wordP ws x).length = ws.length := by unfold wordP; rw [List.length_set]
theorem wordP_lt (ws : List Nat) (x : Nat) (h : ∀ w ∈ ws, w < 2 ^ 32) : ∀ w ∈ wordP ws x, w < 2 ^ 32 := by
  intro w hw
  unfold wordP at hw
  rcases List.mem_or_eq_of_mem_set hw with h1 | h1
  · exact h w h1
  · rw [h1]
    refine Nat.or_lt_two_pow ?_ (Nat.pow_lt_pow_right (by omega) (by omega))
    rw [List.getD_eq_getElem?_getD]
    rcases hq : ws[x / 32]? with _ | q
    · exact Nat.two_pow_pos 32
    · exact h q (List.mem_of_getElem? hq)
theorem words_ok (l : List Int) : (wordsP l).length = 32 ∧ ∀ w ∈ wordsP l, w < 2 ^ 32 := by
  unfold wordsP
  suffices h : ∀ (l : List Int) (ws : List Nat), ws.length = 32 ∧ (∀ w ∈ ws, w < 2 ^ 32) → (l.foldl (fun ws x => wordP ws x.toNat) ws).length = 32 ∧ ∀ w ∈ l.foldl (fun ws x => wordP ws x.toNat) ws, w < 2 ^ 32 from
    h l _ ⟨by simp, fun w hw => by rw [List.eq_of_mem_replicate hw]; exact Nat.two_pow_pos 32⟩
  intro l
  induction l with
  | nil => intro ws h; exact h
  | cons x l ih => intro ws h; exact ih _ ⟨by rw [wordP_len]; exact h.1, wordP_lt ws _ h.2⟩
end Sh
def wordCells (ws : List Nat) : Array Value := (ws.map fun (w : Nat) => Value.int .i64 (w : Int)).toArray
theorem wordCells_get (ws : List Nat) (j : Nat) (h : j < ws.length) : (wordCells ws)[j]? = some (.int .i64 (ws.getD j 0 : Nat)) := by
  unfold wordCells
  simp [List.getD_eq_getElem?_getD, List.getElem?_eq_getElem h]
theorem wordCells_set (ws : List Nat) (j v : Nat) : (wordCells ws).setIfInBounds j (.int .i64 (v : Int)) = wordCells (ws.set j v) := by
  unfold wordCells
  simp [List.map_set]
theorem HeapOk.far {w : World} {base hb g : Nat} {H : Sh.Hp} {ok : Nat → Prop} {cs : Array Value} (h : HeapOk w base hb H ok) (hg : w.heap[g]? = some (.cells cs 3 (0, 0))) (hok : ∀ k, ok k → k ≠ g) (j : Nat) (u : Value) : HeapOk (w.setCell ⟨g, j, none⟩ u) base hb H ok := by
  obtain ⟨h0, v, hv, hr⟩ := h
  have hne : hb ≠ g := fun e => by rw [e, hg] at hv; simp at hv
  exact ⟨h0, v, blk_far hv hne u, Kd.R_far hr hok u⟩
theorem ints_cell {w : World} {g : Nat} {l : List Int} (h : w.heap[g]? = some (.cells (l.map fun (x : Int) => Value.int .i64 x).toArray 3 (0, 0))) (i : Nat) (hi : i < l.length) : w.cell? ⟨g, i, none⟩ = some (.int .i64 (Sh.gi l i)) := by
  rw [blk_cell h]
  unfold Sh.gi
  simp [List.getD_eq_getElem?_getD, List.getElem?_eq_getElem hi]
theorem ints_set {w : World} {g : Nat} {l : List Int} (h : w.heap[g]? = some (.cells (l.map fun (x : Int) => Value.int .i64 x).toArray 3 (0, 0))) (i : Nat) (x : Int) : (w.setCell ⟨g, i, none⟩ (.int .i64 x)).heap[g]? = some (.cells ((l.set i x).map fun (x : Int) => Value.int .i64 x).toArray 3 (0, 0)) := by
  rw [blk_set h]
  congr 2
  simp [List.map_set]
theorem pageP_at (i : Nat) (H : Sh.Hp) (ks : List Int) (ws : List Nat) (h : i < ws.length) : Sh.pageP i H ks (ws.drop i) = if ws.getD i 0 = 0 then Sh.pageP (i + 1) H ks (ws.drop (i + 1)) else Sh.pageP (i + 1) (H ++ [([((ws.getD i 0 : Nat) : Int)], [])]) (ks.set i H.length) (ws.drop (i + 1)) := by
  rw [List.drop_eq_getElem_cons h, List.getD_eq_getElem?_getD, List.getElem?_eq_getElem h]
  rfl
theorem index_words {ws : List Nat} (hl : ws.length = 32) (i : Nat) (hi : i < 32) (W : World) : (Instr.index 197 (.agg (wordCells ws)) (.int .i64 i)).run Tryz.prog W = .ok (.int .i64 (ws.getD i 0 : Nat)) W := by
  have hg := wordCells_get ws i (by omega)
  have h1 : ¬ ((i : Int) < 0 ∨ 32 ≤ (i : Int)) := by omega
  simp [Instr.index, run_underlying Tryz.underlying197, asIntOf, go_sem]
  rw [if_pos hi, hg, List.getD_eq_getElem?_getD]
  rfl
theorem ints_row {w : World} {base g n : Nat} {l : List Int} (h : w.heap[g]? = some (.cells (l.map fun (x : Int) => Value.int .i64 x).toArray 3 (0, 0))) (hb : base ≤ g) (hn : l.length = n) (hs : n ≤ 1000000) : Ints w base (.slice (some ⟨g, 0, none⟩) n n) l := by
  subst hn
  refine Ints.mk ⟨by simp [nums], .inr ⟨g, l.length, _, rfl, hb, h, Nat.le_refl _, by simp [maxLen]; omega, by simp, ?_⟩⟩
  rw [Nat.mul_one, List.toList_toArray, List.take_of_length_le (by rw [List.length_map]; exact Nat.le_refl _)]
  rfl
theorem play_calls (base hb : Nat) (H : Sh.Hp) (w : World) (hH : HeapAt w base hb H) (l : List Int) (A : Option Addr) (c : Nat) (hL : Low w base A l) (hn : l.length ≤ 5000) (hx : ∀ x ∈ l, 0 ≤ x ∧ x ≤ 1023) (hl : H.length ≤ 500000) :
    Calls Tryz.prog 167 #[.agg #[], .pointer (some ⟨hb, 0, none⟩), .slice A l.length c] w fun e w' => e = .returned (.int .i64 (Sh.layP H l).2) ∧ HeapAt w' base hb (Sh.layP H l).1 ∧ Below base w w' := by
  have hsz : base ≤ w.heap.size := by have := hH.1; have := hH.lt; omega
  obtain ⟨W1, hW1⟩ : ∃ W1, W1 = (w.alloc (.cells #[] 155)).alloc (.cells (wordCells (List.replicate 32 0)) 197) := ⟨_, rfl⟩
  have hB1 := Lib.hid (show Below w.heap.size w W1 by rw [hW1]; exact ((Below.refl _ _).alloc (Nat.le_refl _) _).alloc (by rw [World.size_alloc]; omega) _)
  have hr1 := Lib.hid (show W1.heap[w.heap.size + 1]? = some (.cells (wordCells (List.replicate 32 0)) 197 (0, 0)) by
    rw [hW1]
    have := heap_alloc_new (w.alloc (.cells #[] 155)) (.cells (wordCells (List.replicate 32 0)) 197)
    rwa [World.size_alloc] at this)
  have hs1 := Lib.hid (show W1.heap.size = w.heap.size + 2 by rw [hW1, World.size_alloc, World.size_alloc])
  have hLh := Lib.hid hL
  have hxh := Lib.hid (fun k (h : k < l.length) => hx (Sh.gi l k) (by unfold Sh.gi; rw [List.getD_eq_getElem?_getD, List.getElem?_eq_getElem h]; exact List.getElem_mem h))
  have hHh := Lib.hid hH
  obtain ⟨RS, hRS⟩ : ∃ RS, RS = Sh.layP H l := ⟨_, rfl⟩
  rw [← hRS]
  replace hRS := Lib.hid hRS
  obtain ⟨n, hn'⟩ : ∃ n, n = l.length := ⟨_, rfl⟩
  rw [← hn'] at hn ⊢
  replace hn' := Lib.hid hn'
  clear hH hL hx
  go_enter Tryz.func167, Tryz.ntmps167
  go_wp2
  rw [show ((w.alloc (.cells #[] 155)).alloc (.cells #[.int .i64 0, .int .i64 0, .int .i64 0, .int .i64 0, .int .i64 0, .int .i64 0, .int .i64 0, .int .i64 0, .int .i64 0, .int .i64 0, .int .i64 0, .int .i64 0, .int .i64 0, .int .i64 0, .int .i64 0, .int .i64 0, .int .i64 0, .int .i64 0, .int .i64 0, .int .i64 0, .int .i64 0, .int .i64 0, .int .i64 0, .int .i64 0, .int .i64 0, .int .i64 0, .int .i64 0, .int .i64 0, .int .i64 0, .int .i64 0, .int .i64 0, .int .i64 0] 197)) = W1 by rw [hW1]; rfl]
  clear hW1
  go_loopg [15] n (fun gg v15 wr => ∃ k : Nat, v15 = .int .i64 k ∧ k ≤ n ∧ Hid (gg + k = n) ∧ Hid (Below w.heap.size w wr) ∧ Hid (w.heap.size + 2 ≤ wr.heap.size) ∧ Hid (wr.heap[w.heap.size + 1]? = some (.cells (wordCells (Sh.wordsP (l.take k))) 197 (0, 0))))
  case atStart => exact ⟨0, rfl, Nat.zero_le _, Lib.hid rfl, hB1, Lib.hid (by have := hs1.out; omega), hr1⟩
  case round =>
    obtain ⟨k, rfl, hk, hg, hB, hsr, hrow⟩ := hrel
    by_cases hlt : k < n
    · obtain ⟨ad0, rfl, e0⟩ := at_int (hLh.out wr (hB.out.mono hsz)) k (by omega) (by have := hn'.out; omega)
      rw [Int.toNat_natCast] at e0
      obtain ⟨x0, x1⟩ := hxh.out k (by have := hn'.out; omega)
      have hnx := Sh.words_at l k (by have := hn'.out; omega)
      obtain ⟨x, hxx⟩ : ∃ x, x = Sh.gi l k := ⟨_, rfl⟩
      rw [← hxx] at e0 hnx x0 x1
      obtain ⟨xn, rfl⟩ := Int.eq_ofNat_of_zero_le x0
      rw [Int.toNat_natCast] at hnx
      obtain ⟨hwl, hwb⟩ := Sh.words_ok (l.take k)
      replace hxx := Lib.hid hxx
      generalize Sh.wordsP (l.take k) = ws at *
      have hq32 : xn / 32 < 32 := by omega
      have hcq : wr.cell? ⟨w.heap.size + 1, xn / 32, none⟩ = some (.int .i64 (ws.getD (xn / 32) 0 : Nat)) := by rw [blk_cell hrow.out]; exact wordCells_get ws _ (by omega)
      have hfz : wr.frozen? ⟨w.heap.size + 1, xn / 32, none⟩ = false := blk_frozen hrow.out _
      have hbd : ws.getD (xn / 32) 0 < 2 ^ 32 := by
        rw [List.getD_eq_getElem?_getD]
        rcases hq : ws[xn / 32]? with _ | q
        · exact Nat.two_pow_pos 32
        · exact hwb q (List.mem_of_getElem? hq)
      obtain ⟨q, hq⟩ : ∃ q, q = xn / 32 := ⟨_, rfl⟩
      obtain ⟨r, hr⟩ : ∃ r, r = xn % 32 := ⟨_, rfl⟩
      have hq1 : ((xn : Int)).tdiv 32 = (q : Int) := by rw [Int.tdiv_eq_ediv_of_nonneg (by omega)]; omega
      have hq2 : ((xn : Int)) / 32 = (q : Int) := by omega
      have hr1 : ((xn : Int)).tmod 32 = (r : Int) := by rw [Int.tmod_eq_emod_of_nonneg (by omega)]; omega
      have hr2 : ((xn : Int)) % 32 = (r : Int) := by omega
      have hr32 : r < 32 := by omega
      have hqi : (0 : Int) ≤ (q : Int) := by omega
      have hqj : (q : Int) < 32 := by omega
      have hri : (0 : Int) ≤ (r : Int) := by omega
      have hrj : (r : Int) < 32 := by omega
      have hxi : (0 : Int) ≤ (xn : Int) / 32 := by omega
      have hxj : (xn : Int) / 32 < 32 := by omega
      unfold Sh.wordP at hnx
      rw [← hq] at hq32 hcq hfz hbd hnx
      rw [← hr] at hnx
      obtain ⟨v, hv⟩ : ∃ v, v = ws.getD q 0 := ⟨_, rfl⟩
      rw [← hv] at hcq hbd hnx
      have hfd : wr.drew.frozen? ⟨w.heap.size + 1, q, none⟩ = false := hfz
      have hwq : IntKind.i64.wrap (q : Int) = (q : Int) := IntWalk.i64_in _ (by omega)
      have hwr : IntKind.i64.wrap (r : Int) = (r : Int) := IntWalk.i64_in _ (by omega)
      obtain ⟨pw, hpw⟩ : ∃ pw, pw = 2 ^ r := ⟨_, rfl⟩
      have hpb : pw < 4294967296 := by
        have h9 : 2 ^ r < 2 ^ 32 := Nat.pow_lt_pow_right (by omega) hr32
        rw [← hpw] at h9
        exact h9
      have hvb : v < 4294967296 := hbd
      have hpi : (2 : Int) ^ r = (pw : Int) := by rw [hpw]; exact (Int.natCast_pow 2 r).symm
      rw [← hpw] at hnx
      replace hpw := Lib.hid hpw
      have hw64 : wrap64 (pw : Int) = (pw : Int) := by unfold wrap64; omega
      obtain ⟨u, hu⟩ : ∃ u, u = v ||| pw := ⟨_, rfl⟩
      have hor : bits BinOp.or IntKind.i64 (v : Int) (pw : Int) = (u : Int) := by
        rw [hu]
        exact (bits_nat .i64 62 (by decide) (fun m h0 h1 => IntWalk.i64_in _ (by omega)) v pw (Nat.lt_trans hvb (by decide)) (Nat.lt_trans hpb (by decide))).2
      replace hpi := Lib.hid hpi
      replace hw64 := Lib.hid hw64
      replace hor := Lib.hid (show bits BinOp.or IntKind.i64 (v : Int) (wrap64 (2 ^ r)) = (u : Int) by rw [hpi.out, hw64.out]; exact hor)
      rw [← hu] at hnx
      have hrn := Lib.hid (blk_set (w := wr.drew) hrow.out q (.int .i64 (u : Int)))
      rw [wordCells_set, ← hnx] at hrn
      have hBn := Lib.hid ((hB.out.drew).setCell (p := ⟨w.heap.size + 1, q, none⟩) (by show w.heap.size ≤ w.heap.size + 1; omega) (.int .i64 (u : Int)))
      have hsn := Lib.hid (show w.heap.size + 2 ≤ (wr.drew.setCell ⟨w.heap.size + 1, q, none⟩ (.int .i64 (u : Int))).heap.size by rw [World.size_setCell]; exact hsr.out)
      rw [← hor.out] at hrn hBn hsn
      clear hu hbd hwr hpb hvb
      have hcd : wr.drew.cell? ⟨w.heap.size + 1, q, none⟩ = some (.int .i64 v) := hcq
      replace hnx := Lib.hid hnx
      replace hwb := Lib.hid hwb
      replace hwl := Lib.hid hwl
      replace hv := Lib.hid hv
      clear hq hr hfz hcq
      go_wp2
      go_still_tail 8, (by kernel_rfl)
      change wpList _ _ _ _ _ wr.drew
      go_wp2
      go_roundg (n - (k + 1))
      case measure => have := hg.out; omega
      case rel => exact ⟨k + 1, by go_num, by omega, Lib.hid (by omega), hBn, hsn, hrn⟩
    · have hkn : k = n := by omega
      subst hkn
      have hws : l.take k = l := List.take_of_length_le (by have := hn'.out; omega)
      rw [hws] at hrow
      obtain ⟨hwl, hwb⟩ := Sh.words_ok l
      obtain ⟨FI, hFI⟩ : ∃ FI, FI = Sh.pageP 0 H (List.replicate 32 (-1)) (Sh.wordsP l) := ⟨_, rfl⟩
      have hres : Sh.layP H l = (FI.1 ++ [([], FI.2)], ((FI.1.length : Nat) : Int)) := by rw [hFI]; rfl
      obtain rfl : RS = (FI.1 ++ [([], FI.2)], ((FI.1.length : Nat) : Int)) := by rw [hRS.out, hres]
      clear hres
      generalize Sh.wordsP l = ws at *
      replace hFI := Lib.hid hFI
      have hix := fun i hi W => index_words hwl i hi W
      obtain ⟨W2, hW2⟩ : ∃ W2, W2 = wr.alloc (.cells #[.int .i64 (-1)] 3) := ⟨_, rfl⟩
      have hs2 := Lib.hid (show W2.heap.size = wr.heap.size + 1 by rw [hW2, World.size_alloc])
      have hB2 := Lib.hid (show Below wr.heap.size wr W2 by rw [hW2]; exact (Below.refl _ _).alloc (Nat.le_refl _) _)
      have hrp := Lib.hid (repeat_calls wr.heap.size 32 (-1) W2 (by rw [hW2]; simp) (by omega) (by omega))
      clear hws
      go_wp2_with fail
      rw [← hW2]
      clear hW2
      refine (hrp.out).mono ?_
      rintro e w3 ⟨gq, rfl, hrk, hgk, hbk⟩
      have hwr3 := Lib.hid (Below.trans hB2.out (hbk.mono (by have := hs2.out; omega)))
      have hl3 := Lib.hid (blk_below hrow.out hwr3.out)
      have hwsz : (wordCells ws).size = 32 := by unfold wordCells; simp [hwl]
      replace hwsz := Lib.hid hwsz
      have hB3 := Lib.hid (show Below w.heap.size w w3 from hB.out.trans (hwr3.out.mono (by have := hsr.out; omega)))
      have hgb := Lib.hid (show w.heap.size + 2 ≤ gq by have := hsr.out; have := hs2.out; omega)
      have hH3 := Lib.hid (show HeapOk w3 base hb H (fun k => k ≠ gq) from (HeapAt.ok (hHh.out.step hB3.out)).mono (fun k _ _ => trivial) |>.mono (fun k _ _ => trivial) |> fun h => (show HeapOk w3 base hb H (fun k => k ≠ gq) from by
        obtain ⟨h0, v, hv, hr⟩ := hHh.out
        have hr2 := Kd.R_mono (Kd.R_bound hr) (ok' := fun k => k ≠ gq) (fun k hk he => by have := hk.2.2.1; have := hgb.out; omega)
        exact ⟨h0, v, (hB3.out.block hb (blk_lt hv)).trans hv, Kd.R_below hr2 hB3.out⟩))
      have hrk2 := Lib.hid (show w3.heap[gq]? = some (.cells ((List.replicate 32 (-1 : Int)).map fun (x : Int) => Value.int .i64 x).toArray 3 (0, 0)) by rw [hrk]; rfl)
      clear hrk hbk hrow
      go_wp2_with (refine wpList_load_row rfl 197 _ rfl (w.heap.size + 1) rfl 197 (wordCells ws) (0, 0) _ hl3.out Tryz.underlying197 rfl (by rw [hwsz.out]; kernel_rfl) ?_)
      go_loopg [32] 32 (fun gg v32 w4 => ∃ (i : Nat) (H2 : Sh.Hp) (ks : List Int), v32 = .int .i64 i ∧ i ≤ 32 ∧ Hid (gg + i = 32) ∧ Hid (HeapOk w4 base hb H2 (fun k => k ≠ gq)) ∧ Hid (w4.heap[gq]? = some (.cells (ks.map fun (x : Int) => Value.int .i64 x).toArray 3 (0, 0))) ∧ Hid (ks.length = 32) ∧ Hid (Below base w w4) ∧ Hid (gq < w4.heap.size) ∧ H2.length ≤ 500000 + i ∧ Hid (FI = Sh.pageP i H2 ks (ws.drop i)))
      case atStart => exact ⟨0, H, _, rfl, by omega, Lib.hid rfl, hH3, hrk2, Lib.hid (by simp), Lib.hid (hB3.out.mono hsz), Lib.hid (blk_lt hrk2.out), by omega, hFI⟩
      case round =>
        obtain ⟨i, H2, ks, rfl, hi, hg5, hH5, hk5, hkl, hB5, hgs, hl5, hF5⟩ := hrel
        by_cases hlt5 : i < 32
        · have hst := pageP_at i H2 ks ws (by omega)
          have hixi := hix i hlt5
          have hwv : ws.getD i 0 < 4294967296 := by
            have h9 : ws.getD i 0 < 2 ^ 32 := by
              rw [List.getD_eq_getElem?_getD, List.getElem?_eq_getElem (by omega)]
              exact hwb _ (List.getElem_mem _)
            exact h9
          generalize ws.getD i 0 = wv at *
          rw [hst] at hF5
          replace hF5 := hF5.out
          by_cases hz : wv = 0
          · rw [if_pos hz] at hF5
            replace hF5 := Lib.hid hF5
            have hzb : ((wv : Int) != 0) = false := bne_eq_false_iff_eq.mpr (by omega)
            replace hst := Lib.hid hst
            clear hz hix
            go_wp2
            go_roundg (32 - (i + 1))
            case measure => have := hg5.out; omega
            case rel => exact ⟨i + 1, H2, ks, by go_num, by omega, Lib.hid (by omega), hH5, hk5, hkl, hB5, hgs, by omega, hF5⟩
          · rw [if_neg hz] at hF5
            replace hF5 := Lib.hid hF5
            replace hst := Lib.hid hst
            have hzb : ((wv : Int) != 0) = true := bne_iff_ne.mpr (by omega)
            have hbs : base ≤ wr.heap.size := by have := (hH5.out).1; have := hH5.out.lt; omega
            have hBa := Lib.hid (hB5.out.alloc hbs (.cells #[.int .i64 wv] 3))
            have hka := Lib.hid (blk_alloc hk5.out (.cells #[.int .i64 wv] 3))
            have hli := Lib.hid (show Kd.R kI 3 (wr.alloc (.cells #[.int .i64 wv] 3)) base (fun k => k ≠ gq) (.slice (some ⟨wr.heap.size, 0, none⟩) 1 1) [(wv : Int)] from
              Kd.R_reok rfl (lit_ints wr base [(wv : Int)] #[.int .i64 wv] 1 hbs (by simp) rfl rfl) (fun k hk => by cases hk; have := hgs.out; show wr.heap.size ≠ gq; omega))
            have hadd := Lib.hid (add_ok base hb H2 [(wv : Int)] [] (.slice (some ⟨wr.heap.size, 0, none⟩) 1 1) (.slice none 0 0) (wr.alloc (.cells #[.int .i64 wv] 3)) (fun k => k ≠ gq) (fun k hk => by rw [World.size_alloc] at hk; have := hgs.out; omega) (hH5.out.step ((Below.refl _ _).alloc (Nat.le_refl _) _)) hli.out (Kd.R_nil _ _ _ _ _) (by omega))
            clear hz hix hbs
            go_wp2_with fail
            refine (hadd.out).mono ?_
            rintro e w5 ⟨rfl, hH6, hB6, hK6⟩
            have hk6 := hK6 gq _ hka.out
            have u1 := ints_cell hk6 i (by have := hkl.out; omega)
            have u2 := blk_frozen hk6 i
            have hB7 := Lib.hid ((hBa.out.trans hB6).setCell (p := ⟨gq, i, none⟩) (by have := hgb.out; show base ≤ gq; omega) (.int .i64 (H2.length : Int)))
            have hH7 := Lib.hid (hH6.far hk6 (fun k hk => hk) i (.int .i64 (H2.length : Int)))
            have hk7 := Lib.hid (ints_set hk6 i (H2.length : Int))
            have hg7 := Lib.hid (show gq < (w5.setCell ⟨gq, i, none⟩ (.int .i64 (H2.length : Int))).heap.size by rw [World.size_setCell]; exact blk_lt hk6)
            generalize Sh.gi ks i = yy at u1
            clear hH6 hB6 hK6 hk6
            go_wp2
            go_roundg (32 - (i + 1))
            case measure => have := hg5.out; omega
            case rel => exact ⟨i + 1, _, _, by go_num, by omega, Lib.hid (by omega), hH7, hk7, Lib.hid (by rw [List.length_set]; exact hkl.out), hB7, hg7, by simp; omega, hF5⟩
        · have hF6 : FI = (H2, ks) := by
            rw [hF5.out, List.drop_of_length_le (by omega)]
            unfold Sh.pageP
            rfl
          replace hF6 := Lib.hid hF6
          have hadd := Lib.hid (add_ok base hb H2 [] ks (.slice none 0 0) (.slice (some ⟨gq, 0, none⟩) 32 32) wr (fun _ => True) (fun _ _ => trivial) (hH5.out.mono (fun _ _ _ => trivial)) (Kd.R_nil _ _ _ _ _) (ints_row hk5.out (by have := hgb.out; omega) hkl.out (by omega)) (by omega))
          clear hix
          go_wp2_with fail
          refine (hadd.out).mono ?_
          rintro e w5 ⟨rfl, hH6, hB6, _⟩
          have hH7 := Lib.hid hH6.at
          have hB7 := Lib.hid (hB5.out.trans hB6)
          clear hH6 hB6
          obtain rfl := hF6.out
          go_wp2
          go_ret
          exact ⟨rfl, hH7.out, hB7.out⟩
end Go.Proofs.YtbfedeedicnedaaGreat
end
section
namespace Go.Proofs.YtbfedeedicnedaaGreat
open Go.RowKit
open Go.Proofs.YtbfedeedicnedaaGreatW.PrintWords
namespace Sh
theorem placeF_step (t : List Int) (x : Int) (g j : Nat) : placeF t x (g + 1) j = if gi t (slot t x j) = -1 ∨ gi t (slot t x j) = x then j else placeF t x g (j + 1) := rfl
end Sh
theorem home_at {w : World} (x : Int) (c : Nat) (hx : 0 ≤ x) (hx1 : x ≤ 1000000) (hc : 0 < c) (hc1 : c ≤ 1000000) {b : Int} (h : Sh.home x c = b) : Calls Tryz.prog 195 #[.int .i64 x, .int .i64 c] w fun e w' => e = .returned (.int .i64 b) ∧ w' = w := by
  subst h
  exact home_calls x c hx hx1 hc hc1 w
theorem place_calls (t : List Int) (x : Int) (A : Option Addr) (c : Nat) (w : World) (hC : Kd.C kI w A t.length t) (hx : 0 ≤ x) (hx1 : x ≤ 1000000) (hc : 0 < t.length) (hc1 : t.length ≤ 100000) :
    Calls Tryz.prog 194 #[.slice A t.length c, .int .i64 x] w fun e w' => e = .returned (.tuple #[.int .i64 (Sh.slot t x (Sh.place t x)), .int .i64 ((Sh.place t x + 1 : Nat) : Int)]) ∧ w' = w := by
  have hhs := Sh.home_slot hx hc
  have hhn : 0 ≤ Sh.home x t.length := by unfold Sh.home; exact Int.tmod_nonneg _ (by omega)
  have hho := Lib.hid (fun W => home_at (w := W) x t.length hx hx1 hc (by omega) (b := (Sh.slot t x 0 : Nat)) (by omega))
  have hCh := Lib.hid hC
  obtain ⟨P, hP⟩ : ∃ P, P = Sh.place t x := ⟨_, rfl⟩
  rw [← hP]
  unfold Sh.place at hP
  replace hP := Lib.hid hP
  obtain ⟨n, hn⟩ : ∃ n, n = t.length := ⟨_, rfl⟩
  have hsl : ∀ j, Sh.slot t x j < n := fun j => by rw [hn]; exact Sh.slot_lt x j hc
  rw [← hn] at hho hc hc1 ⊢
  replace hn := Lib.hid hn
  clear hhs hhn hC
  go_enter Tryz.func194, Tryz.ntmps194
  go_wp2_with fail
  refine (hho.out _).mono ?_
  rintro e w1 ⟨rfl, rfl⟩
  go_wp2
  go_loopg [4, 5] n (fun g v4 v5 wr => ∃ (j a : Nat), v4 = .int .i64 a ∧ v5 = .int .i64 (j + 1 : Nat) ∧ j < n ∧ Hid (g + j = n) ∧ wr = w1 ∧ Hid (a = Sh.slot t x j) ∧ Hid (P = Sh.placeF t x (n - 1 - j) j))
  case atStart => exact ⟨0, _, rfl, rfl, hc, Lib.hid rfl, rfl, Lib.hid rfl, Lib.hid (by rw [hP.out, hn.out]; rfl)⟩
  case round =>
    obtain ⟨j, a, rfl, rfl, hj, hg, rfl, ha, hPj⟩ := hrel
    have han : a < n := by rw [ha.out]; exact hsl j
    obtain ⟨ad, rfl, e0⟩ := at_int hCh.out a (by omega) (by have := hn.out; omega)
    rw [Int.toNat_natCast] at e0
    by_cases hlast : j + 1 < n
    · obtain ⟨g', hg'⟩ : ∃ g', n - 1 - j = g' + 1 := ⟨n - 1 - j - 1, by omega⟩
      have hst := Sh.placeF_step t x g' j
      rw [← hg', ← ha.out, ← hPj.out] at hst
      obtain ⟨y, hy⟩ : ∃ y, y = Sh.gi t a := ⟨_, rfl⟩
      rw [← hy] at e0 hst
      have hex : ∃ k, k = Sh.slot t x (j + 1) := ⟨_, rfl⟩
      obtain ⟨k, hk⟩ := hex
      have hmod : ((a : Int) + 1) % (n : Int) = (k : Int) := by
        rw [hk, ← Sh.slot_next, ← ha.out, ← hn.out]
        rfl
      have hw1 : IntKind.i64.wrap ((a : Int) + 1) = (a : Int) + 1 := IntWalk.i64_in _ (by omega)
      have hne : ¬ (n : Int) = 0 := by omega
      have hpos : ((n : Int) == 0) = false := by rw [beq_eq_false_iff_ne]; omega
      by_cases hq : y ≠ -1 ∧ y ≠ x
      · rw [if_neg (by omega)] at hst
        have q1 : (y != -1) = true := bne_iff_ne.mpr hq.1
        have q2 : (y != x) = true := bne_iff_ne.mpr hq.2
        clear hq
        replace hst := Lib.hid hst
        replace hk := Lib.hid hk
        replace hy := Lib.hid hy
        go_wp2
        go_roundg (n - (j + 1))
        case measure => have := hg.out; omega
        case rel => exact ⟨j + 1, k, by rw [hmod], by go_num, by omega, Lib.hid (by omega), rfl, hk, Lib.hid (by rw [hst.out]; congr 1; omega)⟩
      · rw [if_pos (by omega)] at hst
        by_cases q1 : y = -1
        · have q1b : (y != -1) = false := bne_eq_false_iff_eq.mpr q1
          replace hst := Lib.hid hst
          replace hy := Lib.hid hy
          clear hq q1
          go_wp2
          go_ret2
          obtain rfl := hst.out
          exact ⟨by rw [ha.out]; rfl, rfl⟩
        · have q2 : y = x := by omega
          have q1b : (y != -1) = true := bne_iff_ne.mpr q1
          have q2b : (y != x) = false := bne_eq_false_iff_eq.mpr q2
          replace hst := Lib.hid hst
          replace hy := Lib.hid hy
          clear hq q1 q2
          go_wp2
          go_ret2
          obtain rfl := hst.out
          exact ⟨by rw [ha.out]; rfl, rfl⟩
    · have hst : P = j := by rw [hPj.out, show n - 1 - j = 0 by omega]; rfl
      replace hst := Lib.hid hst
      go_wp2
      go_ret2
      obtain rfl := hst.out
      exact ⟨by rw [ha.out]; rfl, rfl⟩
end Go.Proofs.YtbfedeedicnedaaGreat
end
