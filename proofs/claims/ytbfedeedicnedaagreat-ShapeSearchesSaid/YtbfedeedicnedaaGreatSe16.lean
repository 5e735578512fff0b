/-
  Texts of this claim: ShAD, ShR, ShT.
-/
import Derived.Test.YtbfedeedicnedaaGreatSe14
import Derived.Test.YtbfedeedicnedaaGreatSe15
import Derived.Laws.EntriesVeiled
set_option linter.unusedVariables false
set_option linter.unusedSimpArgs false
section
namespace Go.Proofs.YtbfedeedicnedaaGreat
open Go.RowKit
open Go.Proofs.YtbfedeedicnedaaGreatW.PrintWords
namespace Sh
def wordP (ws : List Nat) (x : Nat) : List Nat := ws.set (x / 32) (ws.getD (x / 32) 0 ||| 2 ^ (x % 32))
def wordsP (l : List Int) : List Nat := l.foldl (fun ws x => wordP ws x.toNat) (List.replicate 32 0)
def pageP : Nat → Hp → List Int → List Nat → Hp × List Int
  | _, H, ks, [] => (H, ks)
  | i, H, ks, w :: ws => if w = 0 then pageP (i + 1) H ks ws else pageP (i + 1) (H ++ [([(w : Int)], [])]) (ks.set i H.length) ws
def layP (H : Hp) (l : List Int) : Hp × Int :=
  ((pageP 0 H (List.replicate 32 (-1)) (wordsP l)).1 ++ [([], (pageP 0 H (List.replicate 32 (-1)) (wordsP l)).2)], (pageP 0 H (List.replicate 32 (-1)) (wordsP l)).1.length)
theorem words_at (l : List Int) (k : Nat) (h : k < l.length) : wordsP (l.take (k + 1)) = wordP (wordsP (l.take k)) (gi l k).toNat := by
  unfold wordsP
  rw [List.take_succ_eq_append_getElem h, List.foldl_append]
  unfold gi
  rw [List.getD_eq_getElem?_getD, List.getElem?_eq_getElem h]
  rfl
theorem wordP_len (ws : List Nat) (x : Nat) : (wordP ws x).length = ws.length := by unfold wordP; rw [List.length_set]
theorem wordP_lt (ws : List Nat) (x : Nat) (h : ∀ w ∈ ws, w < 2 ^ 32) : ∀ w ∈ wordP ws x, w < 2 ^ 32 := by
  intro w hw
  unfold wordP at hw
  rcases List.mem_or_eq_of_mem_set hw with h1 | h1
  · exact h w h1
  · rw [h1]
    refine Nat.or_lt_two_pow ?_ (Nat.pow_lt_pow_right (by omega) (by omega))
    rw [List.getD_eq_getElem?_getD]
    rcases hq : ws[x / 32]? with _ | q
    · exact Nat.two_pow_pos 32
    · exact h q (List.mem_of_getElem? hq)
theorem words_ok (l : List Int) : (wordsP l).length = 32 ∧ ∀ w ∈ wordsP l, w < 2 ^ 32 := by
  unfold wordsP
  suffices h : ∀ (l : List Int) (ws : List Nat), ws.length = 32 ∧ (∀ w ∈ ws, w < 2 ^ 32) → (l.foldl (fun ws x => wordP ws x.toNat) ws).length = 32 ∧ ∀ w ∈ l.foldl (fun ws x => wordP ws x.toNat) ws, w < 2 ^ 32 from
    h l _ ⟨by simp, fun w hw => by rw [List.eq_of_mem_replicate hw]; exact Nat.two_pow_pos 32⟩
  intro l
  induction l with
  | nil => intro ws h; exact h
  | cons x l ih => intro ws h; exact ih _ ⟨by rw [wordP_len]; exact h.1, wordP_lt ws _ h.2⟩
end Sh
def wordCells (ws : List Nat) : Array Value := (ws.map fun (w : Nat) => Value.int .i64 (w : Int)).toArray
theorem wordCells_get (ws : List Nat) (j : Nat) (h : j < ws.length) : (wordCells ws)[j]? = some (.int .i64 (ws.getD j 0 : Nat)) := by
  unfold wordCells
  simp [List.getD_eq_getElem?_getD, List.getElem?_eq_getElem h]
theorem wordCells_set (ws : List Nat) (j v : Nat) : (wordCells ws).setIfInBounds j (.int .i64 (v : Int)) = wordCells (ws.set j v) := by
  unfold wordCells
  simp [List.map_set]
theorem HeapOk.far {w : World} {base hb g : Nat} {H : Sh.Hp} {ok : Nat → Prop} {cs : Array Value} (h : HeapOk w base hb H ok) (hg : w.heap[g]? = some (.cells cs 3 (0, 0))) (hok : ∀ k, ok k → k ≠ g) (j : Nat) (u : Value) : HeapOk (w.setCell ⟨g, j, none⟩ u) base hb H ok := by
  obtain ⟨h0, v, hv, hr⟩ := h
  have hne : hb ≠ g := fun e => by rw [e, hg] at hv; simp at hv
  exact ⟨h0, v, blk_far hv hne u, Kd.R_far hr hok u⟩
theorem ints_cell {w : World} {g : Nat} {l : List Int} (h : w.heap[g]? = some (.cells (l.map fun (x : Int) => Value.int .i64 x).toArray 3 (0, 0))) (i : Nat) (hi : i < l.length) : w.cell? ⟨g, i, none⟩ = some (.int .i64 (Sh.gi l i)) := by
  rw [blk_cell h]
  unfold Sh.gi
  simp [List.getD_eq_getElem?_getD, List.getElem?_eq_getElem hi]
theorem ints_set {w : World} {g : Nat} {l : List Int} (h : w.heap[g]? = some (.cells (l.map fun (x : Int) => Value.int .i64 x).toArray 3 (0, 0))) (i : Nat) (x : Int) : (w.setCell ⟨g, i, none⟩ (.int .i64 x)).heap[g]? = some (.cells ((l.set i x).map fun (x : Int) => Value.int .i64 x).toArray 3 (0, 0)) := by
  rw [blk_set h]
  congr 2
  simp [List.map_set]
theorem pageP_at (i : Nat) (H : Sh.Hp) (ks : List Int) (ws : List Nat) (h : i < ws.length) : Sh.pageP i H ks (ws.drop i) = if ws.getD i 0 = 0 then Sh.pageP (i + 1) H ks (ws.drop (i + 1)) else Sh.pageP (i + 1) (H ++ [([((ws.getD i 0 : Nat) : Int)], [])]) (ks.set i H.length) (ws.drop (i + 1)) := by
  rw [List.drop_eq_getElem_cons h, List.getD_eq_getElem?_getD, List.getElem?_eq_getElem h]
  rfl
theorem index_words {ws : List Nat} (hl : ws.length = 32) (i : Nat) (hi : i < 32) (W : World) : (Instr.index 197 (.agg (wordCells ws)) (.int .i64 i)).run Tryz.prog W = .ok (.int .i64 (ws.getD i 0 : Nat)) W := by
  have hg := wordCells_get ws i (by omega)
  have h1 : ¬ ((i : Int) < 0 ∨ 32 ≤ (i : Int)) := by omega
  simp [Instr.index, run_underlying Tryz.underlying197, asIntOf, go_sem]
  rw [if_pos hi, hg, List.getD_eq_getElem?_getD]
  rfl
theorem ints_row {w : World} {base g n : Nat} {l : List Int} (h : w.heap[g]? = some (.cells (l.map fun (x : Int) => Value.int .i64 x).toArray 3 (0, 0))) (hb : base ≤ g) (hn : l.length = n) (hs : n ≤ 1000000) : Ints w base (.slice (some ⟨g, 0, none⟩) n n) l := by
  subst hn
  refine Ints.mk ⟨by simp [nums], .inr ⟨g, l.length, _, rfl, hb, h, Nat.le_refl _, by simp [maxLen]; omega, by simp, ?_⟩⟩
  rw [Nat.mul_one, List.toList_toArray, List.take_of_length_le (by rw [List.length_map]; exact Nat.le_refl _)]
  rfl
set_option maxRecDepth 100000 in
set_option maxHeartbeats 1000000 in
theorem play_calls (base hb : Nat) (H : Sh.Hp) (w : World) (hH : HeapAt w base hb H) (l : List Int) (A : Option Addr) (c : Nat) (hL : Low w base A l) (hn : l.length ≤ 5000) (hx : ∀ x ∈ l, 0 ≤ x ∧ x ≤ 1023) (hl : H.length ≤ 500000) :
    Calls Tryz.prog 167 #[.agg #[], .pointer (some ⟨hb, 0, none⟩), .slice A l.length c] w fun e w' => e = .returned (.int .i64 (Sh.layP H l).2) ∧ HeapAt w' base hb (Sh.layP H l).1 ∧ Below base w w' := by
  have hsz : base ≤ w.heap.size := by have := hH.1; have := hH.lt; omega
  obtain ⟨W1, hW1⟩ : ∃ W1, W1 = (w.alloc (.cells #[] 155)).alloc (.cells (wordCells (List.replicate 32 0)) 197) := ⟨_, rfl⟩
  have hB1 := Lib.hid (show Below w.heap.size w W1 by rw [hW1]; exact ((Below.refl _ _).alloc (Nat.le_refl _) _).alloc (by rw [World.size_alloc]; omega) _)
  have hr1 := Lib.hid (show W1.heap[w.heap.size + 1]? = some (.cells (wordCells (List.replicate 32 0)) 197 (0, 0)) by
    rw [hW1]
    have := heap_alloc_new (w.alloc (.cells #[] 155)) (.cells (wordCells (List.replicate 32 0)) 197)
    rwa [World.size_alloc] at this)
  have hs1 := Lib.hid (show W1.heap.size = w.heap.size + 2 by rw [hW1, World.size_alloc, World.size_alloc])
  have hLh := Lib.hid hL
  have hxh := Lib.hid (fun k (h : k < l.length) => hx (Sh.gi l k) (by unfold Sh.gi; rw [List.getD_eq_getElem?_getD, List.getElem?_eq_getElem h]; exact List.getElem_mem h))
  have hHh := Lib.hid hH
  obtain ⟨RS, hRS⟩ : ∃ RS, RS = Sh.layP H l := ⟨_, rfl⟩
  rw [← hRS]
  replace hRS := Lib.hid hRS
  obtain ⟨n, hn'⟩ : ∃ n, n = l.length := ⟨_, rfl⟩
  rw [← hn'] at hn ⊢
  replace hn' := Lib.hid hn'
  clear hH hL hx
  go_enter Tryz.func167, Tryz.ntmps167
  go_wp2
  rw [show ((w.alloc (.cells #[] 155)).alloc (.cells #[.int .i64 0, .int .i64 0, .int .i64 0, .int .i64 0, .int .i64 0, .int .i64 0, .int .i64 0, .int .i64 0, .int .i64 0, .int .i64 0, .int .i64 0, .int .i64 0, .int .i64 0, .int .i64 0, .int .i64 0, .int .i64 0, .int .i64 0, .int .i64 0, .int .i64 0, .int .i64 0, .int .i64 0, .int .i64 0, .int .i64 0, .int .i64 0, .int .i64 0, .int .i64 0, .int .i64 0, .int .i64 0, .int .i64 0, .int .i64 0, .int .i64 0, .int .i64 0] 197)) = W1 by rw [hW1]; rfl]
  clear hW1
  go_loopg [15] n (fun gg v15 wr => ∃ k : Nat, v15 = .int .i64 k ∧ k ≤ n ∧ Hid (gg + k = n) ∧ Hid (Below w.heap.size w wr) ∧ Hid (w.heap.size + 2 ≤ wr.heap.size) ∧ Hid (wr.heap[w.heap.size + 1]? = some (.cells (wordCells (Sh.wordsP (l.take k))) 197 (0, 0))))
  case atStart => exact ⟨0, rfl, Nat.zero_le _, Lib.hid rfl, hB1, Lib.hid (by have := hs1.out; omega), hr1⟩
  case round =>
    obtain ⟨k, rfl, hk, hg, hB, hsr, hrow⟩ := hrel
    by_cases hlt : k < n
    · obtain ⟨ad0, rfl, e0⟩ := at_int (hLh.out wr (hB.out.mono hsz)) k (by omega) (by have := hn'.out; omega)
      rw [Int.toNat_natCast] at e0
      obtain ⟨x0, x1⟩ := hxh.out k (by have := hn'.out; omega)
      have hnx := Sh.words_at l k (by have := hn'.out; omega)
      obtain ⟨x, hxx⟩ : ∃ x, x = Sh.gi l k := ⟨_, rfl⟩
      rw [← hxx] at e0 hnx x0 x1
      obtain ⟨xn, rfl⟩ := Int.eq_ofNat_of_zero_le x0
      rw [Int.toNat_natCast] at hnx
      obtain ⟨hwl, hwb⟩ := Sh.words_ok (l.take k)
      replace hxx := Lib.hid hxx
      generalize Sh.wordsP (l.take k) = ws at *
      have hq32 : xn / 32 < 32 := by omega
      have hcq : wr.cell? ⟨w.heap.size + 1, xn / 32, none⟩ = some (.int .i64 (ws.getD (xn / 32) 0 : Nat)) := by rw [blk_cell hrow.out]; exact wordCells_get ws _ (by omega)
      have hfz : wr.frozen? ⟨w.heap.size + 1, xn / 32, none⟩ = false := blk_frozen hrow.out _
      have hbd : ws.getD (xn / 32) 0 < 2 ^ 32 := by
        rw [List.getD_eq_getElem?_getD]
        rcases hq : ws[xn / 32]? with _ | q
        · exact Nat.two_pow_pos 32
        · exact hwb q (List.mem_of_getElem? hq)
      obtain ⟨q, hq⟩ : ∃ q, q = xn / 32 := ⟨_, rfl⟩
      obtain ⟨r, hr⟩ : ∃ r, r = xn % 32 := ⟨_, rfl⟩
      have hq1 : ((xn : Int)).tdiv 32 = (q : Int) := by rw [Int.tdiv_eq_ediv_of_nonneg (by omega)]; omega
      have hq2 : ((xn : Int)) / 32 = (q : Int) := by omega
      have hr1 : ((xn : Int)).tmod 32 = (r : Int) := by rw [Int.tmod_eq_emod_of_nonneg (by omega)]; omega
      have hr2 : ((xn : Int)) % 32 = (r : Int) := by omega
      have hr32 : r < 32 := by omega
      have hqi : (0 : Int) ≤ (q : Int) := by omega
      have hqj : (q : Int) < 32 := by omega
      have hri : (0 : Int) ≤ (r : Int) := by omega
      have hrj : (r : Int) < 32 := by omega
      have hxi : (0 : Int) ≤ (xn : Int) / 32 := by omega
      have hxj : (xn : Int) / 32 < 32 := by omega
      unfold Sh.wordP at hnx
      rw [← hq] at hq32 hcq hfz hbd hnx
      rw [← hr] at hnx
      obtain ⟨v, hv⟩ : ∃ v, v = ws.getD q 0 := ⟨_, rfl⟩
      rw [← hv] at hcq hbd hnx
      have hfd : wr.drew.frozen? ⟨w.heap.size + 1, q, none⟩ = false := hfz
      have hwq : IntKind.i64.wrap (q : Int) = (q : Int) := IntWalk.i64_in _ (by omega)
      have hwr : IntKind.i64.wrap (r : Int) = (r : Int) := IntWalk.i64_in _ (by omega)
      obtain ⟨pw, hpw⟩ : ∃ pw, pw = 2 ^ r := ⟨_, rfl⟩
      have hpb : pw < 4294967296 := by
        have h9 : 2 ^ r < 2 ^ 32 := Nat.pow_lt_pow_right (by omega) hr32
        rw [← hpw] at h9
        exact h9
      have hvb : v < 4294967296 := hbd
      have hpi : (2 : Int) ^ r = (pw : Int) := by rw [hpw]; exact (Int.natCast_pow 2 r).symm
      rw [← hpw] at hnx
      replace hpw := Lib.hid hpw
      have hw64 : wrap64 (pw : Int) = (pw : Int) := by unfold wrap64; omega
      obtain ⟨u, hu⟩ : ∃ u, u = v ||| pw := ⟨_, rfl⟩
      have hor : bits BinOp.or IntKind.i64 (v : Int) (pw : Int) = (u : Int) := by
        rw [hu]
        exact (bits_nat .i64 62 (by decide) (fun m h0 h1 => IntWalk.i64_in _ (by omega)) v pw (Nat.lt_trans hvb (by decide)) (Nat.lt_trans hpb (by decide))).2
      replace hpi := Lib.hid hpi
      replace hw64 := Lib.hid hw64
      replace hor := Lib.hid (show bits BinOp.or IntKind.i64 (v : Int) (wrap64 (2 ^ r)) = (u : Int) by rw [hpi.out, hw64.out]; exact hor)
      rw [← hu] at hnx
      have hrn := Lib.hid (blk_set (w := wr.drew) hrow.out q (.int .i64 (u : Int)))
      rw [wordCells_set, ← hnx] at hrn
      have hBn := Lib.hid ((hB.out.drew).setCell (p := ⟨w.heap.size + 1, q, none⟩) (by show w.heap.size ≤ w.heap.size + 1; omega) (.int .i64 (u : Int)))
      have hsn := Lib.hid (show w.heap.size + 2 ≤ (wr.drew.setCell ⟨w.heap.size + 1, q, none⟩ (.int .i64 (u : Int))).heap.size by rw [World.size_setCell]; exact hsr.out)
      rw [← hor.out] at hrn hBn hsn
      clear hu hbd hwr hpb hvb
      have hcd : wr.drew.cell? ⟨w.heap.size + 1, q, none⟩ = some (.int .i64 v) := hcq
      replace hnx := Lib.hid hnx
      replace hwb := Lib.hid hwb
      replace hwl := Lib.hid hwl
      replace hv := Lib.hid hv
      clear hq hr hfz hcq
      go_wp2
      go_still_tail 8, (by kernel_rfl)
      change wpList _ _ _ _ _ wr.drew
      go_wp2
      go_roundg (n - (k + 1))
      case measure => have := hg.out; omega
      case rel => exact ⟨k + 1, by go_num, by omega, Lib.hid (by omega), hBn, hsn, hrn⟩
    · have hkn : k = n := by omega
      subst hkn
      have hws : l.take k = l := List.take_of_length_le (by have := hn'.out; omega)
      rw [hws] at hrow
      obtain ⟨hwl, hwb⟩ := Sh.words_ok l
      obtain ⟨FI, hFI⟩ : ∃ FI, FI = Sh.pageP 0 H (List.replicate 32 (-1)) (Sh.wordsP l) := ⟨_, rfl⟩
      have hres : Sh.layP H l = (FI.1 ++ [([], FI.2)], ((FI.1.length : Nat) : Int)) := by rw [hFI]; rfl
      obtain rfl : RS = (FI.1 ++ [([], FI.2)], ((FI.1.length : Nat) : Int)) := by rw [hRS.out, hres]
      clear hres
      generalize Sh.wordsP l = ws at *
      replace hFI := Lib.hid hFI
      have hix := fun i hi W => index_words hwl i hi W
      obtain ⟨W2, hW2⟩ : ∃ W2, W2 = wr.alloc (.cells #[.int .i64 (-1)] 3) := ⟨_, rfl⟩
      have hs2 := Lib.hid (show W2.heap.size = wr.heap.size + 1 by rw [hW2, World.size_alloc])
      have hB2 := Lib.hid (show Below wr.heap.size wr W2 by rw [hW2]; exact (Below.refl _ _).alloc (Nat.le_refl _) _)
      have hrp := Lib.hid (repeat_calls wr.heap.size 32 (-1) W2 (by rw [hW2]; simp) (by omega) (by omega))
      clear hws
      go_wp2_with fail
      rw [← hW2]
      clear hW2
      refine (hrp.out).mono ?_
      rintro e w3 ⟨gq, rfl, hrk, hgk, hbk⟩
      have hwr3 := Lib.hid (Below.trans hB2.out (hbk.mono (by have := hs2.out; omega)))
      have hl3 := Lib.hid (blk_below hrow.out hwr3.out)
      have hwsz : (wordCells ws).size = 32 := by unfold wordCells; simp [hwl]
      replace hwsz := Lib.hid hwsz
      have hB3 := Lib.hid (show Below w.heap.size w w3 from hB.out.trans (hwr3.out.mono (by have := hsr.out; omega)))
      have hgb := Lib.hid (show w.heap.size + 2 ≤ gq by have := hsr.out; have := hs2.out; omega)
      have hH3 := Lib.hid (show HeapOk w3 base hb H (fun k => k ≠ gq) from (HeapAt.ok (hHh.out.step hB3.out)).mono (fun k _ _ => trivial) |>.mono (fun k _ _ => trivial) |> fun h => (show HeapOk w3 base hb H (fun k => k ≠ gq) from by
        obtain ⟨h0, v, hv, hr⟩ := hHh.out
        have hr2 := Kd.R_mono (Kd.R_bound hr) (ok' := fun k => k ≠ gq) (fun k hk he => by have := hk.2.2.1; have := hgb.out; omega)
        exact ⟨h0, v, (hB3.out.block hb (blk_lt hv)).trans hv, Kd.R_below hr2 hB3.out⟩))
      have hrk2 := Lib.hid (show w3.heap[gq]? = some (.cells ((List.replicate 32 (-1 : Int)).map fun (x : Int) => Value.int .i64 x).toArray 3 (0, 0)) by rw [hrk]; rfl)
      clear hrk hbk hrow
      go_wp2_with (refine wpList_load_row rfl 197 _ rfl (w.heap.size + 1) rfl 197 (wordCells ws) (0, 0) _ hl3.out Tryz.underlying197 rfl (by rw [hwsz.out]; kernel_rfl) ?_)
      go_loopg [32] 32 (fun gg v32 w4 => ∃ (i : Nat) (H2 : Sh.Hp) (ks : List Int), v32 = .int .i64 i ∧ i ≤ 32 ∧ Hid (gg + i = 32) ∧ Hid (HeapOk w4 base hb H2 (fun k => k ≠ gq)) ∧ Hid (w4.heap[gq]? = some (.cells (ks.map fun (x : Int) => Value.int .i64 x).toArray 3 (0, 0))) ∧ Hid (ks.length = 32) ∧ Hid (Below base w w4) ∧ Hid (gq < w4.heap.size) ∧ H2.length ≤ 500000 + i ∧ Hid (FI = Sh.pageP i H2 ks (ws.drop i)))
      case atStart => exact ⟨0, H, _, rfl, by omega, Lib.hid rfl, hH3, hrk2, Lib.hid (by simp), Lib.hid (hB3.out.mono hsz), Lib.hid (blk_lt hrk2.out), by omega, hFI⟩
      case round =>
        obtain ⟨i, H2, ks, rfl, hi, hg5, hH5, hk5, hkl, hB5, hgs, hl5, hF5⟩ := hrel
        by_cases hlt5 : i < 32
        · have hst := pageP_at i H2 ks ws (by omega)
          have hixi := hix i hlt5
          have hwv : ws.getD i 0 < 4294967296 := by
            have h9 : ws.getD i 0 < 2 ^ 32 := by
              rw [List.getD_eq_getElem?_getD, List.getElem?_eq_getElem (by omega)]
              exact hwb _ (List.getElem_mem _)
            exact h9
          generalize ws.getD i 0 = wv at *
          rw [hst] at hF5
          replace hF5 := hF5.out
          by_cases hz : wv = 0
          · rw [if_pos hz] at hF5
            replace hF5 := Lib.hid hF5
            have hzb : ((wv : Int) != 0) = false := bne_eq_false_iff_eq.mpr (by omega)
            replace hst := Lib.hid hst
            clear hz hix
            go_wp2
            go_roundg (32 - (i + 1))
            case measure => have := hg5.out; omega
            case rel => exact ⟨i + 1, H2, ks, by go_num, by omega, Lib.hid (by omega), hH5, hk5, hkl, hB5, hgs, by omega, hF5⟩
          · rw [if_neg hz] at hF5
            replace hF5 := Lib.hid hF5
            replace hst := Lib.hid hst
            have hzb : ((wv : Int) != 0) = true := bne_iff_ne.mpr (by omega)
            have hbs : base ≤ wr.heap.size := by have := (hH5.out).1; have := hH5.out.lt; omega
            have hBa := Lib.hid (hB5.out.alloc hbs (.cells #[.int .i64 wv] 3))
            have hka := Lib.hid (blk_alloc hk5.out (.cells #[.int .i64 wv] 3))
            have hli := Lib.hid (show Kd.R kI 3 (wr.alloc (.cells #[.int .i64 wv] 3)) base (fun k => k ≠ gq) (.slice (some ⟨wr.heap.size, 0, none⟩) 1 1) [(wv : Int)] from
              Kd.R_reok rfl (lit_ints wr base [(wv : Int)] #[.int .i64 wv] 1 hbs (by simp) rfl rfl) (fun k hk => by cases hk; have := hgs.out; show wr.heap.size ≠ gq; omega))
            have hadd := Lib.hid (add_ok base hb H2 [(wv : Int)] [] (.slice (some ⟨wr.heap.size, 0, none⟩) 1 1) (.slice none 0 0) (wr.alloc (.cells #[.int .i64 wv] 3)) (fun k => k ≠ gq) (fun k hk => by rw [World.size_alloc] at hk; have := hgs.out; omega) (hH5.out.step ((Below.refl _ _).alloc (Nat.le_refl _) _)) hli.out (Kd.R_nil _ _ _ _ _) (by omega))
            clear hz hix hbs
            go_wp2_with fail
            refine (hadd.out).mono ?_
            rintro e w5 ⟨rfl, hH6, hB6, hK6⟩
            have hk6 := hK6 gq _ hka.out
            have u1 := ints_cell hk6 i (by have := hkl.out; omega)
            have u2 := blk_frozen hk6 i
            have hB7 := Lib.hid ((hBa.out.trans hB6).setCell (p := ⟨gq, i, none⟩) (by have := hgb.out; show base ≤ gq; omega) (.int .i64 (H2.length : Int)))
            have hH7 := Lib.hid (hH6.far hk6 (fun k hk => hk) i (.int .i64 (H2.length : Int)))
            have hk7 := Lib.hid (ints_set hk6 i (H2.length : Int))
            have hg7 := Lib.hid (show gq < (w5.setCell ⟨gq, i, none⟩ (.int .i64 (H2.length : Int))).heap.size by rw [World.size_setCell]; exact blk_lt hk6)
            generalize Sh.gi ks i = yy at u1
            clear hH6 hB6 hK6 hk6
            go_wp2
            go_roundg (32 - (i + 1))
            case measure => have := hg5.out; omega
            case rel => exact ⟨i + 1, _, _, by go_num, by omega, Lib.hid (by omega), hH7, hk7, Lib.hid (by rw [List.length_set]; exact hkl.out), hB7, hg7, by simp; omega, hF5⟩
        · have hF6 : FI = (H2, ks) := by
            rw [hF5.out, List.drop_of_length_le (by omega)]
            unfold Sh.pageP
            rfl
          replace hF6 := Lib.hid hF6
          have hadd := Lib.hid (add_ok base hb H2 [] ks (.slice none 0 0) (.slice (some ⟨gq, 0, none⟩) 32 32) wr (fun _ => True) (fun _ _ => trivial) (hH5.out.mono (fun _ _ _ => trivial)) (Kd.R_nil _ _ _ _ _) (ints_row hk5.out (by have := hgb.out; omega) hkl.out (by omega)) (by omega))
          clear hix
          go_wp2_with fail
          refine (hadd.out).mono ?_
          rintro e w5 ⟨rfl, hH6, hB6, _⟩
          have hH7 := Lib.hid hH6.at
          have hB7 := Lib.hid (hB5.out.trans hB6)
          clear hH6 hB6
          obtain rfl := hF6.out
          go_wp2
          go_ret
          exact ⟨rfl, hH7.out, hB7.out⟩
end Go.Proofs.YtbfedeedicnedaaGreat
end
section
namespace Go.Proofs.YtbfedeedicnedaaGreat
open Go.RowKit
open Go.Proofs.YtbfedeedicnedaaGreatW.PrintWords
abbrev shV (f root count : Int) : Value := .agg #[.int .i64 f, .int .i64 root, .int .i64 count]
theorem shape_box (w : World) (f root count : Int) : Below w.heap.size w (w.alloc (.cells #[.int .i64 f, .int .i64 root, .int .i64 count] 25)) := (Below.refl _ _).alloc (Nat.le_refl _) _
theorem LGot.lower {D : Prop} {b b' : Nat} {w' : World} {e : Ending} {R : List Int × Int} (h : LGot D b w' e R) (hb : b' ≤ b) : LGot D b' w' e R := by
  obtain ⟨v, l, he, ho, h1, h2⟩ := h
  exact ⟨v, l, he, Kd.R_lower ho hb, h1, h2⟩
theorem listed_in (H : Sh.Hp) (f root count : Int) (A : Option Addr) (c : Nat) (w : World) (o : Obj) (hC : Nodes w A H) (hL : ListsF H f) :
    Calls Tryz.prog 60 #[.slice A H.length c, shV f root count] (w.alloc o) fun e w' => LGot (¬ Digital f) w.heap.size w' e (Sh.listed H f root count) ∧ Below w.heap.size w w' := by
  refine (listed_calls H f root count A c (w.alloc o) (Kd.C_alloc hC _) hL).mono ?_
  rintro e w' ⟨h, hb⟩
  rw [World.size_alloc] at h hb
  exact ⟨h.lower (by omega), Below.trans ((Below.refl _ _).alloc (Nat.le_refl _) o) (hb.mono (by omega))⟩
set_option maxRecDepth 100000 in
set_option maxHeartbeats 1000000 in
theorem List_calls (H : Sh.Hp) (f root count : Int) (A : Option Addr) (c : Nat) (w : World) (hC : Nodes w A H) (hL : ListsF H f) :
    Calls Tryz.prog 16 #[.slice A H.length c, shV f root count] w fun e w' => LGot (¬ Digital f) w.heap.size w' e (Sh.listed H f root count) ∧ Below w.heap.size w w' := by
  have hcl := Lib.hid (listed_in H f root count A c w (.cells #[.int .i64 f, .int .i64 root, .int .i64 count] 25) hC hL)
  generalize Sh.listed H f root count = R at *
  clear hC hL
  go_enter Tryz.func16, Tryz.ntmps16
  go_wp2_with fail
  refine (hcl.out).mono ?_
  rintro e w1 ⟨⟨v, l, rfl, ho, h1, h2⟩, hb⟩
  replace ho := Lib.hid ho
  replace hb := Lib.hid hb
  go_wp2
  go_ret2
  exact ⟨⟨v, l, rfl, ho.out, h1, h2⟩, hb.out⟩
set_option maxRecDepth 100000 in
set_option maxHeartbeats 1000000 in
theorem Check_calls (H : Sh.Hp) (f root count : Int) (A : Option Addr) (c : Nat) (w : World) (hC : Nodes w A H) (hL : ListsF H f) :
    Calls Tryz.prog 22 #[.slice A H.length c, shV f root count] w fun e w' => e = .returned (.int .i64 (Sh.listed H f root count).2) ∧ Below w.heap.size w w' := by
  have hcl := Lib.hid (listed_in H f root count A c w (.cells #[.int .i64 f, .int .i64 root, .int .i64 count] 25) hC hL)
  generalize Sh.listed H f root count = R at *
  clear hC hL
  go_enter Tryz.func22, Tryz.ntmps22
  go_wp2_with fail
  refine (hcl.out).mono ?_
  rintro e w1 ⟨⟨v, l, rfl, ho, h1, h2⟩, hb⟩
  replace ho := Lib.hid ho
  replace hb := Lib.hid hb
  go_wp2
  go_ret
  exact ⟨rfl, hb.out⟩
namespace Sh
def sought (H : Hp) (f root count x : Int) : List Int × Int := if (listed H f root count).2 = 0 ∧ el x = false then ([], 2) else listed H f root count
end Sh
set_option maxRecDepth 100000 in
set_option maxHeartbeats 1000000 in
theorem sought_calls (H : Sh.Hp) (f root count x : Int) (A : Option Addr) (c : Nat) (w : World) (hC : Nodes w A H) (hL : ListsF H f) :
    Calls Tryz.prog 86 #[.slice A H.length c, shV f root count, .int .i64 x] w fun e w' => LGot (¬ Digital f) w.heap.size w' e (Sh.sought H f root count x) ∧ Below w.heap.size w w' := by
  have hcl := Lib.hid (listed_in H f root count A c w (.cells #[.int .i64 f, .int .i64 root, .int .i64 count] 25) hC hL)
  obtain ⟨S, hS⟩ : ∃ S, S = Sh.sought H f root count x := ⟨_, rfl⟩
  rw [← hS]
  unfold Sh.sought at hS
  generalize Sh.listed H f root count = R at *
  obtain ⟨R1, R2⟩ := R
  clear hC hL
  have hel := Lib.hid (fun W => element_at (w := W) x (b := Sh.el x) rfl)
  by_cases h0 : R2 = 0
  · subst h0
    cases he : Sh.el x
    · rw [if_pos ⟨rfl, he⟩] at hS
      subst hS
      rw [he] at hel
      go_enter Tryz.func86, Tryz.ntmps86
      go_wp2_with fail
      refine (hcl.out).mono ?_
      rintro e w1 ⟨⟨v, l, rfl, ho, h1, h2⟩, hb⟩
      replace hb := Lib.hid hb
      clear ho h1 h2
      go_wp2_with fail
      refine (hel.out _).mono ?_
      rintro e w2 ⟨rfl, rfl⟩
      go_wp2
      go_ret2
      exact ⟨⟨_, [], rfl, Kd.R_nil _ _ _ _ _, rfl, fun _ => rfl⟩, hb.out⟩
    · rw [if_neg (fun h => by rw [he] at h; exact absurd h.2 (by decide))] at hS
      subst hS
      rw [he] at hel
      go_enter Tryz.func86, Tryz.ntmps86
      go_wp2_with fail
      refine (hcl.out).mono ?_
      rintro e w1 ⟨⟨v, l, rfl, ho, h1, h2⟩, hb⟩
      replace ho := Lib.hid ho
      replace hb := Lib.hid hb
      replace h1 := Lib.hid h1
      go_wp2_with fail
      refine (hel.out _).mono ?_
      rintro e w2 ⟨rfl, rfl⟩
      go_wp2
      go_ret2
      exact ⟨⟨_, l, rfl, ho.out, h1.out, h2⟩, hb.out⟩
  · rw [if_neg (fun h => h0 h.1)] at hS
    subst hS
    have h0b : (R2 == 0) = false := beq_eq_false_iff_ne.mpr h0
    clear h0
    go_enter Tryz.func86, Tryz.ntmps86
    go_wp2_with fail
    refine (hcl.out).mono ?_
    rintro e w1 ⟨⟨v, l, rfl, ho, h1, h2⟩, hb⟩
    replace ho := Lib.hid ho
    replace hb := Lib.hid hb
    replace h1 := Lib.hid h1
    go_wp2
    go_ret2
    exact ⟨⟨_, l, rfl, ho.out, h1.out, h2⟩, hb.out⟩
end Go.Proofs.YtbfedeedicnedaaGreat
end
section
namespace Go.Proofs.YtbfedeedicnedaaGreat
open Go.RowKit
open Go.Proofs.YtbfedeedicnedaaGreatW.PrintWords
def FindsF (H : Sh.Hp) (f root x : Int) (b : Bool) (n : Nat) : Prop := ∀ (ty k : Nat), (ty = 154 ∧ k = 161 ∧ f = 1) ∨ (ty = 155 ∧ k = 166 ∧ f = 2) ∨ (ty = 119 ∧ k = 153 ∧ f = 3) ∨ (ty = 156 ∧ k = 179 ∧ f = 4) ∨ (ty = 157 ∧ k = 189 ∧ f = 5) → ∀ (A : Option Addr) (c : Nat) (w : World), Nodes w A H →
  Calls Tryz.prog k #[.agg #[], .slice A H.length c, .int .i64 root, .int .i64 x] w fun e w' => e = .returned (.tuple #[.bool b, .int .i64 n]) ∧ Below w.heap.size w w'
theorem sought_in (H : Sh.Hp) (f root count x : Int) (A : Option Addr) (c : Nat) (w : World) (o : Obj) (hC : Nodes w A H) (hL : ListsF H f) :
    Calls Tryz.prog 86 #[.slice A H.length c, shV f root count, .int .i64 x] (w.alloc o) fun e w' => LGot (¬ Digital f) w.heap.size w' e (Sh.sought H f root count x) ∧ Below w.heap.size w w' ∧ Below (w.alloc o).heap.size (w.alloc o) w' := by
  refine (sought_calls H f root count x A c (w.alloc o) (Kd.C_alloc hC _) hL).mono ?_
  rintro e w' ⟨h, hb⟩
  have hb2 := hb
  rw [World.size_alloc] at h hb
  exact ⟨h.lower (by omega), Below.trans ((Below.refl _ _).alloc (Nat.le_refl _) o) (hb.mono (by omega)), hb2⟩
set_option maxRecDepth 100000 in
set_option maxHeartbeats 1000000 in
theorem search_bad (H : Sh.Hp) (f root count x : Int) (A : Option Addr) (c : Nat) (w : World) (hC : Nodes w A H) (hL : ListsF H f) (hs : (Sh.sought H f root count x).2 ≠ 0) :
    Calls Tryz.prog 61 #[.slice A H.length c, shV f root count, .int .i64 x] w fun e w' => e = .returned (.tuple #[.bool false, .int .i64 0, .int .i64 (Sh.sought H f root count x).2]) ∧ Below w.heap.size w w' := by
  have hcl := Lib.hid (sought_in H f root count x A c w (.cells #[.int .i64 f, .int .i64 root, .int .i64 count] 25) hC hL)
  generalize Sh.sought H f root count x = R at *
  obtain ⟨R1, R2⟩ := R
  have hsb : (R2 != 0) = true := bne_iff_ne.mpr hs
  clear hC hL hs
  go_enter Tryz.func61, Tryz.ntmps61
  go_wp2_with fail
  refine (hcl.out).mono ?_
  rintro e w1 ⟨⟨v, l, rfl, ho, h1, h2⟩, hb, _⟩
  replace ho := Lib.hid ho
  replace hb := Lib.hid hb
  go_wp2
  go_ret3
  exact ⟨rfl, hb.out⟩
set_option maxRecDepth 100000 in
set_option maxHeartbeats 1000000 in
theorem search_good (H : Sh.Hp) (f root count x : Int) (b : Bool) (n : Nat) (A : Option Addr) (c : Nat) (w : World) (hC : Nodes w A H) (hL : ListsF H f) (hs : (Sh.sought H f root count x).2 = 0) (h2 : 1 ≤ f) (h3 : f ≤ 5) (hF : FindsF H f root x b n) :
    Calls Tryz.prog 61 #[.slice A H.length c, shV f root count, .int .i64 x] w fun e w' => e = .returned (.tuple #[.bool b, .int .i64 n, .int .i64 0]) ∧ Below w.heap.size w w' := by
  have hcl := Lib.hid (sought_in H f root count x A c w (.cells #[.int .i64 f, .int .i64 root, .int .i64 count] 25) hC hL)
  generalize Sh.sought H f root count x = R at *
  obtain ⟨R1, R2⟩ := R
  replace hs : R2 = 0 := hs
  subst hs
  have hfo := Lib.hid (fun W => forms_calls W)
  clear hL
  have i0 : ∀ W : World, (Instr.index 134 (.agg #[.iface 154 (.agg #[]), .iface 155 (.agg #[]), .iface 119 (.agg #[]), .iface 156 (.agg #[]), .iface 157 (.agg #[])]) (.int .i64 0)).run Tryz.prog W = .ok (.iface 154 (.agg #[])) W := fun W => by kernel_rfl
  have i1 : ∀ W : World, (Instr.index 134 (.agg #[.iface 154 (.agg #[]), .iface 155 (.agg #[]), .iface 119 (.agg #[]), .iface 156 (.agg #[]), .iface 157 (.agg #[])]) (.int .i64 1)).run Tryz.prog W = .ok (.iface 155 (.agg #[])) W := fun W => by kernel_rfl
  have i2 : ∀ W : World, (Instr.index 134 (.agg #[.iface 154 (.agg #[]), .iface 155 (.agg #[]), .iface 119 (.agg #[]), .iface 156 (.agg #[]), .iface 157 (.agg #[])]) (.int .i64 2)).run Tryz.prog W = .ok (.iface 119 (.agg #[])) W := fun W => by kernel_rfl
  have i3 : ∀ W : World, (Instr.index 134 (.agg #[.iface 154 (.agg #[]), .iface 155 (.agg #[]), .iface 119 (.agg #[]), .iface 156 (.agg #[]), .iface 157 (.agg #[])]) (.int .i64 3)).run Tryz.prog W = .ok (.iface 156 (.agg #[])) W := fun W => by kernel_rfl
  have i4 : ∀ W : World, (Instr.index 134 (.agg #[.iface 154 (.agg #[]), .iface 155 (.agg #[]), .iface 119 (.agg #[]), .iface 156 (.agg #[]), .iface 157 (.agg #[])]) (.int .i64 4)).run Tryz.prog W = .ok (.iface 157 (.agg #[])) W := fun W => by kernel_rfl
  go_enter Tryz.func61, Tryz.ntmps61
  go_wp2_with fail
  refine (hcl.out).mono ?_
  rintro e w1 ⟨⟨v, l, rfl, ho, h1, h2'⟩, hb, hb2⟩
  replace ho := Lib.hid ho
  replace hb := Lib.hid hb
  go_wp2_with fail
  trace_state
  refine (hfo.out _).mono ?_
  rintro e w2 ⟨rfl, hb3⟩
  have hblk : w2.heap[w1.heap.size]? = some (.cells #[.nilFunc, .nilFunc, .nilFunc, .nilFunc, .nilFunc] 133 (0, 0)) := (hb3.block w1.heap.size (by rw [World.size_alloc]; omega)).trans (heap_alloc_new w1 _)
  have hc0 : w2.cell? ⟨w1.heap.size, 0, none⟩ = some .nilFunc := by rw [blk_cell hblk]; rfl
  have hc1 : w2.cell? ⟨w1.heap.size, 1, none⟩ = some .nilFunc := by rw [blk_cell hblk]; rfl
  have hc2 : w2.cell? ⟨w1.heap.size, 2, none⟩ = some .nilFunc := by rw [blk_cell hblk]; rfl
  have hc3 : w2.cell? ⟨w1.heap.size, 3, none⟩ = some .nilFunc := by rw [blk_cell hblk]; rfl
  have hc4 : w2.cell? ⟨w1.heap.size, 4, none⟩ = some .nilFunc := by rw [blk_cell hblk]; rfl
  have hfz : ∀ k, w2.frozen? ⟨w1.heap.size, k, none⟩ = false := fun k => blk_frozen hblk k
  go_wp2
  have hB5 := Lib.hid (show Below (w.heap.size + 1) (w.alloc (.cells #[.int .i64 f, .int .i64 root, .int .i64 count] 25)) w2 by
    have h5 : (w.alloc (.cells #[.int .i64 f, .int .i64 root, .int .i64 count] 25)).heap.size = w.heap.size + 1 := World.size_alloc _ _
    have h6 := hb2.size
    rw [h5] at hb2 h6
    exact (hb2.alloc h6 _).trans (hb3.mono (by rw [World.size_alloc]; omega)))
  have hg1 : w.heap.size + 1 ≤ w1.heap.size := by
    have h6 := hb2.size
    rwa [World.size_alloc] at h6
  clear hb2 hb3
  refine wp_loop_rounds 6 ?_
  rw [rounds_succ]
  go_wp2
  rw [rounds_succ]
  go_wp2
  rw [rounds_succ]
  go_wp2
  rw [rounds_succ]
  go_wp2
  rw [rounds_succ]
  go_wp2
  rw [rounds_succ]
  go_wp2
  clear hc0 hc1 hc2 hc3 hc4 hfz i0 i1 i2 i3 i4
  obtain ⟨W5, hW5⟩ : ∃ W5, W5 = (((((w2.setCell ⟨w1.heap.size, 0, none⟩ (.func (Fn.method "sward/shape.find") #[.iface 154 (.agg #[])] #[])).setCell ⟨w1.heap.size, 1, none⟩ (.func (Fn.method "sward/shape.find") #[.iface 155 (.agg #[])] #[])).setCell ⟨w1.heap.size, 2, none⟩ (.func (Fn.method "sward/shape.find") #[.iface 119 (.agg #[])] #[])).setCell ⟨w1.heap.size, 3, none⟩ (.func (Fn.method "sward/shape.find") #[.iface 156 (.agg #[])] #[])).setCell ⟨w1.heap.size, 4, none⟩ (.func (Fn.method "sward/shape.find") #[.iface 157 (.agg #[])] #[])) := ⟨_, rfl⟩
  rw [← hW5]
  have hblk5 : W5.heap[w1.heap.size]? = some (.cells #[.func (Fn.method "sward/shape.find") #[.iface 154 (.agg #[])] #[], .func (Fn.method "sward/shape.find") #[.iface 155 (.agg #[])] #[], .func (Fn.method "sward/shape.find") #[.iface 119 (.agg #[])] #[], .func (Fn.method "sward/shape.find") #[.iface 156 (.agg #[])] #[], .func (Fn.method "sward/shape.find") #[.iface 157 (.agg #[])] #[]] 133 (0, 0)) := by
    rw [hW5]
    exact blk_set (blk_set (blk_set (blk_set (blk_set hblk 0 _) 1 _) 2 _) 3 _) 4 _
  have hBb : Below (w.heap.size + 1) (w.alloc (.cells #[.int .i64 f, .int .i64 root, .int .i64 count] 25)) W5 := by
    rw [hW5]
    exact ((((hB5.out.setCell (p := ⟨w1.heap.size, 0, none⟩) hg1 _).setCell (p := ⟨w1.heap.size, 1, none⟩) hg1 _).setCell (p := ⟨w1.heap.size, 2, none⟩) hg1 _).setCell (p := ⟨w1.heap.size, 3, none⟩) hg1 _).setCell (p := ⟨w1.heap.size, 4, none⟩) hg1 _
  clear hW5 hblk hB5
  have hgs := Lib.hid (show w1.heap.size < W5.heap.size from blk_lt hblk5)
  have hq : ∀ W, Below (W5.heap.size) W5 W → W.cell? ⟨w.heap.size, 0, none⟩ = some (.int .i64 f) ∧ W.cell? ⟨w.heap.size, 1, none⟩ = some (.int .i64 root) ∧ (∀ k : Nat, W.cell? ⟨w1.heap.size, k, none⟩ = W5.cell? ⟨w1.heap.size, k, none⟩) := fun W hW => by
    have h5 : w.heap.size + 1 ≤ W5.heap.size := by have := hgs.out; omega
    refine ⟨?_, ?_, fun k => hW.cell (p := ⟨w1.heap.size, k, none⟩) hgs.out⟩
    all_goals
      rw [hW.cell (p := ⟨w.heap.size, _, none⟩) (by show w.heap.size < _; omega), hBb.cell (p := ⟨w.heap.size, _, none⟩) (by show w.heap.size < _; omega)]
      simp
  have hfc : ∀ k : Nat, W5.cell? ⟨w1.heap.size, k, none⟩ = (#[.func (Fn.method "sward/shape.find") #[.iface 154 (.agg #[])] #[], .func (Fn.method "sward/shape.find") #[.iface 155 (.agg #[])] #[], .func (Fn.method "sward/shape.find") #[.iface 119 (.agg #[])] #[], .func (Fn.method "sward/shape.find") #[.iface 156 (.agg #[])] #[], .func (Fn.method "sward/shape.find") #[.iface 157 (.agg #[])] #[]] : Array Value)[k]? := fun k => blk_cell hblk5 k
  have hNod := Lib.hid (fun W (hW : Below W5.heap.size W5 W) => (Kd.C_below hC (show Below w.heap.size w W from Below.trans ((Below.refl _ _).alloc (Nat.le_refl _) _) (Below.trans (hBb.mono (by omega)) (hW.mono (by have := hgs.out; omega)))) : Nodes W A H))
  have hBw := Lib.hid (fun W (hW : Below W5.heap.size W5 W) => (show Below w.heap.size w W from Below.trans ((Below.refl _ _).alloc (Nat.le_refl _) _) (Below.trans (hBb.mono (by omega)) (hW.mono (by have := hgs.out; omega)))))
  have hBd := Lib.hid (show Below W5.heap.size W5 W5.drew from (Below.refl _ _).drew)
  clear hBb hblk5 hC
  rcases five h2 h3 with rfl | rfl | rfl | rfl | rfl
  · have hcc := Lib.hid (fun W hW => (⟨hW, (hq W hW).1, (hq W hW).2.1, ((hq W hW).2.2 0).trans (hfc 0)⟩ : _ ∧ _ ∧ _ ∧ W.cell? ⟨w1.heap.size, 0, none⟩ = some (.func (Fn.method "sward/shape.find") #[.iface 154 (.agg #[])] #[])))
    have hls := Lib.hid (hF 154 161 (by omega))
    have hm : ∀ W : World, (method 312 154 (.agg #[]) "sward/shape.find").run Tryz.prog W = .ok (161, .agg #[]) W := fun _ => by kernel_rfl
    clear hq hfc hF
    have hwr : IntKind.i64.wrap (0 : Int) = 0 := by decide
    go_region_held3 (fun W' => Below W5.heap.size W5 W' ∧ W'.cell? ⟨w.heap.size, 0, none⟩ = some (.int .i64 1) ∧ W'.cell? ⟨w.heap.size, 1, none⟩ = some (.int .i64 root) ∧ W'.cell? ⟨w1.heap.size, 0, none⟩ = some (.func (Fn.method "sward/shape.find") #[.iface 154 (.agg #[])] #[]))
      (first
        | exact hcc.out _ (by assumption)
        | exact hcc.out _ hBd.out
        | fail)
      (first
        | (go_at_call 161; refine (hls.out _ _ _ ?hl).mono ?_; (case hl => first | exact hNod.out _ (by assumption) | exact hNod.out _ hBd.out); rintro e w4 ⟨rfl, hb2⟩; have hB4 : Below W5.heap.size W5 w4 := Below.trans hBd.out hb2; replace hb2 := Lib.hid hb2))
    have hBf := Lib.hid (hBw.out _ (show Below W5.heap.size W5 w4 from by assumption))
    go_wp2
    go_ret3
    exact ⟨rfl, hBf.out⟩
  · have hcc := Lib.hid (fun W hW => (⟨hW, (hq W hW).1, (hq W hW).2.1, ((hq W hW).2.2 1).trans (hfc 1)⟩ : _ ∧ _ ∧ _ ∧ W.cell? ⟨w1.heap.size, 1, none⟩ = some (.func (Fn.method "sward/shape.find") #[.iface 155 (.agg #[])] #[])))
    have hls := Lib.hid (hF 155 166 (by omega))
    have hm : ∀ W : World, (method 312 155 (.agg #[]) "sward/shape.find").run Tryz.prog W = .ok (166, .agg #[]) W := fun _ => by kernel_rfl
    clear hq hfc hF
    have hwr : IntKind.i64.wrap (1 : Int) = 1 := by decide
    go_region_held3 (fun W' => Below W5.heap.size W5 W' ∧ W'.cell? ⟨w.heap.size, 0, none⟩ = some (.int .i64 2) ∧ W'.cell? ⟨w.heap.size, 1, none⟩ = some (.int .i64 root) ∧ W'.cell? ⟨w1.heap.size, 1, none⟩ = some (.func (Fn.method "sward/shape.find") #[.iface 155 (.agg #[])] #[]))
      (first
        | exact hcc.out _ (by assumption)
        | exact hcc.out _ hBd.out
        | fail)
      (first
        | (go_at_call 166; refine (hls.out _ _ _ ?hl).mono ?_; (case hl => first | exact hNod.out _ (by assumption) | exact hNod.out _ hBd.out); rintro e w4 ⟨rfl, hb2⟩; have hB4 : Below W5.heap.size W5 w4 := Below.trans hBd.out hb2; replace hb2 := Lib.hid hb2))
    have hBf := Lib.hid (hBw.out _ (show Below W5.heap.size W5 w4 from by assumption))
    go_wp2
    go_ret3
    exact ⟨rfl, hBf.out⟩
  · have hcc := Lib.hid (fun W hW => (⟨hW, (hq W hW).1, (hq W hW).2.1, ((hq W hW).2.2 2).trans (hfc 2)⟩ : _ ∧ _ ∧ _ ∧ W.cell? ⟨w1.heap.size, 2, none⟩ = some (.func (Fn.method "sward/shape.find") #[.iface 119 (.agg #[])] #[])))
    have hls := Lib.hid (hF 119 153 (by omega))
    have hm : ∀ W : World, (method 312 119 (.agg #[]) "sward/shape.find").run Tryz.prog W = .ok (153, .agg #[]) W := fun _ => by kernel_rfl
    clear hq hfc hF
    have hwr : IntKind.i64.wrap (2 : Int) = 2 := by decide
    go_region_held3 (fun W' => Below W5.heap.size W5 W' ∧ W'.cell? ⟨w.heap.size, 0, none⟩ = some (.int .i64 3) ∧ W'.cell? ⟨w.heap.size, 1, none⟩ = some (.int .i64 root) ∧ W'.cell? ⟨w1.heap.size, 2, none⟩ = some (.func (Fn.method "sward/shape.find") #[.iface 119 (.agg #[])] #[]))
      (first
        | exact hcc.out _ (by assumption)
        | exact hcc.out _ hBd.out
        | fail)
      (first
        | (go_at_call 153; refine (hls.out _ _ _ ?hl).mono ?_; (case hl => first | exact hNod.out _ (by assumption) | exact hNod.out _ hBd.out); rintro e w4 ⟨rfl, hb2⟩; have hB4 : Below W5.heap.size W5 w4 := Below.trans hBd.out hb2; replace hb2 := Lib.hid hb2))
    have hBf := Lib.hid (hBw.out _ (show Below W5.heap.size W5 w4 from by assumption))
    go_wp2
    go_ret3
    exact ⟨rfl, hBf.out⟩
  · have hcc := Lib.hid (fun W hW => (⟨hW, (hq W hW).1, (hq W hW).2.1, ((hq W hW).2.2 3).trans (hfc 3)⟩ : _ ∧ _ ∧ _ ∧ W.cell? ⟨w1.heap.size, 3, none⟩ = some (.func (Fn.method "sward/shape.find") #[.iface 156 (.agg #[])] #[])))
    have hls := Lib.hid (hF 156 179 (by omega))
    have hm : ∀ W : World, (method 312 156 (.agg #[]) "sward/shape.find").run Tryz.prog W = .ok (179, .agg #[]) W := fun _ => by kernel_rfl
    clear hq hfc hF
    have hwr : IntKind.i64.wrap (3 : Int) = 3 := by decide
    go_region_held3 (fun W' => Below W5.heap.size W5 W' ∧ W'.cell? ⟨w.heap.size, 0, none⟩ = some (.int .i64 4) ∧ W'.cell? ⟨w.heap.size, 1, none⟩ = some (.int .i64 root) ∧ W'.cell? ⟨w1.heap.size, 3, none⟩ = some (.func (Fn.method "sward/shape.find") #[.iface 156 (.agg #[])] #[]))
      (first
        | exact hcc.out _ (by assumption)
        | exact hcc.out _ hBd.out
        | fail)
      (first
        | (go_at_call 179; refine (hls.out _ _ _ ?hl).mono ?_; (case hl => first | exact hNod.out _ (by assumption) | exact hNod.out _ hBd.out); rintro e w4 ⟨rfl, hb2⟩; have hB4 : Below W5.heap.size W5 w4 := Below.trans hBd.out hb2; replace hb2 := Lib.hid hb2))
    have hBf := Lib.hid (hBw.out _ (show Below W5.heap.size W5 w4 from by assumption))
    go_wp2
    go_ret3
    exact ⟨rfl, hBf.out⟩
  · have hcc := Lib.hid (fun W hW => (⟨hW, (hq W hW).1, (hq W hW).2.1, ((hq W hW).2.2 4).trans (hfc 4)⟩ : _ ∧ _ ∧ _ ∧ W.cell? ⟨w1.heap.size, 4, none⟩ = some (.func (Fn.method "sward/shape.find") #[.iface 157 (.agg #[])] #[])))
    have hls := Lib.hid (hF 157 189 (by omega))
    have hm : ∀ W : World, (method 312 157 (.agg #[]) "sward/shape.find").run Tryz.prog W = .ok (189, .agg #[]) W := fun _ => by kernel_rfl
    clear hq hfc hF
    have hwr : IntKind.i64.wrap (4 : Int) = 4 := by decide
    go_region_held3 (fun W' => Below W5.heap.size W5 W' ∧ W'.cell? ⟨w.heap.size, 0, none⟩ = some (.int .i64 5) ∧ W'.cell? ⟨w.heap.size, 1, none⟩ = some (.int .i64 root) ∧ W'.cell? ⟨w1.heap.size, 4, none⟩ = some (.func (Fn.method "sward/shape.find") #[.iface 157 (.agg #[])] #[]))
      (first
        | exact hcc.out _ (by assumption)
        | exact hcc.out _ hBd.out
        | fail)
      (first
        | (go_at_call 189; refine (hls.out _ _ _ ?hl).mono ?_; (case hl => first | exact hNod.out _ (by assumption) | exact hNod.out _ hBd.out); rintro e w4 ⟨rfl, hb2⟩; have hB4 : Below W5.heap.size W5 w4 := Below.trans hBd.out hb2; replace hb2 := Lib.hid hb2))
    have hBf := Lib.hid (hBw.out _ (show Below W5.heap.size W5 w4 from by assumption))
    go_wp2
    go_ret3
    exact ⟨rfl, hBf.out⟩
end Go.Proofs.YtbfedeedicnedaaGreat
end
