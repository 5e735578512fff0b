/-
  Texts of this claim: ShBB, ShK, ShL.
-/
import Derived.Test.YtbfedeedicnedaaGreatSj08
import Derived.Test.YtbfedeedicnedaaGreatSj09
import Derived.Test.YtbfedeedicnedaaGreatSj16
import Derived.Outline
set_option linter.unusedVariables false
set_option linter.unusedSimpArgs false
set_option maxHeartbeats 8000000
set_option maxRecDepth 100000
section
namespace Go.Proofs.YtbfedeedicnedaaGreat
open Go.RowKit
open Go.Proofs.YtbfedeedicnedaaGreatW.PrintWords
theorem node_f (H : Sh.Hp) (n : Int) (hl : H.length ≤ 9223372036854775807) : PAll.swardref12_node.f (sn H) n = some (if Sh.there H n = true then ((Sh.nd H n).1, (Sh.nd H n).2, true) else ([], [], false)) := by
 unfold PAll.swardref12_node.f PAll.swardref12_in.f
 rw [sn_len]
 have hw : wrap64 ((H.length : Int) - 1) = (H.length : Int) - 1 := by unfold wrap64; omega
 rw [hw, (rd_sn H n).1, (rd_sn H n).2]
 by_cases h0 : n ≥ 0
 ·rw [if_pos h0, Option.bind_some]
  by_cases h1 : n < (H.length : Int)
  ·have ht : Sh.there H n = true := Sh.there_iff.2 ⟨h0, h1⟩
   rw [decide_eq_true (show n ≤ (H.length : Int) - 1 by omega), ht]
   simp only [if_true]
   rw [if_pos (show 0 ≤ n from h0), if_pos h1]
  ·have ht : Sh.there H n ≠ true := fun h => h1 (Sh.there_iff.1 h).2
   rw [decide_eq_false (show ¬ n ≤ (H.length : Int) - 1 by omega), if_neg ht]
   simp
 ·have ht : Sh.there H n ≠ true := fun h => h0 (Sh.there_iff.1 h).1
  rw [if_neg h0, Option.bind_some, if_neg ht]
  simp
theorem below_more {w W : World} (h : Below w.heap.size w W) (o : Obj) : Below w.heap.size w (W.alloc o) := h.alloc h.size o
def GotN (H : Sh.Hp) (n : Int) (w' : World) (e : Ending) : Prop := ∃ A0 c0 A1 c1 l0 l1, e = .returned (.tuple #[.agg #[.slice A0 (l0 : List Int).length c0, .slice A1 (l1 : List Int).length c1], .bool (Sh.there H n)]) ∧ (Sh.there H n = true → l0 = (Sh.nd H n).1 ∧ l1 = (Sh.nd H n).2) ∧ l0.length ≤ c0 ∧ Kd.C kI w' A0 l0.length l0 ∧ l1.length ≤ c1 ∧ Kd.C kI w' A1 l1.length l1
theorem rnode_calls (H : Sh.Hp) (n : Int) (A : Option Addr) (c : Nat) (w : World) (hC : Nodes w A H) (hc : H.length ≤ c) :
  Calls Tryz.prog 102 #[.slice A H.length c, .int .i64 n] w fun e w' => GotN H n w' e ∧ Below w.heap.size w w' := by
 have hl : H.length ≤ 9223372036854775807 := hC.2.1
 have hV : Kd.V PAll.k95 95 w w.heap.size (fun k_ => k_ < w.heap.size) (.slice A (sn H).length c) (sn H) := by
  refine Kd.V_mk (by rw [sn_len]; exact hc) (Kd.C_F PAll.k95_heap ?_)
  rw [sn_len]
  exact hC
 have hf := node_f H n hl
 obtain ⟨l0, l1, b, hr, hb, hl01⟩ : ∃ l0 l1 b, PAll.swardref12_node.f (sn H) n = some (l0, l1, b) ∧ b = Sh.there H n ∧ (Sh.there H n = true → l0 = (Sh.nd H n).1 ∧ l1 = (Sh.nd H n).2) := by
  by_cases ht : Sh.there H n = true
  ·rw [if_pos ht] at hf
   exact ⟨_, _, _, hf, ht.symm, fun _ => ⟨rfl, rfl⟩⟩
  ·rw [if_neg ht] at hf
   exact ⟨_, _, _, hf, by cases h : Sh.there H n; rfl; exact absurd h ht, fun h => absurd h ht⟩
 have hcl := PAll.swardref12_node.calls _ A c (sn H) n l0 l1 b w hV hr
 rw [sn_len] at hcl
 refine hcl.mono ?_
 rintro e w' ⟨v0, v1, rfl, h0, h1, hB⟩
 obtain ⟨A0, c0, rfl⟩ := Kd.V_slice h0
 obtain ⟨A1, c1, rfl⟩ := Kd.V_slice h1
 exact ⟨⟨A0, c0, A1, c1, l0, l1, by rw [hb], hl01, (Kd.V_reads' h0).2.1, (Kd.V_reads' h0).2.2, (Kd.V_reads' h1).2.1, (Kd.V_reads' h1).2.2⟩, hB⟩
theorem in_calls (n lo hi : Int) {b : Bool} (h : (decide (lo ≤ n) && decide (n ≤ hi)) = b) (w : World) : Calls Tryz.prog 63 #[.int .i64 n, .int .i64 lo, .int .i64 hi] w fun e w' => e = .returned (.bool b) ∧ w' = w := by
 subst h
 by_cases h0 : lo ≤ n
 ·rw [decide_eq_true h0, Bool.true_and]
  go_enter Tryz.func63, Tryz.ntmps63
  go_wp2
  go_ret
  exact ⟨rfl, rfl⟩
 ·rw [decide_eq_false h0, Bool.false_and]
  go_enter Tryz.func63, Tryz.ntmps63
  go_wp2
  go_ret
  exact ⟨rfl, rfl⟩
def GotT (base : Nat) (w' : World) (e : Ending) (r : Option (List Int)) (t : Int) : Prop := ∃ v, e = .returned (.tuple #[v, .int .i64 (if r.isSome then t else 0), .bool r.isSome]) ∧ Ints w' base v (r.getD [])
theorem GotT.nil (base : Nat) (w' : World) (t : Int) : GotT base w' (.returned (.tuple #[.slice none 0 0, .int .i64 0, .bool false])) none t := ⟨_, rfl, Kd.R_nil _ _ _ _ _⟩
theorem rtree_calls : ∀ (g : Nat) (H : Sh.Hp) (root low high : Int) (A : Option Addr) (c : Nat) (w : World), Nodes w A H → H.length ≤ c → 0 ≤ low → high ≤ 1023 → low ≤ high + 1 → high - low + 2 ≤ g →
  Calls Tryz.prog 66 #[.slice A H.length c, .int .i64 root, .int .i64 low, .int .i64 high] w fun e w' => GotT w.heap.size w' e (Sh.walkTree H g root (low - 1) (high + 1)) (Sh.height H root) ∧ Below w.heap.size w w' := by
 intro g
 induction g with
 | zero => intro H root low high A c w _ _ _ h1 h2 h3; omega
 | succ g ih =>
  intro H root low high A c w hC hc hlo hhi hlh hg
  unfold Sh.walkTree
  by_cases hr : root = -1
  ·rw [if_pos hr]
   subst hr
   clear ih
   go_enter Tryz.func66, Tryz.ntmps66
   go_wp2
   go_ret3
   exact ⟨⟨_, rfl, Kd.R_nil _ _ _ _ _⟩, Below.refl _ _⟩
  ·rw [if_neg hr]
   have hnc := Lib.hid (rnode_calls H root A c w hC hc)
   have hrb : (root == -1) = false := beq_eq_false_iff_ne.mpr hr
   by_cases ht : Sh.there H root = true
   case neg =>
    have ht' : Sh.there H root = false := by simpa using ht
    rw [ht']
    simp only [Bool.false_and, Bool.not_false, if_true]
    clear ih
    go_enter Tryz.func66, Tryz.ntmps66
    go_wp2_with fail
    refine (hnc.out).mono ?_
    rintro e w1 ⟨⟨A0, c0, A1, c1, l0, l1, rfl, -, -, h1, -, h2⟩, hB1⟩
    rw [ht']
    have hB2 := Lib.hid (hB1.alloc hB1.size (.cells #[.slice A0 l0.length c0, .slice A1 l1.length c1] 95))
    clear h1 h2 hB1
    go_wp2
    go_ret3
    exact ⟨GotT.nil _ _ _, hB2.out⟩
   case pos =>
    obtain ⟨hr0, hr1⟩ := Sh.there_iff.1 ht
    have htt : Hid (Sh.there H root = true) := Lib.hid ht
    rw [ht, Bool.true_and]
    have hhh : Sh.height H root = Sh.gi (Sh.nd H root).1 1 := by
     unfold Sh.height
     rw [if_neg hr]
    rw [hhh]
    by_cases hn : (Sh.nd H root).1.length = 2 ∧ (Sh.nd H root).2.length = 2
    case neg =>
     have hb : ((Sh.nd H root).1.length == 2 && (Sh.nd H root).2.length == 2) = false := by
      rw [Bool.and_eq_false_iff, beq_eq_false_iff_ne, beq_eq_false_iff_ne]
      omega
     rw [hb]
     simp only [Bool.not_false, if_true]
     clear ih hb ht hC hhh
     go_enter Tryz.func66, Tryz.ntmps66
     go_wp2_with fail
     refine (hnc.out).mono ?_
     rintro e w1 ⟨⟨A0, c0, A1, c1, l0, l1, rfl, hl, -, h1, -, h2⟩, hB1⟩
     rw [htt.out]
     obtain ⟨rfl, rfl⟩ := hl htt.out
     have hB2 := Lib.hid (hB1.alloc hB1.size (.cells #[.slice A0 (Sh.nd H root).1.length c0, .slice A1 (Sh.nd H root).2.length c1] 95))
     clear h1 h2 hB1
     generalize Sh.gi (Sh.nd H root).1 1 = t at *
     generalize (Sh.nd H root).1.length = n0 at *
     generalize (Sh.nd H root).2.length = n1 at *
     by_cases h0 : n0 = 2
     ·have h1 : ¬ n1 = 2 := fun h => hn ⟨h0, h⟩
      have e0 : ((n0 : Int) != 2) = false := bne_eq_false_iff_eq.mpr (by omega)
      have e1 : ((n1 : Int) != 2) = true := bne_iff_ne.mpr (by omega)
      clear hn h0 h1
      go_wp2
      go_ret3
      exact ⟨GotT.nil _ _ _, hB2.out⟩
     ·have e0 : ((n0 : Int) != 2) = true := bne_iff_ne.mpr (by omega)
      clear hn h0
      go_wp2
      go_ret3
      exact ⟨GotT.nil _ _ _, hB2.out⟩
    case pos =>
     obtain ⟨hn0, hn1⟩ := hn
     rw [hn0, hn1]
     simp only [BEq.rfl, Bool.and_self, Bool.not_true, Bool.false_eq_true, if_false]
     obtain ⟨N0, hN0⟩ : ∃ N0, N0 = (Sh.nd H root).1 := ⟨_, rfl⟩
     obtain ⟨N1, hN1⟩ : ∃ N1, N1 = (Sh.nd H root).2 := ⟨_, rfl⟩
     rw [← hN0] at hn0 ⊢
     rw [← hN1] at hn1 ⊢
     replace hN0 := Lib.hid hN0
     replace hN1 := Lib.hid hN1
     obtain ⟨x, hx⟩ : ∃ x, x = Sh.gi N0 0 := ⟨_, rfl⟩
     obtain ⟨t, htv⟩ : ∃ t, t = Sh.gi N0 1 := ⟨_, rfl⟩
     obtain ⟨a, ha⟩ : ∃ a, a = Sh.gi N1 0 := ⟨_, rfl⟩
     obtain ⟨b, hb⟩ : ∃ b, b = Sh.gi N1 1 := ⟨_, rfl⟩
     rw [← hx, ← htv, ← ha, ← hb]
     replace hx := Lib.hid hx
     replace htv := Lib.hid htv
     replace ha := Lib.hid ha
     replace hb := Lib.hid hb
     have hC0 := Lib.hid hC
     replace hn0 := Lib.hid hn0
     replace hn1 := Lib.hid hn1
     clear ht hC hhh
     by_cases hin : low ≤ x ∧ x ≤ high
     case neg =>
      rw [if_pos (by omega)]
      have hic := Lib.hid (fun W => in_calls x low high (b := false) (by rw [Bool.and_eq_false_iff, decide_eq_false_iff_not, decide_eq_false_iff_not]; omega) W)
      clear ih hin
      go_enter Tryz.func66, Tryz.ntmps66
      go_wp2_with fail
      refine (hnc.out).mono ?_
      rintro e w1 ⟨⟨A0, c0, A1, c1, l0, l1, rfl, hl, -, h1, -, h2⟩, hB1⟩
      obtain ⟨rfl, rfl⟩ : l0 = N0 ∧ l1 = N1 := by have := hl htt.out; exact ⟨this.1.trans hN0.out.symm, this.2.trans hN1.out.symm⟩
      rw [htt.out]
      rw [hn0.out] at h1
      rw [hn0.out, hn1.out]
      have hB2 := Lib.hid (hB1.alloc hB1.size (.cells #[.slice A0 2 c0, .slice A1 2 c1] 95))
      obtain ⟨ad0, rfl, e0, e01⟩ := at_one h1 (Nat.le_refl 2)
      rw [← hx.out] at e0
      have e0w : ∀ o, (w1.alloc o).cell? ad0 = some (.int .i64 x) := fun o => pw_cell_below ((Below.refl _ _).alloc (Nat.le_refl _) o) e0
      clear h1 h2 hB1 hl e01 e0
      go_wp2_with fail
      refine (hic.out _).mono ?_
      rintro e w2 ⟨rfl, rfl⟩
      go_wp2
      go_ret3
      exact ⟨GotT.nil _ _ _, hB2.out⟩
     case pos =>
      obtain ⟨hxl, hxh⟩ := hin
      rw [if_neg (by omega)]
      obtain ⟨R, hR⟩ : ∃ R, R = ((Sh.walkTree H g a (low - 1) x).bind fun one => (Sh.walkTree H g b x (high + 1)).bind fun two =>
       if Sh.height H a ≤ Sh.height H b + 1 ∧ Sh.height H b ≤ Sh.height H a + 1 ∧ t = 1 + max (Sh.height H a) (Sh.height H b) then some (one ++ x :: two) else none) := ⟨_, rfl⟩
      rw [← hR]
      replace hR := Lib.hid hR
      have hic := Lib.hid (fun W => in_calls x low high (b := true) (by rw [decide_eq_true hxl, decide_eq_true hxh]; rfl) W)
      have ih1 := Lib.hid (fun (W : World) (hW : Nodes W A H) => by
       have := ih H a low (x - 1) A c W hW hc hlo (by omega) (by omega) (by omega)
       rwa [show x - 1 + 1 = x by omega] at this)
      have ih2 := Lib.hid (fun (W : World) (hW : Nodes W A H) => by
       have := ih H b (x + 1) high A c W hW hc (by omega) hhi (by omega) (by omega)
       rwa [show x + 1 - 1 = x by omega] at this)
      have hw1 : IntKind.i64.wrap (x - 1) = x - 1 := IntWalk.i64_in _ (by omega)
      have hw2 : IntKind.i64.wrap (x + 1) = x + 1 := IntWalk.i64_in _ (by omega)
      replace hw1 := Lib.hid hw1
      replace hw2 := Lib.hid hw2
      clear ih
      go_enter Tryz.func66, Tryz.ntmps66
      go_wp2_with fail
      refine (hnc.out).mono ?_
      rintro e w1 ⟨⟨A0, c0, A1, c1, l0, l1, rfl, hl, -, h1, -, h2⟩, hB1⟩
      obtain ⟨rfl, rfl⟩ : l0 = N0 ∧ l1 = N1 := by have := hl htt.out; exact ⟨this.1.trans hN0.out.symm, this.2.trans hN1.out.symm⟩
      rw [htt.out]
      rw [hn0.out] at h1
      rw [hn1.out] at h2
      rw [hn0.out, hn1.out]
      obtain ⟨ad0, rfl, e0, e01⟩ := at_one h1 (Nat.le_refl 2)
      obtain ⟨ad1, rfl, f0, f1⟩ := at_one h2 (Nat.le_refl 2)
      rw [← hx.out] at e0
      rw [← htv.out] at e01
      rw [← ha.out] at f0
      rw [← hb.out] at f1
      obtain ⟨W2, hW2⟩ : ∃ W2, W2 = w1.alloc (.cells #[.slice (some ad0) 2 c0, .slice (some ad1) 2 c1] 95) := ⟨_, rfl⟩
      have hs2 : W2.heap.size = w1.heap.size + 1 := by rw [hW2, World.size_alloc]
      have hB2 : Below w.heap.size w W2 := by
       rw [hW2]
       exact hB1.alloc hB1.size _
      have hB12 : Below w1.heap.size w1 W2 := by
       rw [hW2]
       exact (Below.refl _ _).alloc (Nat.le_refl _) _
      obtain ⟨g5, hg5⟩ : ∃ g5, g5 = w1.heap.size := ⟨_, rfl⟩
      have hlt : ∀ {ad v}, w1.cell? ad = some v → ∀ W', Below (g5 + 1) W2 W' → W'.cell? ad = some v := fun h W' hW' =>
       pw_cell_below (hB12.trans (hW'.mono (by omega))) h
      have e0' := hlt e0
      have e01' := hlt e01
      have f0' := hlt f0
      have f1' := hlt f1
      have hblk : W2.heap[g5]? = some (.cells #[.slice (some ad0) 2 c0, .slice (some ad1) 2 c1] 95 (0, 0)) := by rw [hW2, hg5]; exact heap_alloc_new w1 _
      have k0 : ∀ W', Below (g5 + 1) W2 W' → W'.cell? ⟨g5, 0, none⟩ = some (.slice (some ad0) 2 c0) := fun W' hW' => by
       rw [hW'.cell (p := ⟨g5, 0, none⟩) (by show g5 < _; omega), blk_cell hblk]
       rfl
      have k1 : ∀ W', Below (g5 + 1) W2 W' → W'.cell? ⟨g5, 1, none⟩ = some (.slice (some ad1) 2 c1) := fun W' hW' => by
       rw [hW'.cell (p := ⟨g5, 1, none⟩) (by show g5 < _; omega), blk_cell hblk]
       rfl
      have hNod := Lib.hid (fun (W' : World) (hW' : Below (g5 + 1) W2 W') => (Kd.C_below hC0.out (hB2.trans (hW'.mono (by have := hB1.size; omega))) : Nodes W' A H))
      have hk1 := Lib.hid (fun (W' : World) (hW' : Below (g5 + 1) W2 W') => (⟨hW', k0 W' hW', k1 W' hW', e0' W' hW', f0' W' hW'⟩ : _ ∧ _ ∧ _ ∧ _ ∧ _))
      have hk2 := Lib.hid (fun (W' : World) (hW' : Below (g5 + 1) W2 W') => (⟨hW', k0 W' hW', k1 W' hW', e0' W' hW', f1' W' hW'⟩ : _ ∧ _ ∧ _ ∧ _ ∧ _))
      have hk3 := Lib.hid (fun (W' : World) (hW' : Below (g5 + 1) W2 W') => (⟨k0 W' hW', k1 W' hW', e0' W' hW', e01' W' hW'⟩ : _ ∧ _ ∧ _ ∧ _))
      have hBd := Lib.hid (show Below (g5 + 1) W2 W2.drew from (Below.refl _ _).drew)
      have hsz := Lib.hid (show g5 + 1 ≤ W2.drew.heap.size by show _ ≤ W2.heap.size; omega)
      have hgw := Lib.hid (show w.heap.size ≤ g5 by rw [hg5]; exact hB1.size)
      have hlw := Lib.hid (fun (W' : World) (hW' : Below (g5 + 1) W2 W') => (hB2.trans (hW'.mono (by have := hgw.out; omega)) : Below w.heap.size w W'))
      have e0w : ∀ o, (w1.alloc o).cell? ad0 = some (.int .i64 x) := fun o => pw_cell_below ((Below.refl _ _).alloc (Nat.le_refl _) o) e0
      clear e0' e01' f0' f1' k0 k1 hlt hB12 h1 h2 e0 e01 f0 f1 hblk hl hB1 hB2 hs2 hx htv ha hb hC0
      go_wp2_with fail
      refine (hic.out _).mono ?_
      rintro e w2 ⟨rfl, rfl⟩
      go_wp2
      rw [← hW2, ← hg5]
      clear hW2 e0w
      replace hg5 := Lib.hid hg5
      have hw1' := hw1.out
      rcases h1 : Sh.walkTree H g a (low - 1) x with _ | one
      ·rw [h1] at ih1
       have hr1 : Hid (∀ W, Nodes W A H → Calls Tryz.prog 66 #[.slice A H.length c, .int .i64 a, .int .i64 low, .int .i64 (x - 1)] W fun e w' => (∃ v, e = .returned (.tuple #[v, .int .i64 0, .bool false]) ∧ Ints w' W.heap.size v []) ∧ Below W.heap.size W w') := ih1
       obtain rfl : R = none := by rw [hR.out, h1]; rfl
       clear ih1 ih2 h1 hk2 hk3
       go_region_held3 (fun W' => Below (g5 + 1) W2 W' ∧ W'.cell? ⟨g5, 0, none⟩ = some (.slice (some ad0) 2 c0) ∧ W'.cell? ⟨g5, 1, none⟩ = some (.slice (some ad1) 2 c1) ∧ W'.cell? ad0 = some (.int .i64 x) ∧ W'.cell? ad1 = some (.int .i64 a))
        (first
         | exact hk1.out _ (by assumption)
         | exact hk1.out _ hBd.out
         | fail)
        (first
         | (go_at_call 66; refine (hr1.out _ ?hl).mono ?_; (case hl => first | exact hNod.out _ (by assumption) | exact hNod.out _ hBd.out); rintro e w3 ⟨⟨v1, rfl, ho1⟩, hb1⟩; have hB3 : Below (g5 + 1) W2 w3 := Below.trans hBd.out (hb1.mono hsz.out); replace ho1 := Lib.hid ho1; replace hb1 := Lib.hid hb1))
       replace hB3 := Lib.hid (show Below (g5 + 1) W2 w3 from by assumption)
       clear hw1'
       go_wp2
       go_ret3
       exact ⟨GotT.nil _ _ _, hlw.out _ hB3.out⟩
      ·rw [h1] at ih1
       have hr1 : Hid (∀ W, Nodes W A H → Calls Tryz.prog 66 #[.slice A H.length c, .int .i64 a, .int .i64 low, .int .i64 (x - 1)] W fun e w' => (∃ v, e = .returned (.tuple #[v, .int .i64 (Sh.height H a), .bool true]) ∧ Ints w' W.heap.size v one) ∧ Below W.heap.size W w') := ih1
       obtain ⟨t1, T1⟩ := Sh.walk_tr g h1
       rw [T1.height] at hr1
       have n1 := T1.nonneg
       have m1 := T1.high
       have q1 := T1.count (by omega)
       have hT1 := Lib.hid T1
       clear ih1 T1
       go_region_held3 (fun W' => Below (g5 + 1) W2 W' ∧ W'.cell? ⟨g5, 0, none⟩ = some (.slice (some ad0) 2 c0) ∧ W'.cell? ⟨g5, 1, none⟩ = some (.slice (some ad1) 2 c1) ∧ W'.cell? ad0 = some (.int .i64 x) ∧ W'.cell? ad1 = some (.int .i64 a))
        (first
         | exact hk1.out _ (by assumption)
         | exact hk1.out _ hBd.out
         | fail)
        (first
         | (go_at_call 66; refine (hr1.out _ ?hl).mono ?_; (case hl => first | exact hNod.out _ (by assumption) | exact hNod.out _ hBd.out); rintro e w3 ⟨⟨v1, rfl, ho1⟩, hb1⟩; have hB3 : Below (g5 + 1) W2 w3 := Below.trans hBd.out (hb1.mono hsz.out); replace ho1 := Lib.hid ho1; replace hb1 := Lib.hid hb1))
       replace hB3 := Lib.hid (show Below (g5 + 1) W2 w3 from by assumption)
       have ho1' := Lib.hid (Kd.R_lower ho1.out (show w.heap.size ≤ W2.drew.heap.size by have := hsz.out; have := hgw.out; omega))
       have hs3 := Lib.hid (show g5 + 1 ≤ w3.drew.heap.size by have h8 := hb1.out.size; have := hsz.out; show _ ≤ w3.heap.size; omega)
       have hBd3 := Lib.hid (show Below (g5 + 1) W2 w3.drew from hB3.out.drew)
       clear hsz hBd hk1 hb1 ho1 hr1 hw1'
       go_wp2
       have hw2' := hw2.out
       rcases h2 : Sh.walkTree H g b x (high + 1) with _ | two
       ·rw [h2] at ih2
        have hr2 : Hid (∀ W, Nodes W A H → Calls Tryz.prog 66 #[.slice A H.length c, .int .i64 b, .int .i64 (x + 1), .int .i64 high] W fun e w' => (∃ v, e = .returned (.tuple #[v, .int .i64 0, .bool false]) ∧ Ints w' W.heap.size v []) ∧ Below W.heap.size W w') := ih2
        obtain rfl : R = none := by rw [hR.out, h1, h2]; rfl
        clear ih2 h1 h2 hk3
        go_region_held3 (fun W' => Below (g5 + 1) W2 W' ∧ W'.cell? ⟨g5, 0, none⟩ = some (.slice (some ad0) 2 c0) ∧ W'.cell? ⟨g5, 1, none⟩ = some (.slice (some ad1) 2 c1) ∧ W'.cell? ad0 = some (.int .i64 x) ∧ W'.cell? ⟨ad1.block, ad1.off + 1, none⟩ = some (.int .i64 b))
         (first
          | exact hk2.out _ (by assumption)
          | exact hk2.out _ hBd3.out
          | fail)
         (first
          | (go_at_call 66; refine (hr2.out _ ?hl).mono ?_; (case hl => first | exact hNod.out _ (by assumption) | exact hNod.out _ hBd3.out); rintro e w4 ⟨⟨v2, rfl, ho2⟩, hb2⟩; have hB4 : Below (g5 + 1) W2 w4 := Below.trans hBd3.out (hb2.mono hs3.out); replace ho2 := Lib.hid ho2; replace hb2 := Lib.hid hb2))
        replace hB4 := Lib.hid (show Below (g5 + 1) W2 w4 from by assumption)
        clear hw2'
        go_wp2
        go_ret3
        exact ⟨GotT.nil _ _ _, hlw.out _ hB4.out⟩
       ·rw [h2] at ih2
        have hr2 : Hid (∀ W, Nodes W A H → Calls Tryz.prog 66 #[.slice A H.length c, .int .i64 b, .int .i64 (x + 1), .int .i64 high] W fun e w' => (∃ v, e = .returned (.tuple #[v, .int .i64 (Sh.height H b), .bool true]) ∧ Ints w' W.heap.size v two) ∧ Below W.heap.size W w') := ih2
        obtain ⟨t2, T2⟩ := Sh.walk_tr g h2
        rw [T2.height] at hr2
        have n2 := T2.nonneg
        have m2 := T2.high
        have q2 := T2.count (by omega)
        have hR2 := Lib.hid (show R = if t1 ≤ t2 + 1 ∧ t2 ≤ t1 + 1 ∧ t = 1 + max t1 t2 then some (one ++ x :: two) else none by rw [hR.out, h1, h2, Option.bind_some, Option.bind_some, hT1.out.height, T2.height])
        clear ih2 h1 h2 T2 hT1
        go_region_held3 (fun W' => Below (g5 + 1) W2 W' ∧ W'.cell? ⟨g5, 0, none⟩ = some (.slice (some ad0) 2 c0) ∧ W'.cell? ⟨g5, 1, none⟩ = some (.slice (some ad1) 2 c1) ∧ W'.cell? ad0 = some (.int .i64 x) ∧ W'.cell? ⟨ad1.block, ad1.off + 1, none⟩ = some (.int .i64 b))
         (first
          | exact hk2.out _ (by assumption)
          | exact hk2.out _ hBd3.out
          | fail)
         (first
          | (go_at_call 66; refine (hr2.out _ ?hl).mono ?_; (case hl => first | exact hNod.out _ (by assumption) | exact hNod.out _ hBd3.out); rintro e w4 ⟨⟨v2, rfl, ho2⟩, hb2⟩; have hB4 : Below (g5 + 1) W2 w4 := Below.trans hBd3.out (hb2.mono hs3.out); replace ho2 := Lib.hid ho2; replace hb2 := Lib.hid hb2))
        replace hB4 := Lib.hid (show Below (g5 + 1) W2 w4 from by assumption)
        clear hw2'
        have ho12 := Lib.hid (Kd.R_below (Kd.R_drew ho1'.out) hb2.out)
        have ho2' := Lib.hid (Kd.R_lower ho2.out (show w.heap.size ≤ w3.drew.heap.size by have := hs3.out; have := hgw.out; omega))
        obtain ⟨x0, x1, x2, x3⟩ := hk3.out _ hB4.out
        have hBf := Lib.hid (hlw.out _ hB4.out)
        obtain ⟨m, hm⟩ : ∃ m, m = max t1 t2 := ⟨_, rfl⟩
        obtain ⟨q, hq⟩ : ∃ q, q = min t1 t2 := ⟨_, rfl⟩
        have hm0 : 0 ≤ m := by omega
        have hm1 : m ≤ 2000 := by omega
        have hq0 : 0 ≤ q := by omega
        have hq1 : q ≤ 2000 := by omega
        have hif : (if t1 < t2 then t2 else t1) = m := by rw [max_if, hm]
        have hif2 : (if t2 < t1 then t2 else t1) = q := by rw [hq]; split <;> omega
        have hif3 : (if t1 < t2 then t1 else t2) = q := by rw [hq]; split <;> omega
        by_cases hbal : t1 ≤ t2 + 1 ∧ t2 ≤ t1 + 1 ∧ t = 1 + max t1 t2
        case neg =>
         obtain rfl : R = none := by rw [hR2.out]; exact if_neg hbal
         rw [← hm] at hbal
         by_cases c3 : t = 1 + m
         ·have c3b : (t != 1 + m) = false := bne_eq_false_iff_eq.mpr c3
          subst c3
          have c4 : 1 < m - q := by omega
          have c4b : decide (1 < m - q) = true := decide_eq_true c4
          replace hm := Lib.hid hm
          replace hq := Lib.hid hq
          clear hbal
          go_wp2
          go_ret3
          exact ⟨GotT.nil _ _ _, hBf.out⟩
         ·have c3b : (t != 1 + m) = true := bne_iff_ne.mpr c3
          replace hm := Lib.hid hm
          replace hq := Lib.hid hq
          clear hbal
          go_wp2
          go_ret3
          exact ⟨GotT.nil _ _ _, hBf.out⟩
        case pos =>
         have hRR := Lib.hid (show R = some (one ++ [x] ++ two) by rw [hR2.out, if_pos hbal, List.append_assoc]; rfl)
         rw [← hm] at hbal
         obtain ⟨b1, b2, c3⟩ := hbal
         have c3b : (t != 1 + m) = false := bne_eq_false_iff_eq.mpr c3
         subst c3
         have c4b : decide (1 < m - q) = false := decide_eq_false (by omega)
         have hl1 := Lib.hid (show one.length ≤ 2000 by omega)
         have hl2 := Lib.hid (show two.length ≤ 2000 by omega)
         replace hm := Lib.hid hm
         replace hq := Lib.hid hq
         obtain ⟨A3, c3', rfl, hc3, hR3⟩ := Kd.R_reads ho12.out
         obtain ⟨A4, c4', rfl, hc4, hR4⟩ := Kd.R_reads ho2'.out
         have hRa := Lib.hid (fun W (hW : Below w4.heap.size w4 W) => (Kd.C_below hR3 hW : Kd.C kI W A3 one.length one))
         have hRb := Lib.hid (fun W (hW : Below w4.heap.size w4 W) => (Kd.C_below hR4 hW : Kd.C kI W A4 two.length two))
         have hg4 := Lib.hid (show g5 + 1 ≤ w4.heap.size by have h8 := hb2.out.size; have := hs3.out; omega)
         have hkk := Lib.hid (fun (W' : World) (hW' : Below w4.heap.size w4 W') => (⟨hW', hk3.out W' (hB4.out.trans (hW'.mono hg4.out))⟩ : _ ∧ _ ∧ _ ∧ _ ∧ _))
         have hBw := Lib.hid (show Below w4.heap.size w4 w4.drew from (Below.refl _ _).drew)
         have hBl := Lib.hid (show Below w4.heap.size w4 (w4.drew.alloc (.cells #[.int .i64 x] 3)) from ((Below.refl _ _).drew).alloc (Nat.le_refl _) _)
         have hsz4 := Lib.hid (show w4.heap.size + 1 = (w4.drew.alloc (.cells #[.int .i64 x] 3)).heap.size by rw [World.size_alloc]; rfl)
         have hwz := Lib.hid (show w.heap.size ≤ w4.heap.size from Nat.le_trans hgw.out (by have := hg4.out; omega))
         clear hR3 hR4 hk3 hNod ho12 ho2' ho2 hB4 hb2 hlw b1 b2 hk2 hnc hic hw1 hw2 hR hR2 hr2 n1 n2 m1 m2 q1 q2 hB3 ho1'
         go_wp2
         go_region_held3 (fun W' => Below w4.heap.size w4 W' ∧ W'.cell? ⟨g5, 0, none⟩ = some (.slice (some ad0) 2 c0) ∧ W'.cell? ⟨g5, 1, none⟩ = some (.slice (some ad1) 2 c1) ∧ W'.cell? ad0 = some (.int .i64 x) ∧ W'.cell? ⟨ad0.block, ad0.off + 1, none⟩ = some (.int .i64 (1 + m)))
          (first
           | exact hkk.out _ (by assumption)
           | exact hkk.out _ hBw.out
           | exact hkk.out _ hBl.out
           | exact hkk.out _ (below_more (by assumption) _)
           | fail)
          (first
           | (refine app_all_step (W := w4.drew) (w0 := w4) w4.heap.size (by rfl) _ _ (by rfl) (.slice none 0 0) [] one A3 one.length c3' rfl rfl (Kd.R_nil _ _ _ _ _) (hRa.out _ hBw.out) hBw.out hBw.out.size (by have := hl1.out; simp only [List.length_nil]; omega) ?_; intro v5 w5 a1 a2 a3; have hI1 := Lib.hid (show Ints w5 w4.heap.size v5 one from a1); have hB5 : Below w4.heap.size w4 w5 := a2; clear a1 a2 a3)
           | (refine app_all_step (W := w4.drew.alloc (.cells #[.int .i64 x] 3)) (w0 := w4.drew.alloc (.cells #[.int .i64 x] 3)) (w4.heap.size + 1) (by rfl) _ _ (by rfl) (.slice none 0 0) [] one A3 one.length c3' rfl rfl (Kd.R_nil _ _ _ _ _) (hRa.out _ hBl.out) (Below.refl _ _) (Nat.le_of_eq hsz4.out) (by have := hl1.out; simp only [List.length_nil]; omega) ?_; intro v5 w5 a1 a2 a3; have hI1 := Lib.hid (show Ints w5 w4.heap.size v5 one from Kd.R_lower a1 (Nat.le_succ _)); have hL1 := Lib.hid (lit_read (W := w4.drew) a2); have hB5 : Below w4.heap.size w4 w5 := hBl.out.trans (a2.mono (Nat.le_succ _)); clear a1 a2 a3)
           | (refine app_all_step (W := w5.alloc (.cells #[.int .i64 x] 3)) (w0 := w4) w4.heap.size (by rfl) _ _ (by rfl) v5 one [x] (some ⟨w5.heap.size, 0, none⟩) 1 1 rfl rfl (Kd.R_alloc hI1.out _) (lit_read (Below.refl _ _)) (below_more hB5 _) (below_more hB5 _).size (by have := hl1.out; omega) ?_; intro v6 w6 a1 a2 a3; have hI2 := Lib.hid a1; have hB6 : Below w4.heap.size w4 w6 := a2; clear a1 a2 a3)
           | (refine app_all_step (W := w5) (w0 := w4) w4.heap.size (by rfl) _ _ (by rfl) v5 one [x] (some ⟨w4.heap.size, 0, none⟩) 1 1 rfl rfl hI1.out hL1.out hB5 hB5.size (by have := hl1.out; omega) ?_; intro v6 w6 a1 a2 a3; have hI2 := Lib.hid a1; have hB6 : Below w4.heap.size w4 w6 := a2; clear a1 a2 a3)
           | (refine app_all_step (W := w6) (w0 := w4) w4.heap.size (by rfl) _ _ (by rfl) v6 (one ++ [x]) two A4 two.length c4' rfl rfl hI2.out (hRb.out _ hB6) hB6 hB6.size (by have := hl1.out; have := hl2.out; rw [List.length_append, List.length_singleton]; omega) ?_; intro v7 w7 a1 a2 a3; have hI3 := Lib.hid a1; have hB7 : Below w4.heap.size w4 w7 := a2; clear a1 a2 a3))
         all_goals
          replace hB7 := Lib.hid (show Below w4.heap.size w4 w7 from by assumption)
          go_wp2
          go_ret3
          obtain rfl := hRR.out
          exact ⟨⟨_, rfl, Kd.R_lower hI3.out hwz.out⟩, hBf.out.trans (hB7.out.mono hwz.out)⟩
end Go.Proofs.YtbfedeedicnedaaGreat
end
section
namespace Go.Proofs.YtbfedeedicnedaaGreat
open Go.RowKit
open Go.Proofs.YtbfedeedicnedaaGreatW.PrintWords
theorem clone_calls (A : Option Addr) (c : Nat) (l : List Int) (w : World) (hC : Kd.C kI w A l.length l) (hl : l.length ≤ 1000000) :
    Calls Tryz.prog 76 #[.slice A l.length c] w fun e w' => ∃ v, e = .returned v ∧ Ints w' w.heap.size v l ∧ Below w.heap.size w w' := by
  have hq : ∀ (w : World) (a : Option Addr) (n c n' c' : Nat), (binOp .eql 28 (.slice a n c) (.slice none n' c')).run Tryz.prog w = .ok (.bool a.isNone) w := fun w a n c n' c' => Lib.run_eql_slice_nil w _ _ a n c n' c' Tryz.underlying28
  rcases A with _ | ad
  · have h0 : l = [] := by
      rcases l with _ | ⟨x, l⟩
      · rfl
      · obtain ⟨ad, e, _⟩ := at_zero hC (by simp)
        cases e
    subst h0
    go_enter Tryz.func76, Tryz.ntmps76
    go_wp2
    go_ret
    exact ⟨_, rfl, Kd.R_nil _ _ _ _ _, Below.refl _ _⟩
  · have hq : ∀ (w : World) (a : Option Addr) (n c n' c' : Nat), (binOp .eql 28 (.slice a n c) (.slice none n' c')).run Tryz.prog w = .ok (.bool a.isNone) w := fun w a n c n' c' => Lib.run_eql_slice_nil w _ _ a n c n' c' Tryz.underlying28
    have hCa := Lib.hid (Kd.C_alloc hC (.cells #[] 3))
    have hli := Lib.hid (lit_ints w w.heap.size [] #[] 0 (Nat.le_refl _) (by simp) rfl rfl)
    have hB := Lib.hid (show Below w.heap.size w (w.alloc (.cells #[] 3)) from (Below.refl _ _).alloc (Nat.le_refl _) _)
    clear hC
    go_enter Tryz.func76, Tryz.ntmps76
    go_wp2_with (at_builtin; refine app_all w.heap.size rfl _ _ rfl _ [] l (some ad) l.length c rfl rfl hli.out hCa.out hB.out (by rw [World.size_alloc]; omega) (by simpa using hl) ?_; intro v1 w1 h1 h2 h3)
    go_ret
    exact ⟨_, rfl, by simpa using h1, h2⟩
end Go.Proofs.YtbfedeedicnedaaGreat
end
section
namespace Go.Proofs.YtbfedeedicnedaaGreat
open Go.RowKit
open Go.Proofs.YtbfedeedicnedaaGreatW.PrintWords
namespace Sh
def prev (l : List Int) (i : Nat) : Int := if i = 0 then -1 else gi l (i - 1)
theorem drop_at' (l : List Int) (i : Nat) (h : i < l.length) : l.drop i = gi l i :: l.drop (i + 1) := by
  rw [List.drop_eq_getElem_cons h]
  unfold gi
  rw [List.getD_eq_getElem?_getD, List.getElem?_eq_getElem h]
  rfl
theorem rising_at (l : List Int) (i : Nat) (h : i < l.length) : risingFrom (prev l i) (l.drop i) = (el (gi l i) && (decide (prev l i < gi l i) && risingFrom (prev l (i + 1)) (l.drop (i + 1)))) := by
  rw [drop_at' l i h]
  rfl
theorem el_lt {x : Int} (h : el x = true) : -1 < x := by
  unfold el at h
  simp only [Bool.and_eq_true, decide_eq_true_eq] at h
  omega
end Sh
theorem element_at {w : World} (x : Int) {b : Bool} (h : Sh.el x = b) : Calls Tryz.prog 75 #[.int .i64 x] w fun e w' => e = .returned (.bool b) ∧ w' = w := by
  subst h
  exact element_calls x w
theorem back_one (k j : Nat) (h : k ≤ 1000000) (hj : j + 1 = k) : IntKind.i64.wrap ((k : Int) - 1) = (j : Int) := by
  rw [IntWalk.i64_in _ (by omega)]
  omega
theorem alist_calls (H : Sh.Hp) (root : Int) (A : Option Addr) (c : Nat) (w : World) (hC : Nodes w A H) (hbig : ∀ p ∈ H, p.1.length ≤ 1000000) :
    Calls Tryz.prog 163 #[.agg #[], .slice A H.length c, .int .i64 root] w fun e w' => Got w.heap.size w' e (Sh.listArray H root) ∧ Below w.heap.size w w' := by
  have hB0 := Lib.hid (show Below w.heap.size w (w.alloc (.cells #[] 154)) from (Below.refl _ _).alloc (Nat.le_refl _) _)
  unfold Sh.listArray
  by_cases ht : Sh.there H root = true
  case neg =>
    have ht' : Sh.there H root = false := by simpa using ht
    have hth := Lib.hid (fun W => there_at (w := W) (A := A) (c := c) ht')
    rw [ht']
    simp only [Bool.false_and, Bool.false_eq_true, if_false]
    clear ht ht'
    go_enter Tryz.func163, Tryz.ntmps163
    go_wp2_with fail
    refine (hth.out _).mono ?_
    rintro e w1 ⟨rfl, rfl⟩
    go_wp2
    go_ret2
    exact ⟨⟨_, rfl, Kd.R_nil _ _ _ _ _⟩, hB0.out⟩
  case pos =>
    have hth := Lib.hid (fun W => there_at (w := W) (A := A) (c := c) ht)
    obtain ⟨hr0, hr1⟩ := Sh.there_iff.1 ht
    have hmem : Sh.nd H root ∈ H := List.mem_of_getElem? (Sh.nd_there ht)
    have hsm := hbig _ hmem
    rw [ht, Bool.true_and]
    have hC1 := Kd.C_alloc hC (.cells #[] 154)
    obtain ⟨ad, A0, c0, A1, c1, rfl, d0, d1, l0, g0, l1, g1⟩ := Nodes.at hC1 root hr0 hr1
    obtain ⟨i, rfl⟩ := Int.eq_ofNat_of_zero_le hr0
    simp only [Int.toNat_natCast] at d0 d1
    generalize (Sh.nd H (i : Int)).2.length = n1 at *
    generalize (Sh.nd H (i : Int)).1 = l at *
    by_cases h1 : n1 = 0
    case neg =>
      have hb : (n1 == 0) = false := by rw [beq_eq_false_iff_ne]; exact h1
      rw [hb]
      simp only [Bool.false_and, Bool.false_eq_true, if_false]
      clear hb hC hC1 g0 g1 ht
      go_enter Tryz.func163, Tryz.ntmps163
      go_wp2_with fail
      refine (hth.out _).mono ?_
      rintro e w1 ⟨rfl, rfl⟩
      go_wp2
      go_ret2
      exact ⟨⟨_, rfl, Kd.R_nil _ _ _ _ _⟩, hB0.out⟩
    case pos =>
      subst h1
      simp only [BEq.rfl, Bool.true_and]
      have hg0 := Lib.hid g0
      obtain ⟨T, hT⟩ : ∃ T, T = Sh.rising l := ⟨_, rfl⟩
      rw [← hT]
      obtain ⟨R, hR⟩ : ∃ R, R = (if T = true then some l else none) := ⟨_, rfl⟩
      rw [← hR]
      replace hR := Lib.hid hR
      have hTh := Lib.hid hT
      obtain ⟨n, hn⟩ : ∃ n, n = l.length := ⟨_, rfl⟩
      rw [← hn] at d0 hg0 hsm
      have hnh := Lib.hid hn
      clear hC hC1 g0 g1 ht hT hn
      go_enter Tryz.func163, Tryz.ntmps163
      go_wp2_with fail
      refine (hth.out _).mono ?_
      rintro e w1 ⟨rfl, rfl⟩
      go_wp2
      go_loopg [31] n (fun g v31 wr => ∃ k : Nat, v31 = .int .i64 k ∧ k ≤ n ∧ Hid (g + k = n) ∧ wr = w.alloc (.cells #[] 154) ∧ Hid (T = Sh.risingFrom (Sh.prev l k) (l.drop k)))
      case atStart => exact ⟨0, rfl, Nat.zero_le _, Lib.hid rfl, rfl, Lib.hid hTh.out⟩
      case round =>
        obtain ⟨k, rfl, hk, hg, rfl, hTk⟩ := hrel
        by_cases hlt : k < n
        · obtain ⟨ad0, rfl, e0⟩ := at_int hg0.out k (by omega) (by omega)
          rw [Int.toNat_natCast] at e0
          have hst := Lib.hid (Sh.rising_at l k (by have := hnh.out; omega))
          obtain ⟨x, hx⟩ : ∃ x, x = Sh.gi l k := ⟨_, rfl⟩
          rw [← hx] at e0 hst
          cases he : Sh.el x
          · have hel := Lib.hid (fun W => element_at (w := W) x he)
            have hF : Hid (T = false) := Lib.hid (by rw [hTk.out, hst.out, he]; rfl)
            clear hx he
            go_wp2_with fail
            refine (hel.out _).mono ?_
            rintro e w1 ⟨rfl, rfl⟩
            go_wp2
            obtain rfl : R = none := by rw [hR.out, hF.out]; rfl
            go_ret2
            exact ⟨⟨_, rfl, Kd.R_nil _ _ _ _ _⟩, hB0.out⟩
          · have hel := Lib.hid (fun W => element_at (w := W) x he)
            by_cases hk0 : k = 0
            · subst hk0
              have e0' : (w.alloc (.cells #[] 154)).cell? ad0 = some (.int .i64 x) := e0
              have hst2 : Hid (T = Sh.risingFrom (Sh.prev l 1) (l.drop 1)) := Lib.hid (by rw [hTk.out, hst.out, he, decide_eq_true (show Sh.prev l 0 < x from Sh.el_lt he)]; rfl)
              clear hx he
              go_wp2_with fail
              refine (hel.out _).mono ?_
              rintro e w1 ⟨rfl, rfl⟩
              go_wp2
              go_roundg (n - 1)
              case measure => have := hg.out; omega
              case rel => exact ⟨1, by go_num, by omega, Lib.hid (by omega), rfl, hst2⟩
            · obtain ⟨j, hj⟩ : ∃ j, j + 1 = k := ⟨k - 1, by omega⟩
              have hkp : 0 < k := by omega
              obtain ⟨ad0', e', e1⟩ := at_int hg0.out j (by omega) (by omega)
              cases e'
              rw [Int.toNat_natCast] at e1
              have hp : Sh.prev l k = Sh.gi l j := by rw [← hj]; rfl
              obtain ⟨y, hy⟩ : ∃ y, y = Sh.gi l j := ⟨_, rfl⟩
              rw [← hy] at e1 hp
              have hbk := back_one k j (by omega) hj
              have hjn : j < n := by omega
              replace hj := Lib.hid hj
              by_cases hxy : x ≤ y
              · have hF : Hid (T = false) := Lib.hid (by rw [hTk.out, hst.out, he, hp, decide_eq_false (by omega)]; rfl)
                clear hx hy he hp
                go_wp2_with fail
                refine (hel.out _).mono ?_
                rintro e w1 ⟨rfl, rfl⟩
                go_wp2
                obtain rfl : R = none := by rw [hR.out, hF.out]; rfl
                go_ret2
                exact ⟨⟨_, rfl, Kd.R_nil _ _ _ _ _⟩, hB0.out⟩
              · have hst2 : Hid (T = Sh.risingFrom (Sh.prev l (k + 1)) (l.drop (k + 1))) := Lib.hid (by rw [hTk.out, hst.out, he, hp, decide_eq_true (show y < x by omega)]; rfl)
                clear hx hy he hp
                go_wp2_with fail
                refine (hel.out _).mono ?_
                rintro e w1 ⟨rfl, rfl⟩
                go_wp2
                go_roundg (n - (k + 1))
                case measure => have := hg.out; omega
                case rel => exact ⟨k + 1, by go_num, by omega, Lib.hid (by omega), rfl, hst2⟩
        · have hTt : Hid (T = true) := Lib.hid (by rw [hTk.out, List.drop_of_length_le (by have := hnh.out; omega)]; rfl)
          have hcl := Lib.hid (clone_calls A0 c0 l (w.alloc (.cells #[] 154)) (by have := hg0.out; rwa [hnh.out] at this) (by have := hnh.out; omega))
          rw [← hnh.out] at hcl
          go_wp2_with fail
          refine (hcl.out).mono ?_
          rintro e w1 ⟨v, rfl, ho, hb⟩
          have hB1 := Lib.hid (Below.trans hB0.out (hb.mono (by rw [World.size_alloc]; omega)))
          have ho1 := Lib.hid (Kd.R_lower ho (show w.heap.size ≤ _ by rw [World.size_alloc]; omega))
          clear ho hb
          go_wp2
          obtain rfl : R = some l := by rw [hR.out, hTt.out]; rfl
          go_ret2
          exact ⟨⟨_, rfl, ho1.out⟩, hB1.out⟩
end Go.Proofs.YtbfedeedicnedaaGreat
end
