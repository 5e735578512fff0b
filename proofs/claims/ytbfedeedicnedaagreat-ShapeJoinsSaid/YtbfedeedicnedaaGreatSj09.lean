/-
  Texts of this claim: ShG.
-/
import Derived.Test.YtbfedeedicnedaaGreatSj07
set_option linter.unusedVariables false
set_option linter.unusedSimpArgs false
set_option maxHeartbeats 8000000
set_option maxRecDepth 100000
section
namespace Go.Proofs.YtbfedeedicnedaaGreat
open Go.RowKit
open Go.Proofs.YtbfedeedicnedaaGreatW.PrintWords
theorem twalk_calls : ∀ (g : Nat) (H : Sh.Hp) (root low high : Int) (A : Option Addr) (c : Nat) (w : World), Nodes w A H → -1 ≤ low → high ≤ 1024 → low < high → high - low ≤ g →
  Calls Tryz.prog 158 #[.agg #[], .slice A H.length c, .int .i64 root, .int .i64 low, .int .i64 high] w fun e w' => Got w.heap.size w' e (Sh.walkTree H g root low high) ∧ Below w.heap.size w w' := by
 intro g
 induction g with
 | zero => intro H root low high A c w _ _ _ h1 h2; omega
 | succ g ih =>
  intro H root low high A c w hC hlo hhi hlh hg
  have hB0 := Lib.hid (show Below w.heap.size w (w.alloc (.cells #[] 119)) from (Below.refl _ _).alloc (Nat.le_refl _) _)
  unfold Sh.walkTree
  by_cases hr : root = -1
  ·rw [if_pos hr]
   subst hr
   clear ih
   go_enter Tryz.func158, Tryz.ntmps158
   go_wp2
   go_ret2
   exact ⟨⟨_, rfl, Kd.R_nil _ _ _ _ _⟩, hB0.out⟩
  ·rw [if_neg hr]
   by_cases ht : Sh.there H root = true
   case neg =>
    have ht' : Sh.there H root = false := by simpa using ht
    have hth := Lib.hid (fun W => there_at (w := W) (A := A) (c := c) ht')
    rw [ht']
    simp only [Bool.false_and, Bool.not_false, if_true]
    clear ih ht ht'
    go_enter Tryz.func158, Tryz.ntmps158
    go_wp2_with fail
    refine (hth.out _).mono ?_
    rintro e w1 ⟨rfl, rfl⟩
    go_wp2
    go_ret2
    exact ⟨⟨_, rfl, Kd.R_nil _ _ _ _ _⟩, hB0.out⟩
   case pos =>
    have hth := Lib.hid (fun W => there_at (w := W) (A := A) (c := c) ht)
    obtain ⟨hr0, hr1⟩ := Sh.there_iff.1 ht
    rw [ht, Bool.true_and]
    have hC1 := Kd.C_alloc hC (.cells #[] 119)
    obtain ⟨ad, A0, c0, A1, c1, rfl, d0, d1, l0, g0, l1, g1⟩ := Nodes.at hC1 root hr0 hr1
    obtain ⟨i, rfl⟩ := Int.eq_ofNat_of_zero_le hr0
    simp only [Int.toNat_natCast] at d0 d1
    by_cases hn : (Sh.nd H (i : Int)).1.length = 2 ∧ (Sh.nd H (i : Int)).2.length = 2
    case neg =>
     have hb : ((Sh.nd H (i : Int)).1.length == 2 && (Sh.nd H (i : Int)).2.length == 2) = false := by
      rw [Bool.and_eq_false_iff, beq_eq_false_iff_ne, beq_eq_false_iff_ne]
      omega
     rw [hb]
     simp only [Bool.not_false, if_true]
     clear ih g0 g1 hb ht hC hC1
     generalize (Sh.nd H (i : Int)).1.length = n0 at *
     generalize (Sh.nd H (i : Int)).2.length = n1 at *
     by_cases h0 : n0 = 2
     ·have h1 : ¬ n1 = 2 := fun h => hn ⟨h0, h⟩
      clear hn
      go_enter Tryz.func158, Tryz.ntmps158
      go_wp2_with fail
      refine (hth.out _).mono ?_
      rintro e w1 ⟨rfl, rfl⟩
      go_wp2
      go_ret2
      exact ⟨⟨_, rfl, Kd.R_nil _ _ _ _ _⟩, hB0.out⟩
     ·clear hn
      go_enter Tryz.func158, Tryz.ntmps158
      go_wp2_with fail
      refine (hth.out _).mono ?_
      rintro e w1 ⟨rfl, rfl⟩
      go_wp2
      go_ret2
      exact ⟨⟨_, rfl, Kd.R_nil _ _ _ _ _⟩, hB0.out⟩
    case pos =>
     obtain ⟨hn0, hn1⟩ := hn
     rw [hn0] at d0 g0 l0
     rw [hn1] at d1 g1 l1
     rw [hn0, hn1]
     simp only [BEq.rfl, Bool.and_self, Bool.not_true, Bool.false_eq_true, if_false]
     obtain ⟨ad0, rfl, e0, e01⟩ := at_one g0 (Nat.le_refl 2)
     obtain ⟨ad1, rfl, f0, f1⟩ := at_one g1 (Nat.le_refl 2)
     generalize Sh.gi (Sh.nd H (i : Int)).1 0 = x at *
     generalize Sh.gi (Sh.nd H (i : Int)).1 1 = t at *
     generalize Sh.gi (Sh.nd H (i : Int)).2 0 = a at *
     generalize Sh.gi (Sh.nd H (i : Int)).2 1 = b at *
     obtain ⟨W2, hW2⟩ : ∃ W2, W2 = (w.alloc (.cells #[] 119)).alloc (.cells #[.slice (some ad0) 2 c0, .slice (some ad1) 2 c1] 95) := ⟨_, rfl⟩
     have hs2 : W2.heap.size = w.heap.size + 2 := by rw [hW2, World.size_alloc, World.size_alloc]
     have hB2 : Below w.heap.size w W2 := by
      rw [hW2]
      exact (hB0.out).alloc (by rw [World.size_alloc]; omega) _
     have hB12 : Below (w.alloc (.cells #[] 119)).heap.size (w.alloc (.cells #[] 119)) W2 := by
      rw [hW2]
      exact (Below.refl _ _).alloc (Nat.le_refl _) _
     have hlt : ∀ {ad v}, (w.alloc (.cells #[] 119)).cell? ad = some v → ∀ W', Below (w.heap.size + 2) W2 W' → W'.cell? ad = some v := fun h W' hW' =>
      pw_cell_below (hB12.trans (hW'.mono (by rw [World.size_alloc]; omega))) h
     have e0' := hlt e0
     have e01' := hlt e01
     have f0' := hlt f0
     have f1' := hlt f1
     have k0 : ∀ W', Below (w.heap.size + 2) W2 W' → W'.cell? ⟨w.heap.size + 1, 0, none⟩ = some (.slice (some ad0) 2 c0) := fun W' hW' => by
      rw [hW'.cell (p := ⟨w.heap.size + 1, 0, none⟩) (by show w.heap.size + 1 < _; omega), hW2]
      have : w.heap.size + 1 = (w.alloc (.cells #[] 119)).heap.size := by rw [World.size_alloc]
      rw [this]
      simp
     have k1 : ∀ W', Below (w.heap.size + 2) W2 W' → W'.cell? ⟨w.heap.size + 1, 1, none⟩ = some (.slice (some ad1) 2 c1) := fun W' hW' => by
      rw [hW'.cell (p := ⟨w.heap.size + 1, 1, none⟩) (by show w.heap.size + 1 < _; omega), hW2]
      have : w.heap.size + 1 = (w.alloc (.cells #[] 119)).heap.size := by rw [World.size_alloc]
      rw [this]
      simp
     have hNod := Lib.hid (fun (W' : World) (hW' : Below (w.heap.size + 2) W2 W') => (Kd.C_below hC1 (hB12.trans (hW'.mono (by rw [World.size_alloc]; omega))) : Nodes W' (some ad) H))
     have hk1 := Lib.hid (fun (W' : World) (hW' : Below (w.heap.size + 2) W2 W') => (⟨hW', k1 W' hW', f0' W' hW'⟩ : _ ∧ _ ∧ _))
     have hk2 := Lib.hid (fun (W' : World) (hW' : Below (w.heap.size + 2) W2 W') => (⟨hW', k1 W' hW', f1' W' hW'⟩ : _ ∧ _ ∧ _))
     have hk3 := Lib.hid (fun (W' : World) (hW' : Below (w.heap.size + 2) W2 W') => (⟨k0 W' hW', k1 W' hW', e01' W' hW', f0' W' hW', f1' W' hW'⟩ : _ ∧ _ ∧ _ ∧ _ ∧ _))
     have hBd := Lib.hid (show Below (w.heap.size + 2) W2 W2.drew from (Below.refl _ _).drew)
     have hsz := Lib.hid (show w.heap.size + 2 ≤ W2.drew.heap.size by show _ ≤ W2.heap.size; omega)
     replace hB2 := Lib.hid hB2
     have e0w : ∀ o, ((w.alloc (.cells #[] 119)).alloc o).cell? ad0 = some (.int .i64 x) := fun o => pw_cell_below ((Below.refl _ _).alloc (Nat.le_refl _) o) e0
     replace hs2 := Lib.hid hs2
     clear e0' e01' f0' f1' k0 k1 hlt hB12 hC hC1 g0 g1 hn0 hn1 ht e0 e01 f0 f1
     by_cases hxl : x ≤ low
     ·rw [if_pos (Or.inl hxl)]
      subst hW2
      clear ih hNod hk1 hk2 hk3 hBd hsz
      go_enter Tryz.func158, Tryz.ntmps158
      go_wp2_with fail
      refine (hth.out _).mono ?_
      rintro e w1 ⟨rfl, rfl⟩
      go_wp2
      go_ret2
      exact ⟨⟨_, rfl, Kd.R_nil _ _ _ _ _⟩, hB2.out⟩
     by_cases hxh : high ≤ x
     ·rw [if_pos (Or.inr hxh)]
      subst hW2
      clear ih hNod hk1 hk2 hk3 hBd hsz
      go_enter Tryz.func158, Tryz.ntmps158
      go_wp2_with fail
      refine (hth.out _).mono ?_
      rintro e w1 ⟨rfl, rfl⟩
      go_wp2
      go_ret2
      exact ⟨⟨_, rfl, Kd.R_nil _ _ _ _ _⟩, hB2.out⟩
     rw [if_neg (by omega)]
     have ih1 := Lib.hid (fun (W : World) (hW : Nodes W (some ad) H) => ih H a low x (some ad) c W hW (by omega) (by omega) (by omega) (by omega))
     have ih2 := Lib.hid (fun (W : World) (hW : Nodes W (some ad) H) => ih H b x high (some ad) c W hW (by omega) (by omega) (by omega) (by omega))
     clear ih
     rcases h1 : Sh.walkTree H g a low x with _ | one
     ·rw [h1] at ih1
      have hr1 : Hid (∀ W, Nodes W (some ad) H → Calls Tryz.prog 158 #[.agg #[], .slice (some ad) H.length c, .int .i64 a, .int .i64 low, .int .i64 x] W fun e w' => (∃ v, e = .returned (.tuple #[v, .bool false]) ∧ Ints w' W.heap.size v []) ∧ Below W.heap.size W w') := ih1
      simp only [Option.bind_none]
      clear ih1 ih2 h1 hk2 hk3
      go_enter Tryz.func158, Tryz.ntmps158
      go_wp2_with fail
      refine (hth.out _).mono ?_
      rintro e w1 ⟨rfl, rfl⟩
      go_wp2
      rw [← hW2]
      clear hW2 e0w
      go_region_held3 (fun W' => Below (w.heap.size + 2) W2 W' ∧ W'.cell? ⟨w.heap.size + 1, 1, none⟩ = some (.slice (some ad1) 2 c1) ∧ W'.cell? ad1 = some (.int .i64 a))
       (first
        | exact hk1.out _ (by assumption)
        | exact hk1.out _ hBd.out
        | fail)
       (first
        | (go_at_call 158; refine (hr1.out _ ?hl).mono ?_; (case hl => first | exact hNod.out _ (by assumption) | exact hNod.out _ hBd.out); rintro e w3 ⟨⟨v1, rfl, ho1⟩, hb1⟩; have hB3 : Below (w.heap.size + 2) W2 w3 := Below.trans hBd.out (hb1.mono hsz.out); replace ho1 := Lib.hid ho1; replace hb1 := Lib.hid hb1))
      replace hB3 := Lib.hid (show Below (w.heap.size + 2) W2 w3 from by assumption)
      go_wp2
      go_ret2
      exact ⟨⟨_, rfl, Kd.R_nil _ _ _ _ _⟩, Below.trans hB2.out (hB3.out.mono (by omega))⟩
     ·rw [h1] at ih1
      have hr1 : Hid (∀ W, Nodes W (some ad) H → Calls Tryz.prog 158 #[.agg #[], .slice (some ad) H.length c, .int .i64 a, .int .i64 low, .int .i64 x] W fun e w' => (∃ v, e = .returned (.tuple #[v, .bool true]) ∧ Ints w' W.heap.size v one) ∧ Below W.heap.size W w') := ih1
      simp only [Option.bind_some]
      clear ih1
      rcases h2 : Sh.walkTree H g b x high with _ | two
      ·rw [h2] at ih2
       have hr2 : Hid (∀ W, Nodes W (some ad) H → Calls Tryz.prog 158 #[.agg #[], .slice (some ad) H.length c, .int .i64 b, .int .i64 x, .int .i64 high] W fun e w' => (∃ v, e = .returned (.tuple #[v, .bool false]) ∧ Ints w' W.heap.size v []) ∧ Below W.heap.size W w') := ih2
       simp only [Option.bind_none]
       clear ih2 h1 h2 hk3
       go_enter Tryz.func158, Tryz.ntmps158
       go_wp2_with fail
       refine (hth.out _).mono ?_
       rintro e w1 ⟨rfl, rfl⟩
       go_wp2
       rw [← hW2]
       clear hW2 e0w
       go_region_held3 (fun W' => Below (w.heap.size + 2) W2 W' ∧ W'.cell? ⟨w.heap.size + 1, 1, none⟩ = some (.slice (some ad1) 2 c1) ∧ W'.cell? ad1 = some (.int .i64 a))
        (first
         | exact hk1.out _ (by assumption)
         | exact hk1.out _ hBd.out
         | fail)
        (first
         | (go_at_call 158; refine (hr1.out _ ?hl).mono ?_; (case hl => first | exact hNod.out _ (by assumption) | exact hNod.out _ hBd.out); rintro e w3 ⟨⟨v1, rfl, ho1⟩, hb1⟩; have hB3 : Below (w.heap.size + 2) W2 w3 := Below.trans hBd.out (hb1.mono hsz.out); replace ho1 := Lib.hid ho1; replace hb1 := Lib.hid hb1))
       replace hB3 := Lib.hid (show Below (w.heap.size + 2) W2 w3 from by assumption)
       have ho1' := Lib.hid (Kd.R_lower ho1.out (show w.heap.size ≤ W2.drew.heap.size by have := hsz.out; omega))
       have hs3 := Lib.hid (show w.heap.size + 2 ≤ w3.drew.heap.size by have h8 := hb1.out.size; have := hsz.out; show _ ≤ w3.heap.size; omega)
       have hBd3 := Lib.hid (show Below (w.heap.size + 2) W2 w3.drew from hB3.out.drew)
       clear hsz hBd hk1 hb1 ho1 hr1
       go_wp2
       go_region_held3 (fun W' => Below (w.heap.size + 2) W2 W' ∧ W'.cell? ⟨w.heap.size + 1, 1, none⟩ = some (.slice (some ad1) 2 c1) ∧ W'.cell? ⟨ad1.block, ad1.off + 1, none⟩ = some (.int .i64 b))
        (first
         | exact hk2.out _ (by assumption)
         | exact hk2.out _ hBd3.out
         | fail)
        (first
         | (go_at_call 158; refine (hr2.out _ ?hl).mono ?_; (case hl => first | exact hNod.out _ (by assumption) | exact hNod.out _ hBd3.out); rintro e w4 ⟨⟨v2, rfl, ho2⟩, hb2⟩; have hB4 : Below (w.heap.size + 2) W2 w4 := Below.trans hBd3.out (hb2.mono hs3.out); replace ho2 := Lib.hid ho2; replace hb2 := Lib.hid hb2))
       replace hB4 := Lib.hid (show Below (w.heap.size + 2) W2 w4 from by assumption)
       go_wp2
       go_ret2
       exact ⟨⟨_, rfl, Kd.R_nil _ _ _ _ _⟩, Below.trans hB2.out (hB4.out.mono (by omega))⟩
      ·rw [h2] at ih2
       have hr2 : Hid (∀ W, Nodes W (some ad) H → Calls Tryz.prog 158 #[.agg #[], .slice (some ad) H.length c, .int .i64 b, .int .i64 x, .int .i64 high] W fun e w' => (∃ v, e = .returned (.tuple #[v, .bool true]) ∧ Ints w' W.heap.size v two) ∧ Below W.heap.size W w') := ih2
       simp only [Option.bind_some]
       obtain ⟨t1, T1⟩ := Sh.walk_tr g h1
       obtain ⟨t2, T2⟩ := Sh.walk_tr g h2
       have n1 := T1.nonneg
       have n2 := T2.nonneg
       have m1 := T1.high
       have m2 := T2.high
       have q1 := T1.count (by omega)
       have q2 := T2.count (by omega)
       rw [T1.height, T2.height]
       have hT1 := Lib.hid T1
       have hT2 := Lib.hid T2
       clear ih2 h1 h2 T1 T2
       obtain ⟨m, hm⟩ : ∃ m, m = max t1 t2 := ⟨_, rfl⟩
       rw [← hm]
       obtain ⟨R, hR⟩ : ∃ R, R = (if t1 ≤ t2 + 1 ∧ t2 ≤ t1 + 1 ∧ t = 1 + m then some (one ++ x :: two) else none) := ⟨_, rfl⟩
       rw [← hR]
       replace hR := Lib.hid hR
       have hm0 : 0 ≤ m := by omega
       have hm1 : m ≤ 2000 := by omega
       have hif : (if t1 < t2 then t2 else t1) = m := by rw [max_if, hm]
       replace hm := Lib.hid hm
       go_enter Tryz.func158, Tryz.ntmps158
       go_wp2_with fail
       refine (hth.out _).mono ?_
       rintro e w1 ⟨rfl, rfl⟩
       go_wp2
       rw [← hW2]
       clear hW2 e0w
       go_region_held3 (fun W' => Below (w.heap.size + 2) W2 W' ∧ W'.cell? ⟨w.heap.size + 1, 1, none⟩ = some (.slice (some ad1) 2 c1) ∧ W'.cell? ad1 = some (.int .i64 a))
        (first
         | exact hk1.out _ (by assumption)
         | exact hk1.out _ hBd.out
         | fail)
        (first
         | (go_at_call 158; refine (hr1.out _ ?hl).mono ?_; (case hl => first | exact hNod.out _ (by assumption) | exact hNod.out _ hBd.out); rintro e w3 ⟨⟨v1, rfl, ho1⟩, hb1⟩; have hB3 : Below (w.heap.size + 2) W2 w3 := Below.trans hBd.out (hb1.mono hsz.out); replace ho1 := Lib.hid ho1; replace hb1 := Lib.hid hb1))
       replace hB3 := Lib.hid (show Below (w.heap.size + 2) W2 w3 from by assumption)
       have ho1' := Lib.hid (Kd.R_lower ho1.out (show w.heap.size ≤ W2.drew.heap.size by have := hsz.out; omega))
       have hs3 := Lib.hid (show w.heap.size + 2 ≤ w3.drew.heap.size by have h8 := hb1.out.size; have := hsz.out; show _ ≤ w3.heap.size; omega)
       have hBd3 := Lib.hid (show Below (w.heap.size + 2) W2 w3.drew from hB3.out.drew)
       clear hsz hBd hk1 hb1 ho1 hr1
       go_wp2
       go_region_held3 (fun W' => Below (w.heap.size + 2) W2 W' ∧ W'.cell? ⟨w.heap.size + 1, 1, none⟩ = some (.slice (some ad1) 2 c1) ∧ W'.cell? ⟨ad1.block, ad1.off + 1, none⟩ = some (.int .i64 b))
        (first
         | exact hk2.out _ (by assumption)
         | exact hk2.out _ hBd3.out
         | fail)
        (first
         | (go_at_call 158; refine (hr2.out _ ?hl).mono ?_; (case hl => first | exact hNod.out _ (by assumption) | exact hNod.out _ hBd3.out); rintro e w4 ⟨⟨v2, rfl, ho2⟩, hb2⟩; have hB4 : Below (w.heap.size + 2) W2 w4 := Below.trans hBd3.out (hb2.mono hs3.out); replace ho2 := Lib.hid ho2; replace hb2 := Lib.hid hb2))
       replace hB4 := Lib.hid (show Below (w.heap.size + 2) W2 w4 from by assumption)
       go_wp2
       have ho12 := Lib.hid (Kd.R_below (Kd.R_drew ho1'.out) hb2.out)
       have ho2' := Lib.hid (Kd.R_lower ho2.out (show w.heap.size ≤ w3.drew.heap.size by have := hs3.out; omega))
       obtain ⟨u0, u1, u2, u3, u4⟩ := hk3.out _ hB4.out
       have hC4 := hNod.out _ hB4.out
       have hla := Lib.hid (fun n => height_at (c := c) hC4 hT1.out n)
       have hlb := Lib.hid (fun n => height_at (c := c) hC4 hT2.out n)
       have hk3' := hk3
       clear hC4 hk3 hk2
       go_quiet (first
        | (go_at_call 113; with_reducible exact Calls.quiet_of_same (hla.out _))
        | (go_at_call 113; with_reducible exact Calls.quiet_of_same (hlb.out _)))
       have hhn := hk3'.out _ (pw_below_drewN hB4.out nq)
       obtain ⟨x0, x1, x2, _, _⟩ := hhn
       have hB5 := Lib.hid (pw_below_drewN (Below.trans hB2.out (hB4.out.mono (by omega))) nq)
       have hlc := leans_calls t1 t2 (w4.drewN nq) (by omega) (by omega) (by omega) (by omega)
       have hw1 : IntKind.i64.wrap (1 + m) = 1 + m := IntWalk.i64_in _ (by omega)
       by_cases c1 : t2 + 1 < t1
       ·rw [if_pos c1] at hlc
        replace hlc := Lib.hid hlc
        obtain rfl : R = none := by rw [hR.out]; exact if_neg (by omega)
        clear hla hlb
        go_wp2_with fail
        refine (hlc.out).mono ?_
        rintro e w5 ⟨rfl, rfl⟩
        go_wp2
        go_ret2
        exact ⟨⟨_, rfl, Kd.R_nil _ _ _ _ _⟩, hB5.out⟩
       rw [if_neg c1] at hlc
       by_cases c2 : t1 + 1 < t2
       ·rw [if_pos c2] at hlc
        replace hlc := Lib.hid hlc
        obtain rfl : R = none := by rw [hR.out]; exact if_neg (by omega)
        clear hla hlb
        go_wp2_with fail
        refine (hlc.out).mono ?_
        rintro e w5 ⟨rfl, rfl⟩
        go_wp2
        go_ret2
        exact ⟨⟨_, rfl, Kd.R_nil _ _ _ _ _⟩, hB5.out⟩
       rw [if_neg c2] at hlc
       replace hlc := Lib.hid hlc
       by_cases c3 : t = 1 + m
       ·obtain rfl : R = some (one ++ x :: two) := by rw [hR.out]; exact if_pos ⟨by omega, by omega, c3⟩
        subst c3
        clear hla hlb
        have ho5 := Lib.hid (Kd.R_drewN ho12.out nq)
        have hl5 := Lib.hid (show one.length ≤ 2000 by omega)
        obtain ⟨A2, c2', rfl⟩ := Kd.R_slice ho2'.out
        go_wp2_with fail
        refine (hlc.out).mono ?_
        rintro e w5 ⟨rfl, rfl⟩
        have hv1 := Lib.hid (fun k (hk : v1.ownBlock = some k) => ((Kd.R_bound ho1'.out).1 k hk).2.2.1)
        have hdr2 := Lib.hid (Kd.R_drewN ho2.out nq)
        go_wp2_with (first
         | (at_builtin; refine app_one w.heap.size rfl _ _ rfl v1 one x rfl rfl ho5.out hB5.out hB5.out.size (by have := hl5.out; omega) ?_; intro v3 w6 a1 a2 a3; replace a1 := Lib.hid a1; replace a2 := Lib.hid a2; have ho6 := Lib.hid (Ints.other hdr2.out a3 (fun k hk => hv1.out k hk)); clear a3)
         | (at_builtin; (have hC6 : Kd.C kI w6 A2 two.length two := (by obtain ⟨A3, c3', e3, _, hC6⟩ := Kd.R_reads ho6.out; simp only [Value.slice.injEq] at e3; rw [e3.1]; exact hC6)); refine app_all w.heap.size rfl _ _ rfl v3 (one ++ [x]) two A2 two.length c2' rfl rfl a1.out hC6 a2.out a2.out.size (by have := hl5.out; simp only [List.length_append, List.length_singleton]; omega) ?_; intro v4 w7 b1 b2 b3; replace b1 := Lib.hid b1; replace b2 := Lib.hid b2; clear b3 hC6))
        go_ret2
        exact ⟨⟨_, rfl, by have := b1.out; rwa [List.append_assoc] at this⟩, b2.out⟩
       ·obtain rfl : R = none := by rw [hR.out]; exact if_neg (by omega)
        have c3b : (t != 1 + m) = true := bne_iff_ne.mpr c3
        clear hla hlb
        go_wp2_with fail
        refine (hlc.out).mono ?_
        rintro e w5 ⟨rfl, rfl⟩
        go_wp2
        go_ret2
        exact ⟨⟨_, rfl, Kd.R_nil _ _ _ _ _⟩, hB5.out⟩
end Go.Proofs.YtbfedeedicnedaaGreat
end
