/-
  Texts of this claim: ShAH, ShAI, ShAJ, ShBM.
-/
import Derived.Test.YtbfedeedicnedaaGreatSj31
set_option linter.unusedVariables false
set_option linter.unusedSimpArgs false
set_option maxHeartbeats 8000000
set_option maxRecDepth 100000
section
namespace Go.Proofs.YtbfedeedicnedaaGreat
open Go.RowKit
open Go.Proofs.YtbfedeedicnedaaGreatW.PrintWords
theorem Make_calls {H : Sh.Hp} {f : Int} {l : List Int} {A A1 : Option Addr} {c c1 : Nat} {w : World} (hC : Nodes w A H) (hL : Kd.C kI w A1 l.length l) (h : H.length ≤ 3000 ∧ l.length ≤ 2000) (hf : 1 ≤ f ∧ f ≤ 5) (hb : (l.any fun x => !(Sh.el x)) = false)
    (hlay : LaysF H (Lib.compact l.mergeSort) f) (hbig : ∀ p ∈ H, p.1.length ≤ 1000000 ∧ p.2.length ≤ 1000000) :
    Calls Tryz.prog 29 #[.slice A H.length c, .int .i64 f, .slice A1 l.length c1] w fun e w' => Out3 w.heap.size w' e (Sh.layF f H (Lib.compact l.mergeSort)).1 f (Sh.layF f H (Lib.compact l.mergeSort)).2 (Lib.compact l.mergeSort).length 0 ∧ Below w.heap.size w w' := by
  have hB := Lib.hid (show Below w.heap.size w (w.alloc zero25) from (Below.refl _ _).alloc (Nat.le_refl _) _)
  obtain ⟨h3, h4⟩ := h
  have hkn := Lib.hid (fun W => known_calls f W)
  have hkf : (decide (1 ≤ f) && decide (f ≤ 5)) = true := by rw [decide_eq_true hf.1, decide_eq_true hf.2]; rfl
  rw [hkf] at hkn
  have hcf := Lib.hid (containsF_calls l A1 c1 (w.alloc zero25) (Kd.C_alloc hL _) (by omega))
  rw [hb] at hcf
  have hcl := Lib.hid (clone_calls A1 c1 l (w.alloc zero25) (Kd.C_alloc hL _) (by omega))
  have hst := Lib.hid (fun v W (hv : Ints W (w.heap.size + 1) v l) => sort_calls hv (by omega))
  have hcm := Lib.hid (fun v W (hv : Ints W (w.heap.size + 1) v l.mergeSort) => compact_calls hv (by rw [List.length_mergeSort]; omega))
  have hml : (Lib.compact l.mergeSort).length ≤ 2000 := Nat.le_trans (compact_le _) (by rw [List.length_mergeSort]; exact h4)
  generalize Lib.compact l.mergeSort = m at *
  have hmd := Lib.hid (fun (A1 : Option Addr) (c1 : Nat) (W : World) (hW : Below w.heap.size w W) (hA : Kd.C kI W A1 m.length m) (hc1 : m.length ≤ c1) => made_calls H f m A c A1 c1 W (Kd.C_below hC hW) hA hc1 hf.1 hf.2 hlay (by omega) hbig (by omega))
  generalize Sh.layF f H m = R at *
  have hb0 := Lib.hid (heap_alloc_new w zero25)
  have hs0 := Lib.hid (show (w.alloc zero25).heap.size = w.heap.size + 1 from World.size_alloc _ _)
  obtain ⟨n, hn⟩ : ∃ n, n = m.length := ⟨_, rfl⟩
  rw [← hn] at hml ⊢
  replace hn := Lib.hid hn
  clear hC hL hlay hbig hkf hb hf
  go_enter Tryz.func29, Tryz.ntmps29
  go_wp2_with fail
  refine (hkn.out _).mono ?_
  rintro e w1 ⟨rfl, rfl⟩
  go_wp2_with fail
  refine (hcf.out).mono ?_
  rintro e w1 ⟨rfl, rfl⟩
  go_wp2_with fail
  refine (hcl.out).mono ?_
  rintro e w1 ⟨v1, rfl, o1, b1⟩
  rw [hs0.out] at o1 b1
  replace o1 := Lib.hid o1
  replace b1 := Lib.hid b1
  go_wp2_with fail
  refine (hst.out _ _ o1.out).mono ?_
  rintro e w2 ⟨rfl, o2, b2⟩
  replace o2 := Lib.hid o2
  replace b2 := Lib.hid (b1.out.trans b2)
  go_wp2_with fail
  refine (hcm.out _ _ o2.out).mono ?_
  rintro e w3 ⟨v3, rfl, o3, b3⟩
  replace b3 := Lib.hid (b2.out.trans b3)
  obtain ⟨A3, c3, rfl, hc3, hC3⟩ := Kd.R_reads o3
  have hB3 := Lib.hid (hB.out.trans (b3.out.mono (by omega)))
  have hmc := Lib.hid (hmd.out A3 c3 w3 hB3.out hC3 hc3)
  rw [← hn.out] at hmc hc3 ⊢
  clear o3 hC3
  go_wp2_with fail
  refine (hmc.out).mono ?_
  rintro e w4 ⟨⟨v4, rfl, hR4⟩, hB4⟩
  have hs3 := Lib.hid (show w.heap.size + 1 ≤ w3.heap.size by have := b3.out.size; have := hs0.out; omega)
  have hr4 : w4.heap[w.heap.size]? = some (.cells #[.int .i64 0, .int .i64 0, .int .i64 0] 25 (0, 0)) := (hB4.block _ (by have := hs3.out; omega)).trans ((b3.out.block _ (by omega)).trans hb0.out)
  have hf4 := blk_frozen hr4
  have c40 : w4.cell? ⟨w.heap.size, 0, none⟩ = some (.int .i64 0) := by rw [blk_cell hr4]; rfl
  have c41 : w4.cell? ⟨w.heap.size, 1, none⟩ = some (.int .i64 0) := by rw [blk_cell hr4]; rfl
  have c42 : w4.cell? ⟨w.heap.size, 2, none⟩ = some (.int .i64 0) := by rw [blk_cell hr4]; rfl
  have hB5 := Lib.hid (hB3.out.trans (hB4.mono (by have := hs3.out; omega)))
  replace hr4 := Lib.hid hr4
  replace hR4 := Lib.hid hR4
  clear hB4
  go_wp2
  refine bodyPost_ret (results_tct rfl _ _ w.heap.size #[.int .i64 f, .int .i64 R.2, .int .i64 n] rfl (load_set3 hr4.out)) rfl ?_
  exact ⟨⟨v4, rfl, Kd.R_lower (out_set hR4.out hr4.out _ _ _) (by have := hs3.out; omega)⟩, below_set3 hB5.out _ _ _⟩
end Go.Proofs.YtbfedeedicnedaaGreat
end
section
namespace Go.Proofs.YtbfedeedicnedaaGreat
open Go.RowKit
open Go.Proofs.YtbfedeedicnedaaGreatW.PrintWords
namespace Sh
def mergeF (tk : Bool → Bool → Bool) : Nat → List Int → List Int → List Int
 | 0, _, _ => []
 | g + 1, l, m =>
  match l, m with
  | [], [] => []
  | x :: l', [] => (if tk true false then [x] else []) ++ mergeF tk g l' []
  | [], y :: m' => (if tk false true then [y] else []) ++ mergeF tk g [] m'
  | x :: l', y :: m' =>
   if x < y then (if tk true false then [x] else []) ++ mergeF tk g l' (y :: m')
   else if y < x then (if tk false true then [y] else []) ++ mergeF tk g (x :: l') m'
   else (if tk true true then [y] else []) ++ mergeF tk g l' m'
theorem merge_none (tk : Bool → Bool → Bool) (g : Nat) : mergeF tk g [] [] = [] := by cases g <;> rfl
theorem merge_one (tk : Bool → Bool → Bool) (g : Nat) (l : List Int) (i : Nat) (h : i < l.length) {e : List Int} (he : e = []) : mergeF tk (g + 1) (l.drop i) e = (if tk true false then [gi l i] else []) ++ mergeF tk g (l.drop (i + 1)) e := by
 subst he
 rw [drop_at' l i h]; rfl
theorem merge_two (tk : Bool → Bool → Bool) (g : Nat) (m : List Int) (k : Nat) (h : k < m.length) {e : List Int} (he : e = []) : mergeF tk (g + 1) e (m.drop k) = (if tk false true then [gi m k] else []) ++ mergeF tk g e (m.drop (k + 1)) := by
 subst he
 rw [drop_at' m k h]; rfl
theorem merge_lt (tk : Bool → Bool → Bool) (g : Nat) (l m : List Int) (i k : Nat) (h : i < l.length) (h2 : k < m.length) (hx : gi l i < gi m k) : mergeF tk (g + 1) (l.drop i) (m.drop k) = (if tk true false then [gi l i] else []) ++ mergeF tk g (l.drop (i + 1)) (m.drop k) := by
 rw [drop_at' l i h, drop_at' m k h2]
 exact if_pos hx
theorem merge_gt (tk : Bool → Bool → Bool) (g : Nat) (l m : List Int) (i k : Nat) (h : i < l.length) (h2 : k < m.length) (hx : gi m k < gi l i) : mergeF tk (g + 1) (l.drop i) (m.drop k) = (if tk false true then [gi m k] else []) ++ mergeF tk g (l.drop i) (m.drop (k + 1)) := by
 rw [drop_at' l i h, drop_at' m k h2]
 exact (if_neg (by omega)).trans (if_pos hx)
theorem merge_eq (tk : Bool → Bool → Bool) (g : Nat) (l m : List Int) (i k : Nat) (h : i < l.length) (h2 : k < m.length) (hx : gi m k = gi l i) : mergeF tk (g + 1) (l.drop i) (m.drop k) = (if tk true true then [gi m k] else []) ++ mergeF tk g (l.drop (i + 1)) (m.drop (k + 1)) := by
 rw [drop_at' l i h, drop_at' m k h2]
 exact (if_neg (by omega)).trans (if_neg (by omega))
theorem drop_end {l : List Int} {i : Nat} (h : l.length ≤ i) : l.drop i = [] := List.drop_of_length_le h
end Sh
theorem joined_calls {H : Sh.Hp} {fa ra na fb rb nb : Int} {A : Option Addr} {c : Nat} {w : World} {l m : List Int} (tk : Bool → Bool → Bool) (kT : Nat) (hF : ∀ (args : Array Value) (w : World), (callFunc kT args).run Tryz.prog w = .ok (.enter kT args) w) (hT : ∀ (a b : Bool) (W : World), Calls Tryz.prog kT #[.bool a, .bool b] W fun e w' => e = .returned (.bool (tk a b)) ∧ w' = W)
  (hC : Nodes w A H) (hLa : ListsF H fa) (hLb : ListsF H fb) (hDa : ¬ Digital fa) (hDb : ¬ Digital fb) (ha : Sh.listed H fa ra na = (l, 0)) (hb : Sh.listed H fb rb nb = (m, 0)) (hf1 : 1 ≤ fa) (hf5 : fa ≤ 5)
  (hlay : LaysF H (Sh.mergeF tk (l.length + m.length) l m) fa) (hl : H.length ≤ 100000) (hbig : ∀ p ∈ H, p.1.length ≤ 1000000 ∧ p.2.length ≤ 1000000) (hll : l.length ≤ 10000) (hmm : m.length ≤ 10000) :
  Calls Tryz.prog 82 #[.slice A H.length c, shV fa ra na, shV fb rb nb, .func (.func kT) #[] #[]] w fun e w' => Out3 w.heap.size w' e (Sh.layF fa H (Sh.mergeF tk (l.length + m.length) l m)).1 fa (Sh.layF fa H (Sh.mergeF tk (l.length + m.length) l m)).2 (Sh.mergeF tk (l.length + m.length) l m).length 0 ∧ Below w.heap.size w w' := by
 obtain ⟨W0, hW0⟩ : ∃ W0, W0 = ((w.alloc (.cells #[.int .i64 fa, .int .i64 ra, .int .i64 na] 25)).alloc (.cells #[.int .i64 fb, .int .i64 rb, .int .i64 nb] 25)).alloc (.cells #[.int .i64 0, .int .i64 0, .int .i64 0] 25) := ⟨_, rfl⟩
 have hsz := Lib.hid (show W0.heap.size = w.heap.size + 3 by rw [hW0, World.size_alloc, World.size_alloc, World.size_alloc])
 have b1 := Lib.hid (show W0.heap[w.heap.size]? = some (.cells #[.int .i64 fa, .int .i64 ra, .int .i64 na] 25 (0, 0)) by
  rw [hW0]
  exact blk_alloc (blk_alloc (heap_alloc_new w _) _) _)
 have b2 := Lib.hid (show W0.heap[w.heap.size + 1]? = some (.cells #[.int .i64 fb, .int .i64 rb, .int .i64 nb] 25 (0, 0)) by
  have := blk_alloc (heap_alloc_new (w.alloc (.cells #[.int .i64 fa, .int .i64 ra, .int .i64 na] 25)) (.cells #[.int .i64 fb, .int .i64 rb, .int .i64 nb] 25)) (.cells #[.int .i64 0, .int .i64 0, .int .i64 0] 25)
  rw [World.size_alloc] at this
  rw [hW0]
  exact this)
 have b3 := Lib.hid (show W0.heap[w.heap.size + 2]? = some (.cells #[.int .i64 0, .int .i64 0, .int .i64 0] 25 (0, 0)) by
  have := heap_alloc_new ((w.alloc (.cells #[.int .i64 fa, .int .i64 ra, .int .i64 na] 25)).alloc (.cells #[.int .i64 fb, .int .i64 rb, .int .i64 nb] 25)) (.cells #[.int .i64 0, .int .i64 0, .int .i64 0] 25)
  rw [World.size_alloc, World.size_alloc] at this
  rw [hW0]
  exact this)
 have hB0 := Lib.hid (show Below w.heap.size w W0 by
  rw [hW0]
  exact (((Below.refl _ _).alloc (Nat.le_refl _) _).alloc (by rw [World.size_alloc]; omega) _).alloc (by rw [World.size_alloc, World.size_alloc]; omega) _)
 have hBw := Lib.hid (fun W (hW : Below W0.heap.size W0 W) => (hB0.out.trans (hW.mono (by have := hsz.out; omega)) : Below w.heap.size w W))
 have hla := Lib.hid (fun W (hW : Below W0.heap.size W0 W) => by have := listed_calls H fa ra na A c W (Kd.C_below hC (hBw.out W hW)) hLa; rw [ha] at this; exact this)
 have hlb := Lib.hid (fun W (hW : Below W0.heap.size W0 W) => by have := listed_calls H fb rb nb A c W (Kd.C_below hC (hBw.out W hW)) hLb; rw [hb] at this; exact this)
 obtain ⟨M, hM⟩ : ∃ M, M = Sh.mergeF tk (l.length + m.length) l m := ⟨_, rfl⟩
 rw [← hM] at hlay ⊢
 have hmd := Lib.hid (fun (A1 : Option Addr) (c1 : Nat) (W : World) (hW : Below W0.heap.size W0 W) (hA : Kd.C kI W A1 M.length M) (hc1 : M.length ≤ c1) (hn : M.length ≤ 1000000) => made_calls H fa M A c A1 c1 W (Kd.C_below hC (hBw.out W hW)) hA hc1 hf1 hf5 hlay hl hbig hn)
 generalize Sh.layF fa H M = R at *
 have hTh := Lib.hid hT
 have hDah := Lib.hid hDa
 have hDbh := Lib.hid hDb
 replace hM := Lib.hid hM
 clear hC hLa hLb ha hb hlay hbig hT hDa hDb hf1 hf5
 go_enter Tryz.func82, Tryz.ntmps82
 go_wp2_with fail
 rw [← hW0]
 clear hW0
 refine (hla.out _ (Below.refl _ _)).mono ?_
 rintro e w1 ⟨⟨v1, l1, rfl, o1, _, hx1⟩, hb1⟩
 obtain rfl : l1 = l := hx1 hDah.out
 have hB1 := Lib.hid hb1
 have r6 : w1.cell? ⟨w.heap.size + 1, 0, none⟩ = some (.int .i64 fb) := by rw [blk_cell (blk_below b2.out hb1)]; rfl
 have r7 : w1.cell? ⟨w.heap.size + 1, 1, none⟩ = some (.int .i64 rb) := by rw [blk_cell (blk_below b2.out hb1)]; rfl
 have r8 : w1.cell? ⟨w.heap.size + 1, 2, none⟩ = some (.int .i64 nb) := by rw [blk_cell (blk_below b2.out hb1)]; rfl
 obtain ⟨A1, c1, rfl, hc1, hC1⟩ := Kd.R_reads o1
 replace hC1 := Lib.hid hC1
 clear hb1 o1 hx1
 go_wp2_with fail
 refine (hlb.out _ hB1.out).mono ?_
 rintro e w2 ⟨⟨v2, m1, rfl, o2, _, hx2⟩, hb2⟩
 obtain rfl : m1 = m := hx2 hDbh.out
 have hB2 := Lib.hid (hB1.out.trans (hb2.mono hB1.out.size))
 obtain ⟨A2, c2, rfl, hc2, hC2⟩ := Kd.R_reads o2
 replace hC2 := Lib.hid hC2
 have hC1' := Lib.hid (Kd.C_below hC1.out hb2)
 clear hb2 o2 hx2 r6 r7 r8 hC1
 obtain ⟨n1, hn1⟩ : ∃ n1, n1 = l1.length := ⟨_, rfl⟩
 obtain ⟨n2, hn2⟩ : ∃ n2, n2 = m1.length := ⟨_, rfl⟩
 rw [← hn1] at hll hc1 hC1' hM ⊢
 rw [← hn2] at hmm hc2 hC2 hM ⊢
 replace hn1 := Lib.hid hn1
 replace hn2 := Lib.hid hn2
 go_wp2
 go_loopg [14, 15, 16] (n1 + n2) (fun gz v14 v15 v16 wr => ∃ (X : Value) (i k : Nat) (out : List Int), X = v14 ∧ v15 = .int .i64 i ∧ v16 = .int .i64 k ∧ i ≤ n1 ∧ k ≤ n2 ∧ Hid ((n1 - i) + (n2 - k) ≤ gz) ∧ Hid (Ints wr w2.heap.size v14 out) ∧ Hid (Below w2.heap.size w2 wr) ∧ out.length ≤ i + k ∧ Hid (M = out ++ Sh.mergeF tk gz (l1.drop i) (m1.drop k)))
 case atStart => exact ⟨_, 0, 0, [], rfl, rfl, rfl, Nat.zero_le _, Nat.zero_le _, Lib.hid (by omega), Lib.hid (Kd.R_nil _ _ _ _ _), Lib.hid (Below.refl _ _), Nat.zero_le _, hM⟩
 case round =>
  obtain ⟨X, i, k, out, rfl, rfl, rfl, hi, hk, hg, hX, hB, hol, hMr⟩ := hrel
  by_cases hil : i < n1
  ·obtain ⟨ad1, e1, f1⟩ := at_int (Kd.C_below hC1'.out hB.out) i (by omega) (by omega)
   rw [Int.toNat_natCast] at f1
   subst e1
   by_cases hkl : k < n2
   ·obtain ⟨ad2, e2, f2⟩ := at_int (Kd.C_below hC2.out hB.out) k (by omega) (by omega)
    rw [Int.toNat_natCast] at f2
    subst e2
    obtain ⟨x, hx⟩ : ∃ x, x = Sh.gi l1 i := ⟨_, rfl⟩
    obtain ⟨y, hy⟩ : ∃ y, y = Sh.gi m1 k := ⟨_, rfl⟩
    rw [← hx] at f1
    rw [← hy] at f2
    have hkb : ((k : Int) == (n2 : Int)) = false := beq_eq_false_iff_ne.mpr (by omega)
    have hib : ((i : Int) == (n1 : Int)) = false := beq_eq_false_iff_ne.mpr (by omega)
    by_cases hlt : x < y
    ·have hms := Sh.merge_lt tk (gk - 1) l1 m1 i k (by have := hn1.out; omega) (by have := hn2.out; omega) (by rw [← hx, ← hy]; exact hlt)
     rw [← hx] at hms
     have d1 : decide (x ≤ y) = true := decide_eq_true (by omega)
     have d2 : decide (y ≤ x) = false := decide_eq_false (by omega)
     replace hx := Lib.hid hx
     replace hy := Lib.hid hy
     obtain ⟨gz, rfl⟩ : ∃ gz, gk = gz + 1 := ⟨gk - 1, by have := hg.out; omega⟩
     replace hms : Sh.mergeF tk (gz + 1) _ _ = _ := hms
     have hMs := hMr.out
     rw [hms] at hMs
     clear hms
     have htk := Lib.hid (fun W => hTh.out true false W)
     cases htv : tk true false
     ·rw [htv] at hMs htk
      have hMn : Hid (M = out ++ Sh.mergeF tk gz (l1.drop (i + 1)) (m1.drop k)) := Lib.hid hMs
      clear hMs hMr htv
      go_wp2
      go_quiet (fail)
      go_wp2
      go_quiet (fail)
      go_wp2_with fail
      refine (htk.out _).mono ?_
      rintro e w5 ⟨rfl, rfl⟩
      go_wp2
      go_roundg gz
      case measure => omega
      case rel => exact ⟨X, (i + 1), k, out, rfl, by go_num, rfl, by omega, by omega, Lib.hid (by have := hg.out; omega), Lib.hid (Kd.R_drewN hX.out _), Lib.hid (pw_below_drewN hB.out _), by omega, hMn⟩
     ·rw [htv] at hMs htk
      have hMn : Hid (M = (out ++ [x]) ++ Sh.mergeF tk gz (l1.drop (i + 1)) (m1.drop k)) := Lib.hid (by rw [hMs, List.append_assoc]; rfl)
      clear hMs hMr htv
      go_wp2
      go_quiet (fail)
      go_wp2
      go_quiet (fail)
      have hXd := Lib.hid (fun n => Kd.R_drewN hX.out n)
      have hBd := Lib.hid (fun n => pw_below_drewN hB.out n)
      go_wp2_with fail
      refine (htk.out _).mono ?_
      rintro e w5 ⟨rfl, rfl⟩
      go_wp2_with (at_builtin; refine app_one w2.heap.size rfl _ _ rfl X out (x) rfl rfl (hXd.out _) (hBd.out _) (hBd.out 0).size (by omega) ?_; intro v3 w6 a1 a2 a3; replace a1 := Lib.hid a1; replace a2 := Lib.hid a2; clear a3)
      go_roundg gz
      case measure => omega
      case rel => exact ⟨v3, (i + 1), k, out ++ [x], rfl, by go_num, rfl, by omega, by omega, Lib.hid (by have := hg.out; omega), a1, a2, by rw [List.length_append, List.length_singleton]; omega, hMn⟩
    by_cases hgt : y < x
    ·have hms := Sh.merge_gt tk (gk - 1) l1 m1 i k (by have := hn1.out; omega) (by have := hn2.out; omega) (by rw [← hx, ← hy]; exact hgt)
     rw [← hy] at hms
     have d1 : decide (x ≤ y) = false := decide_eq_false (by omega)
     have d2 : decide (y ≤ x) = true := decide_eq_true (by omega)
     replace hx := Lib.hid hx
     replace hy := Lib.hid hy
     obtain ⟨gz, rfl⟩ : ∃ gz, gk = gz + 1 := ⟨gk - 1, by have := hg.out; omega⟩
     replace hms : Sh.mergeF tk (gz + 1) _ _ = _ := hms
     have hMs := hMr.out
     rw [hms] at hMs
     clear hms
     have htk := Lib.hid (fun W => hTh.out false true W)
     cases htv : tk false true
     ·rw [htv] at hMs htk
      have hMn : Hid (M = out ++ Sh.mergeF tk gz (l1.drop i) (m1.drop (k + 1))) := Lib.hid hMs
      clear hMs hMr htv
      go_wp2
      go_quiet (fail)
      go_wp2
      go_quiet (fail)
      go_wp2_with fail
      refine (htk.out _).mono ?_
      rintro e w5 ⟨rfl, rfl⟩
      go_wp2
      go_roundg gz
      case measure => omega
      case rel => exact ⟨X, i, (k + 1), out, rfl, rfl, by go_num, by omega, by omega, Lib.hid (by have := hg.out; omega), Lib.hid (Kd.R_drewN hX.out _), Lib.hid (pw_below_drewN hB.out _), by omega, hMn⟩
     ·rw [htv] at hMs htk
      have hMn : Hid (M = (out ++ [y]) ++ Sh.mergeF tk gz (l1.drop i) (m1.drop (k + 1))) := Lib.hid (by rw [hMs, List.append_assoc]; rfl)
      clear hMs hMr htv
      go_wp2
      go_quiet (fail)
      go_wp2
      go_quiet (fail)
      have hXd := Lib.hid (fun n => Kd.R_drewN hX.out n)
      have hBd := Lib.hid (fun n => pw_below_drewN hB.out n)
      go_wp2_with fail
      refine (htk.out _).mono ?_
      rintro e w5 ⟨rfl, rfl⟩
      go_wp2_with (at_builtin; refine app_one w2.heap.size rfl _ _ rfl X out (y) rfl rfl (hXd.out _) (hBd.out _) (hBd.out 0).size (by omega) ?_; intro v3 w6 a1 a2 a3; replace a1 := Lib.hid a1; replace a2 := Lib.hid a2; clear a3)
      go_roundg gz
      case measure => omega
      case rel => exact ⟨v3, i, (k + 1), out ++ [y], rfl, rfl, by go_num, by omega, by omega, Lib.hid (by have := hg.out; omega), a1, a2, by rw [List.length_append, List.length_singleton]; omega, hMn⟩
    ·have hxy : y = x := by omega
     have hms := Sh.merge_eq tk (gk - 1) l1 m1 i k (by have := hn1.out; omega) (by have := hn2.out; omega) (by rw [← hx, ← hy]; exact hxy)
     rw [← hy] at hms
     replace hx := Lib.hid hx
     replace hy := Lib.hid hy
     subst hxy
     obtain ⟨gz, rfl⟩ : ∃ gz, gk = gz + 1 := ⟨gk - 1, by have := hg.out; omega⟩
     replace hms : Sh.mergeF tk (gz + 1) _ _ = _ := hms
     have hMs := hMr.out
     rw [hms] at hMs
     clear hms
     have htk := Lib.hid (fun W => hTh.out true true W)
     cases htv : tk true true
     ·rw [htv] at hMs htk
      have hMn : Hid (M = out ++ Sh.mergeF tk gz (l1.drop (i + 1)) (m1.drop (k + 1))) := Lib.hid hMs
      clear hMs hMr htv
      go_wp2
      go_quiet (fail)
      go_wp2
      go_quiet (fail)
      go_wp2_with fail
      refine (htk.out _).mono ?_
      rintro e w5 ⟨rfl, rfl⟩
      go_wp2
      go_roundg gz
      case measure => omega
      case rel => exact ⟨X, (i + 1), (k + 1), out, rfl, by go_num, by go_num, by omega, by omega, Lib.hid (by have := hg.out; omega), Lib.hid (Kd.R_drewN hX.out _), Lib.hid (pw_below_drewN hB.out _), by omega, hMn⟩
     ·rw [htv] at hMs htk
      have hMn : Hid (M = (out ++ [y]) ++ Sh.mergeF tk gz (l1.drop (i + 1)) (m1.drop (k + 1))) := Lib.hid (by rw [hMs, List.append_assoc]; rfl)
      clear hMs hMr htv
      go_wp2
      go_quiet (fail)
      go_wp2
      go_quiet (fail)
      have hXd := Lib.hid (fun n => Kd.R_drewN hX.out n)
      have hBd := Lib.hid (fun n => pw_below_drewN hB.out n)
      go_wp2_with fail
      refine (htk.out _).mono ?_
      rintro e w5 ⟨rfl, rfl⟩
      go_wp2_with (at_builtin; refine app_one w2.heap.size rfl _ _ rfl X out (y) rfl rfl (hXd.out _) (hBd.out _) (hBd.out 0).size (by omega) ?_; intro v3 w6 a1 a2 a3; replace a1 := Lib.hid a1; replace a2 := Lib.hid a2; clear a3)
      go_roundg gz
      case measure => omega
      case rel => exact ⟨v3, (i + 1), (k + 1), out ++ [y], rfl, by go_num, by go_num, by omega, by omega, Lib.hid (by have := hg.out; omega), a1, a2, by rw [List.length_append, List.length_singleton]; omega, hMn⟩
   ·have hkn : k = n2 := by omega
    subst hkn
    obtain ⟨x, hx⟩ : ∃ x, x = Sh.gi l1 i := ⟨_, rfl⟩
    rw [← hx] at f1
    have hib : ((i : Int) == (n1 : Int)) = false := beq_eq_false_iff_ne.mpr (by omega)
    have hms := Sh.merge_one tk (gk - 1) l1 i (by have := hn1.out; omega) (Sh.drop_end (l := m1) (i := k) (by have := hn2.out; omega))
    rw [← hx] at hms
    replace hx := Lib.hid hx
    obtain ⟨gz, rfl⟩ : ∃ gz, gk = gz + 1 := ⟨gk - 1, by have := hg.out; omega⟩
    replace hms : Sh.mergeF tk (gz + 1) _ _ = _ := hms
    have hMs := hMr.out
    rw [hms] at hMs
    clear hms
    have htk := Lib.hid (fun W => hTh.out true false W)
    cases htv : tk true false
    ·rw [htv] at hMs htk
     have hMn : Hid (M = out ++ Sh.mergeF tk gz (l1.drop (i + 1)) (m1.drop k)) := Lib.hid hMs
     clear hMs hMr htv
     go_wp2
     go_quiet (fail)
     go_wp2
     go_quiet (fail)
     go_wp2_with fail
     refine (htk.out _).mono ?_
     rintro e w5 ⟨rfl, rfl⟩
     go_wp2
     go_roundg gz
     case measure => omega
     case rel => exact ⟨X, (i + 1), k, out, rfl, by go_num, rfl, by omega, by omega, Lib.hid (by have := hg.out; omega), Lib.hid (Kd.R_drewN hX.out _), Lib.hid (pw_below_drewN hB.out _), by omega, hMn⟩
    ·rw [htv] at hMs htk
     have hMn : Hid (M = (out ++ [x]) ++ Sh.mergeF tk gz (l1.drop (i + 1)) (m1.drop k)) := Lib.hid (by rw [hMs, List.append_assoc]; rfl)
     clear hMs hMr htv
     go_wp2
     go_quiet (fail)
     go_wp2
     go_quiet (fail)
     have hXd := Lib.hid (fun n => Kd.R_drewN hX.out n)
     have hBd := Lib.hid (fun n => pw_below_drewN hB.out n)
     go_wp2_with fail
     refine (htk.out _).mono ?_
     rintro e w5 ⟨rfl, rfl⟩
     go_wp2_with (at_builtin; refine app_one w2.heap.size rfl _ _ rfl X out (x) rfl rfl (hXd.out _) (hBd.out _) (hBd.out 0).size (by omega) ?_; intro v3 w6 a1 a2 a3; replace a1 := Lib.hid a1; replace a2 := Lib.hid a2; clear a3)
     go_roundg gz
     case measure => omega
     case rel => exact ⟨v3, (i + 1), k, out ++ [x], rfl, by go_num, rfl, by omega, by omega, Lib.hid (by have := hg.out; omega), a1, a2, by rw [List.length_append, List.length_singleton]; omega, hMn⟩
  ·have hin : i = n1 := by omega
   subst hin
   by_cases hkl : k < n2
   ·obtain ⟨ad2, e2, f2⟩ := at_int (Kd.C_below hC2.out hB.out) k (by omega) (by omega)
    rw [Int.toNat_natCast] at f2
    subst e2
    obtain ⟨y, hy⟩ : ∃ y, y = Sh.gi m1 k := ⟨_, rfl⟩
    rw [← hy] at f2
    have hkb : ((k : Int) == (n2 : Int)) = false := beq_eq_false_iff_ne.mpr (by omega)
    have hms := Sh.merge_two tk (gk - 1) m1 k (by have := hn2.out; omega) (Sh.drop_end (l := l1) (i := i) (by have := hn1.out; omega))
    rw [← hy] at hms
    replace hy := Lib.hid hy
    obtain ⟨gz, rfl⟩ : ∃ gz, gk = gz + 1 := ⟨gk - 1, by have := hg.out; omega⟩
    replace hms : Sh.mergeF tk (gz + 1) _ _ = _ := hms
    have hMs := hMr.out
    rw [hms] at hMs
    clear hms
    have htk := Lib.hid (fun W => hTh.out false true W)
    cases htv : tk false true
    ·rw [htv] at hMs htk
     have hMn : Hid (M = out ++ Sh.mergeF tk gz (l1.drop i) (m1.drop (k + 1))) := Lib.hid hMs
     clear hMs hMr htv
     go_wp2
     go_quiet (fail)
     go_wp2
     go_quiet (fail)
     go_wp2_with fail
     refine (htk.out _).mono ?_
     rintro e w5 ⟨rfl, rfl⟩
     go_wp2
     go_roundg gz
     case measure => omega
     case rel => exact ⟨X, i, (k + 1), out, rfl, rfl, by go_num, by omega, by omega, Lib.hid (by have := hg.out; omega), Lib.hid (Kd.R_drewN hX.out _), Lib.hid (pw_below_drewN hB.out _), by omega, hMn⟩
    ·rw [htv] at hMs htk
     have hMn : Hid (M = (out ++ [y]) ++ Sh.mergeF tk gz (l1.drop i) (m1.drop (k + 1))) := Lib.hid (by rw [hMs, List.append_assoc]; rfl)
     clear hMs hMr htv
     go_wp2
     go_quiet (fail)
     go_wp2
     go_quiet (fail)
     have hXd := Lib.hid (fun n => Kd.R_drewN hX.out n)
     have hBd := Lib.hid (fun n => pw_below_drewN hB.out n)
     go_wp2_with fail
     refine (htk.out _).mono ?_
     rintro e w5 ⟨rfl, rfl⟩
     go_wp2_with (at_builtin; refine app_one w2.heap.size rfl _ _ rfl X out (y) rfl rfl (hXd.out _) (hBd.out _) (hBd.out 0).size (by omega) ?_; intro v3 w6 a1 a2 a3; replace a1 := Lib.hid a1; replace a2 := Lib.hid a2; clear a3)
     go_roundg gz
     case measure => omega
     case rel => exact ⟨v3, i, (k + 1), out ++ [y], rfl, rfl, by go_num, by omega, by omega, Lib.hid (by have := hg.out; omega), a1, a2, by rw [List.length_append, List.length_singleton]; omega, hMn⟩
   ·have hkn : k = n2 := by omega
    subst hkn
    have hMf : M = out := by
     rw [hMr.out, Sh.drop_end (l := l1) (i := i) (by have := hn1.out; omega), Sh.drop_end (l := m1) (i := k) (by have := hn2.out; omega), Sh.merge_none, List.append_nil]
    have hB3 := Lib.hid (show Below W0.heap.size W0 wr from hB2.out.trans (hB.out.mono hB2.out.size))
    have hr3 := blk_below b1.out hB3.out
    have c10 : wr.cell? ⟨w.heap.size, 0, none⟩ = some (.int .i64 fa) := by rw [blk_cell hr3]; rfl
    obtain ⟨A3, c3, rfl, hc3, hC3⟩ := Kd.R_reads hX.out
    subst hMf
    have hmc := Lib.hid (hmd.out A3 c3 wr hB3.out hC3 hc3 (by omega))
    obtain ⟨n3, hn3⟩ : ∃ n3, n3 = M.length := ⟨_, rfl⟩
    rw [← hn3] at hmc hc3 hol ⊢
    replace hn3 := Lib.hid hn3
    clear hC3 hr3
    go_wp2_with fail
    refine (hmc.out).mono ?_
    rintro e w4 ⟨⟨v4, rfl, hR4⟩, hB4⟩
    have hB5 := Lib.hid (hB3.out.trans (hB4.mono hB3.out.size))
    have hr4 := blk_below b3.out hB5.out
    have hf4 := blk_frozen hr4
    have c40 : w4.cell? ⟨w.heap.size + 2, 0, none⟩ = some (.int .i64 0) := by rw [blk_cell hr4]; rfl
    have c41 : w4.cell? ⟨w.heap.size + 2, 1, none⟩ = some (.int .i64 0) := by rw [blk_cell hr4]; rfl
    have c42 : w4.cell? ⟨w.heap.size + 2, 2, none⟩ = some (.int .i64 0) := by rw [blk_cell hr4]; rfl
    have hBf := Lib.hid (hBw.out w4 hB5.out)
    have hsr := Lib.hid (show w.heap.size ≤ wr.heap.size by have := hB3.out.size; have := hsz.out; omega)
    replace hr4 := Lib.hid hr4
    replace hR4 := Lib.hid hR4
    clear hB4
    go_wp2
    refine bodyPost_ret (results_tct rfl _ _ (w.heap.size + 2) #[.int .i64 fa, .int .i64 R.2, .int .i64 n3] rfl (load_set3 hr4.out)) rfl ?_
    exact ⟨⟨v4, by rw [← hn3.out]; rfl, Kd.R_lower (out_set hR4.out hr4.out _ _ _) hsr.out⟩, (((hBf.out.setCell (p := ⟨w.heap.size + 2, 0, none⟩) (by show w.heap.size ≤ w.heap.size + 2; omega) _).setCell (p := ⟨w.heap.size + 2, 1, none⟩) (by show w.heap.size ≤ w.heap.size + 2; omega) _).setCell (p := ⟨w.heap.size + 2, 2, none⟩) (by show w.heap.size ≤ w.heap.size + 2; omega) _)⟩
end Go.Proofs.YtbfedeedicnedaaGreat
end
section
namespace Go.Proofs.YtbfedeedicnedaaGreat
open Go.RowKit
open Go.Proofs.YtbfedeedicnedaaGreatW.PrintWords
theorem enters83 (args : Array Value) (w : World) : (callFunc 83 args).run Tryz.prog w = .ok (.enter 83 args) w := enters_of Tryz.func83 (by kernel_rfl) rfl args w
theorem takes83 (a b : Bool) (w : World) : Calls Tryz.prog 83 #[.bool a, .bool b] w fun e w' => e = .returned (.bool ((fun _ _ => true : Bool → Bool → Bool) a b)) ∧ w' = w := by
  cases a <;> cases b
  all_goals
    go_enter Tryz.func83, Tryz.ntmps83
    go_wp2
    go_ret
    exact ⟨rfl, rfl⟩
theorem enters84 (args : Array Value) (w : World) : (callFunc 84 args).run Tryz.prog w = .ok (.enter 84 args) w := enters_of Tryz.func84 (by kernel_rfl) rfl args w
theorem takes84 (a b : Bool) (w : World) : Calls Tryz.prog 84 #[.bool a, .bool b] w fun e w' => e = .returned (.bool ((fun a b => a && b : Bool → Bool → Bool) a b)) ∧ w' = w := by
  cases a <;> cases b
  all_goals
    go_enter Tryz.func84, Tryz.ntmps84
    go_wp2
    go_ret
    exact ⟨rfl, rfl⟩
theorem enters85 (args : Array Value) (w : World) : (callFunc 85 args).run Tryz.prog w = .ok (.enter 85 args) w := enters_of Tryz.func85 (by kernel_rfl) rfl args w
theorem takes85 (a b : Bool) (w : World) : Calls Tryz.prog 85 #[.bool a, .bool b] w fun e w' => e = .returned (.bool ((fun a b => a && !b : Bool → Bool → Bool) a b)) ∧ w' = w := by
  cases a <;> cases b
  all_goals
    go_enter Tryz.func85, Tryz.ntmps85
    go_wp2
    go_ret
    exact ⟨rfl, rfl⟩
theorem Union_calls {H : Sh.Hp} {fa ra na fb rb nb : Int} {A : Option Addr} {c : Nat} {w : World} {l m M : List Int} (hC : Nodes w A H) (hLa : ListsF H fa) (hLb : ListsF H fb) (hDa : ¬ Digital fa) (hDb : ¬ Digital fb) (ha : Sh.listed H fa ra na = (l, 0)) (hb : Sh.listed H fb rb nb = (m, 0)) (hf1 : 1 ≤ fa) (hf5 : fa ≤ 5)
    (hM : M = Sh.mergeF (fun _ _ => true) (l.length + m.length) l m) (hlay : LaysF H M fa) (hl : H.length ≤ 100000) (hbig : ∀ p ∈ H, p.1.length ≤ 1000000 ∧ p.2.length ≤ 1000000) (hll : l.length ≤ 10000) (hmm : m.length ≤ 10000) :
    Calls Tryz.prog 41 #[.slice A H.length c, shV fa ra na, shV fb rb nb] w fun e w' => Out3 w.heap.size w' e (Sh.layF fa H M).1 fa (Sh.layF fa H M).2 M.length 0 ∧ Below w.heap.size w w' := by
  subst hM
  obtain ⟨W0, hW0⟩ : ∃ W0, W0 = ((w.alloc (.cells #[.int .i64 fa, .int .i64 ra, .int .i64 na] 25)).alloc (.cells #[.int .i64 fb, .int .i64 rb, .int .i64 nb] 25)).alloc (.cells #[.int .i64 0, .int .i64 0, .int .i64 0] 25) := ⟨_, rfl⟩
  have hsz := Lib.hid (show W0.heap.size = w.heap.size + 3 by rw [hW0, World.size_alloc, World.size_alloc, World.size_alloc])
  have b3 := Lib.hid (show W0.heap[w.heap.size + 2]? = some (.cells #[.int .i64 0, .int .i64 0, .int .i64 0] 25 (0, 0)) by
    have := heap_alloc_new ((w.alloc (.cells #[.int .i64 fa, .int .i64 ra, .int .i64 na] 25)).alloc (.cells #[.int .i64 fb, .int .i64 rb, .int .i64 nb] 25)) (.cells #[.int .i64 0, .int .i64 0, .int .i64 0] 25)
    rw [World.size_alloc, World.size_alloc] at this
    rw [hW0]
    exact this)
  have hB0 := Lib.hid (show Below w.heap.size w W0 by
    rw [hW0]
    exact (((Below.refl _ _).alloc (Nat.le_refl _) _).alloc (by rw [World.size_alloc]; omega) _).alloc (by rw [World.size_alloc, World.size_alloc]; omega) _)
  have hcl := Lib.hid (joined_calls (c := c) (fun _ _ => true) 83 enters83 takes83 (Kd.C_below hC hB0.out) hLa hLb hDa hDb ha hb hf1 hf5 hlay hl hbig hll hmm)
  generalize Sh.mergeF (fun _ _ => true) (l.length + m.length) l m = M at *
  generalize Sh.layF fa H M = R at *
  clear hC hLa hLb hDa hDb ha hb hlay hbig
  go_enter Tryz.func41, Tryz.ntmps41
  go_wp2_with fail
  rw [← hW0]
  clear hW0
  refine (hcl.out).mono ?_
  rintro e w4 ⟨⟨v4, rfl, hR4⟩, hB4⟩
  have hr4 := blk_below b3.out hB4
  have hf4 := blk_frozen hr4
  have c40 : w4.cell? ⟨w.heap.size + 2, 0, none⟩ = some (.int .i64 0) := by rw [blk_cell hr4]; rfl
  have c41 : w4.cell? ⟨w.heap.size + 2, 1, none⟩ = some (.int .i64 0) := by rw [blk_cell hr4]; rfl
  have c42 : w4.cell? ⟨w.heap.size + 2, 2, none⟩ = some (.int .i64 0) := by rw [blk_cell hr4]; rfl
  have hBf := Lib.hid (hB0.out.trans (hB4.mono (by have := hsz.out; omega)))
  have hsr := Lib.hid (show w.heap.size ≤ W0.heap.size by have := hsz.out; omega)
  replace hr4 := Lib.hid hr4
  replace hR4 := Lib.hid hR4
  clear hB4
  go_wp2
  refine bodyPost_ret (results_tct rfl _ _ (w.heap.size + 2) #[.int .i64 fa, .int .i64 R.2, .int .i64 M.length] rfl (load_set3 hr4.out)) rfl ?_
  exact ⟨⟨v4, rfl, Kd.R_lower (out_set hR4.out hr4.out _ _ _) hsr.out⟩, (((hBf.out.setCell (p := ⟨w.heap.size + 2, 0, none⟩) (by show w.heap.size ≤ w.heap.size + 2; omega) _).setCell (p := ⟨w.heap.size + 2, 1, none⟩) (by show w.heap.size ≤ w.heap.size + 2; omega) _).setCell (p := ⟨w.heap.size + 2, 2, none⟩) (by show w.heap.size ≤ w.heap.size + 2; omega) _)⟩
theorem Meet_calls {H : Sh.Hp} {fa ra na fb rb nb : Int} {A : Option Addr} {c : Nat} {w : World} {l m M : List Int} (hC : Nodes w A H) (hLa : ListsF H fa) (hLb : ListsF H fb) (hDa : ¬ Digital fa) (hDb : ¬ Digital fb) (ha : Sh.listed H fa ra na = (l, 0)) (hb : Sh.listed H fb rb nb = (m, 0)) (hf1 : 1 ≤ fa) (hf5 : fa ≤ 5)
    (hM : M = Sh.mergeF (fun a b => a && b) (l.length + m.length) l m) (hlay : LaysF H M fa) (hl : H.length ≤ 100000) (hbig : ∀ p ∈ H, p.1.length ≤ 1000000 ∧ p.2.length ≤ 1000000) (hll : l.length ≤ 10000) (hmm : m.length ≤ 10000) :
    Calls Tryz.prog 42 #[.slice A H.length c, shV fa ra na, shV fb rb nb] w fun e w' => Out3 w.heap.size w' e (Sh.layF fa H M).1 fa (Sh.layF fa H M).2 M.length 0 ∧ Below w.heap.size w w' := by
  subst hM
  obtain ⟨W0, hW0⟩ : ∃ W0, W0 = ((w.alloc (.cells #[.int .i64 fa, .int .i64 ra, .int .i64 na] 25)).alloc (.cells #[.int .i64 fb, .int .i64 rb, .int .i64 nb] 25)).alloc (.cells #[.int .i64 0, .int .i64 0, .int .i64 0] 25) := ⟨_, rfl⟩
  have hsz := Lib.hid (show W0.heap.size = w.heap.size + 3 by rw [hW0, World.size_alloc, World.size_alloc, World.size_alloc])
  have b3 := Lib.hid (show W0.heap[w.heap.size + 2]? = some (.cells #[.int .i64 0, .int .i64 0, .int .i64 0] 25 (0, 0)) by
    have := heap_alloc_new ((w.alloc (.cells #[.int .i64 fa, .int .i64 ra, .int .i64 na] 25)).alloc (.cells #[.int .i64 fb, .int .i64 rb, .int .i64 nb] 25)) (.cells #[.int .i64 0, .int .i64 0, .int .i64 0] 25)
    rw [World.size_alloc, World.size_alloc] at this
    rw [hW0]
    exact this)
  have hB0 := Lib.hid (show Below w.heap.size w W0 by
    rw [hW0]
    exact (((Below.refl _ _).alloc (Nat.le_refl _) _).alloc (by rw [World.size_alloc]; omega) _).alloc (by rw [World.size_alloc, World.size_alloc]; omega) _)
  have hcl := Lib.hid (joined_calls (c := c) (fun a b => a && b) 84 enters84 takes84 (Kd.C_below hC hB0.out) hLa hLb hDa hDb ha hb hf1 hf5 hlay hl hbig hll hmm)
  generalize Sh.mergeF (fun a b => a && b) (l.length + m.length) l m = M at *
  generalize Sh.layF fa H M = R at *
  clear hC hLa hLb hDa hDb ha hb hlay hbig
  go_enter Tryz.func42, Tryz.ntmps42
  go_wp2_with fail
  rw [← hW0]
  clear hW0
  refine (hcl.out).mono ?_
  rintro e w4 ⟨⟨v4, rfl, hR4⟩, hB4⟩
  have hr4 := blk_below b3.out hB4
  have hf4 := blk_frozen hr4
  have c40 : w4.cell? ⟨w.heap.size + 2, 0, none⟩ = some (.int .i64 0) := by rw [blk_cell hr4]; rfl
  have c41 : w4.cell? ⟨w.heap.size + 2, 1, none⟩ = some (.int .i64 0) := by rw [blk_cell hr4]; rfl
  have c42 : w4.cell? ⟨w.heap.size + 2, 2, none⟩ = some (.int .i64 0) := by rw [blk_cell hr4]; rfl
  have hBf := Lib.hid (hB0.out.trans (hB4.mono (by have := hsz.out; omega)))
  have hsr := Lib.hid (show w.heap.size ≤ W0.heap.size by have := hsz.out; omega)
  replace hr4 := Lib.hid hr4
  replace hR4 := Lib.hid hR4
  clear hB4
  go_wp2
  refine bodyPost_ret (results_tct rfl _ _ (w.heap.size + 2) #[.int .i64 fa, .int .i64 R.2, .int .i64 M.length] rfl (load_set3 hr4.out)) rfl ?_
  exact ⟨⟨v4, rfl, Kd.R_lower (out_set hR4.out hr4.out _ _ _) hsr.out⟩, (((hBf.out.setCell (p := ⟨w.heap.size + 2, 0, none⟩) (by show w.heap.size ≤ w.heap.size + 2; omega) _).setCell (p := ⟨w.heap.size + 2, 1, none⟩) (by show w.heap.size ≤ w.heap.size + 2; omega) _).setCell (p := ⟨w.heap.size + 2, 2, none⟩) (by show w.heap.size ≤ w.heap.size + 2; omega) _)⟩
theorem Minus_calls {H : Sh.Hp} {fa ra na fb rb nb : Int} {A : Option Addr} {c : Nat} {w : World} {l m M : List Int} (hC : Nodes w A H) (hLa : ListsF H fa) (hLb : ListsF H fb) (hDa : ¬ Digital fa) (hDb : ¬ Digital fb) (ha : Sh.listed H fa ra na = (l, 0)) (hb : Sh.listed H fb rb nb = (m, 0)) (hf1 : 1 ≤ fa) (hf5 : fa ≤ 5)
    (hM : M = Sh.mergeF (fun a b => a && !b) (l.length + m.length) l m) (hlay : LaysF H M fa) (hl : H.length ≤ 100000) (hbig : ∀ p ∈ H, p.1.length ≤ 1000000 ∧ p.2.length ≤ 1000000) (hll : l.length ≤ 10000) (hmm : m.length ≤ 10000) :
    Calls Tryz.prog 43 #[.slice A H.length c, shV fa ra na, shV fb rb nb] w fun e w' => Out3 w.heap.size w' e (Sh.layF fa H M).1 fa (Sh.layF fa H M).2 M.length 0 ∧ Below w.heap.size w w' := by
  subst hM
  obtain ⟨W0, hW0⟩ : ∃ W0, W0 = ((w.alloc (.cells #[.int .i64 fa, .int .i64 ra, .int .i64 na] 25)).alloc (.cells #[.int .i64 fb, .int .i64 rb, .int .i64 nb] 25)).alloc (.cells #[.int .i64 0, .int .i64 0, .int .i64 0] 25) := ⟨_, rfl⟩
  have hsz := Lib.hid (show W0.heap.size = w.heap.size + 3 by rw [hW0, World.size_alloc, World.size_alloc, World.size_alloc])
  have b3 := Lib.hid (show W0.heap[w.heap.size + 2]? = some (.cells #[.int .i64 0, .int .i64 0, .int .i64 0] 25 (0, 0)) by
    have := heap_alloc_new ((w.alloc (.cells #[.int .i64 fa, .int .i64 ra, .int .i64 na] 25)).alloc (.cells #[.int .i64 fb, .int .i64 rb, .int .i64 nb] 25)) (.cells #[.int .i64 0, .int .i64 0, .int .i64 0] 25)
    rw [World.size_alloc, World.size_alloc] at this
    rw [hW0]
    exact this)
  have hB0 := Lib.hid (show Below w.heap.size w W0 by
    rw [hW0]
    exact (((Below.refl _ _).alloc (Nat.le_refl _) _).alloc (by rw [World.size_alloc]; omega) _).alloc (by rw [World.size_alloc, World.size_alloc]; omega) _)
  have hcl := Lib.hid (joined_calls (c := c) (fun a b => a && !b) 85 enters85 takes85 (Kd.C_below hC hB0.out) hLa hLb hDa hDb ha hb hf1 hf5 hlay hl hbig hll hmm)
  generalize Sh.mergeF (fun a b => a && !b) (l.length + m.length) l m = M at *
  generalize Sh.layF fa H M = R at *
  clear hC hLa hLb hDa hDb ha hb hlay hbig
  go_enter Tryz.func43, Tryz.ntmps43
  go_wp2_with fail
  rw [← hW0]
  clear hW0
  refine (hcl.out).mono ?_
  rintro e w4 ⟨⟨v4, rfl, hR4⟩, hB4⟩
  have hr4 := blk_below b3.out hB4
  have hf4 := blk_frozen hr4
  have c40 : w4.cell? ⟨w.heap.size + 2, 0, none⟩ = some (.int .i64 0) := by rw [blk_cell hr4]; rfl
  have c41 : w4.cell? ⟨w.heap.size + 2, 1, none⟩ = some (.int .i64 0) := by rw [blk_cell hr4]; rfl
  have c42 : w4.cell? ⟨w.heap.size + 2, 2, none⟩ = some (.int .i64 0) := by rw [blk_cell hr4]; rfl
  have hBf := Lib.hid (hB0.out.trans (hB4.mono (by have := hsz.out; omega)))
  have hsr := Lib.hid (show w.heap.size ≤ W0.heap.size by have := hsz.out; omega)
  replace hr4 := Lib.hid hr4
  replace hR4 := Lib.hid hR4
  clear hB4
  go_wp2
  refine bodyPost_ret (results_tct rfl _ _ (w.heap.size + 2) #[.int .i64 fa, .int .i64 R.2, .int .i64 M.length] rfl (load_set3 hr4.out)) rfl ?_
  exact ⟨⟨v4, rfl, Kd.R_lower (out_set hR4.out hr4.out _ _ _) hsr.out⟩, (((hBf.out.setCell (p := ⟨w.heap.size + 2, 0, none⟩) (by show w.heap.size ≤ w.heap.size + 2; omega) _).setCell (p := ⟨w.heap.size + 2, 1, none⟩) (by show w.heap.size ≤ w.heap.size + 2; omega) _).setCell (p := ⟨w.heap.size + 2, 2, none⟩) (by show w.heap.size ≤ w.heap.size + 2; omega) _)⟩
end Go.Proofs.YtbfedeedicnedaaGreat
end
section
namespace Go.Proofs.YtbfedeedicnedaaGreat
open Go.RowKit
open Go.Proofs.YtbfedeedicnedaaGreatW.PrintWords
namespace Sh
theorem get_bang {l : List Int} {j : Nat} (h : j < l.length) : l.toArray[j]! = l[j] := by simp [h]
theorem compact_mem {l : List Int} (hs : l.Pairwise (· ≤ ·)) : ∀ m, m ≤ l.length → (Lib.compactUpTo l.toArray m).Pairwise (· < ·) ∧ (∀ y, y ∈ Lib.compactUpTo l.toArray m ↔ y ∈ l.take m) := by
  intro m
  induction m with
  | zero => intro _; exact ⟨by simp [Lib.compactUpTo], fun y => by simp [Lib.compactUpTo]⟩
  | succ m ih =>
    intro hm
    obtain ⟨h1, h2⟩ := ih (by omega)
    rw [Lib.compactUpTo_succ]
    have hlt : m < l.length := by omega
    have hle : ∀ y ∈ l.take m, y ≤ l[m] := by
      intro y hy
      have hsp : l = l.take m ++ l[m] :: l.drop (m + 1) := by
        conv => lhs; rw [← List.take_append_drop m l, List.drop_eq_getElem_cons hlt]
      rw [hsp, List.pairwise_append] at hs
      exact hs.2.2 y hy _ (List.mem_cons_self)
    have htk : l.take (m + 1) = l.take m ++ [l[m]] := List.take_succ_eq_append_getElem hlt
    by_cases hk : Lib.keeps l.toArray m = true
    · rw [if_pos hk, get_bang hlt]
      have hk2 : m = 0 ∨ l.toArray[m]! ≠ l.toArray[m - 1]! := by
        unfold Lib.keeps at hk
        exact of_decide_eq_true hk
      have hlt2 : ∀ y ∈ l.take m, y < l[m] := by
        intro y hy
        have hne : y ≠ l[m] := by
          rintro rfl
          obtain ⟨j, hj, hjy⟩ := List.getElem_of_mem hy
          rw [List.length_take] at hj
          rw [List.getElem_take] at hjy
          rcases hk2 with h0 | h0
          · subst h0; simp at hy
          · rw [get_bang hlt, get_bang (show m - 1 < l.length by omega)] at h0
            have a1 : l[j] ≤ l[m - 1] := by
              rcases Nat.lt_or_eq_of_le (show j ≤ m - 1 by omega) with h | h
              · exact (List.pairwise_iff_getElem.1 hs) j (m - 1) (by omega) (by omega) h
              · simp only [h]; exact Int.le_refl _
            have a2 : l[m - 1] ≤ l[m] := (List.pairwise_iff_getElem.1 hs) (m - 1) m (by omega) hlt (by omega)
            omega
        have := hle y hy
        omega
      refine ⟨?_, fun y => ?_⟩
      · rw [List.pairwise_append]
        refine ⟨h1, List.pairwise_singleton _ _, fun a ha b hb => ?_⟩
        rw [List.mem_singleton] at hb
        rw [hb]
        exact hlt2 a ((h2 a).1 ha)
      · rw [List.mem_append, h2, htk, List.mem_append]
    · rw [if_neg hk, List.append_nil]
      refine ⟨h1, fun y => ?_⟩
      rw [h2, htk, List.mem_append, List.mem_singleton]
      refine ⟨.inl, ?_⟩
      rintro (h | rfl)
      · exact h
      · unfold Lib.keeps at hk
        have hk2 : ¬ (m = 0 ∨ l.toArray[m]! ≠ l.toArray[m - 1]!) := fun h => hk (decide_eq_true h)
        have h0 : m ≠ 0 := fun h => hk2 (.inl h)
        have he : l.toArray[m]! = l.toArray[m - 1]! := Classical.byContradiction fun h => hk2 (.inr h)
        rw [get_bang hlt, get_bang (show m - 1 < l.length by omega)] at he
        rw [he, List.mem_take_iff_getElem]
        exact ⟨m - 1, by omega, rfl⟩
theorem compact_sort {l : List Int} (hx : ∀ x ∈ l, 0 ≤ x ∧ x ≤ 1023) : Lib.compact l.mergeSort = sortF l ∧ Els (sortF l) := by
  have hs : l.mergeSort.Pairwise (· ≤ ·) := by
    have := List.pairwise_mergeSort (le := fun a b : Int => decide (a ≤ b)) (fun a b c h1 h2 => by simp at *; omega) (fun a b => by simp; omega) l
    exact this.imp (fun h => by simpa using h)
  have hc := compact_mem hs l.mergeSort.length (Nat.le_refl _)
  obtain ⟨h1, h2⟩ := sortF_els hx
  refine ⟨(rise_ext hc.1 h1.1 (fun y => ?_)), h1⟩
  have h3 := hc.2 y
  rw [List.take_length] at h3
  show y ∈ Lib.compactUpTo l.mergeSort.toArray l.mergeSort.length ↔ _
  rw [h3, h2, (List.mergeSort_perm _ _).mem_iff]
end Sh
end Go.Proofs.YtbfedeedicnedaaGreat
end
