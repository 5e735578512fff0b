/-
  Texts of this claim: ShP, ShO, ShQ.
-/
import Derived.Test.YtbfedeedicnedaaGreatSj21
set_option linter.unusedVariables false
set_option linter.unusedSimpArgs false
set_option maxHeartbeats 8000000
set_option maxRecDepth 100000
section
namespace Go.Proofs.YtbfedeedicnedaaGreat
open Go.RowKit
open Go.Proofs.YtbfedeedicnedaaGreatW.PrintWords
namespace Sh
theorem full_take (t : List Int) (k : Nat) (h : k < t.length) : full (t.take (k + 1)) = if gi t k = -1 then full (t.take k) else full (t.take k) ++ [gi t k] := by
 unfold full gi
 rw [List.take_succ_eq_append_getElem h, List.filter_append, List.getD_eq_getElem?_getD, List.getElem?_eq_getElem h]
 simp only [Option.getD_some]
 split
 ·rename_i h1
  simp [h1]
 ·rename_i h1
  simp [h1]
def okSlot (t : List Int) (i : Nat) : Bool := decide (gi t i = -1) || decide (probe t (gi t i) t.length (home (gi t i) t.length).toNat = some i)
theorem all_at (Q : Nat → Bool) (n k : Nat) (h : k < n) : ((List.range n).drop k).all Q = (Q k && ((List.range n).drop (k + 1)).all Q) := by
 have : (List.range n).drop k = k :: (List.range n).drop (k + 1) := by
  rw [List.drop_eq_getElem_cons (by simpa using h)]
  simp
 rw [this]
 rfl
def okEl (x : Int) : Bool := decide (x = -1) || el x
theorem all_el (t : List Int) (k : Nat) (h : k < t.length) : (t.drop k).all okEl = (okEl (gi t k) && (t.drop (k + 1)).all okEl) := by
 rw [drop_at' t k h]
 rfl
theorem empty_slot {t : List Int} (h0 : 8 ≤ t.length) (h : 2 * (full t).length ≤ t.length) : ∃ i, i < t.length ∧ gi t i = -1 := by
 refine Classical.byContradiction fun hc => ?_
 have : full t = t := by
  unfold full
  rw [List.filter_eq_self]
  intro y hy
  obtain ⟨i, hi, e⟩ := mem_gi.1 hy
  refine decide_eq_true fun h1 => hc ⟨i, hi, by rw [e]; exact h1⟩
 rw [this] at h
 omega
theorem okEl_el {x : Int} (h : okEl x = true) (h1 : x ≠ -1) : 0 ≤ x ∧ x ≤ 1023 := by
 unfold okEl el at h
 rw [decide_eq_false h1, Bool.false_or, Bool.and_eq_true, decide_eq_true_eq, decide_eq_true_eq] at h
 exact h
theorem probe_step (t : List Int) (x : Int) (g a : Nat) : probe t x (g + 1) a = if gi t a = x then some a else if gi t a = -1 then none else probe t x g ((a + 1) % t.length) := rfl
theorem pow2_all : (List.range 2049).all (fun n => decide (n < 8) || (pow2 n == decide (n &&& (n - 1) = 0))) = true := by decide +kernel
theorem pow2_and {n : Nat} (h0 : 8 ≤ n) (h1 : n ≤ 2048) : pow2 n = decide (n &&& (n - 1) = 0) := by
 have h := List.all_eq_true.1 pow2_all n (List.mem_range.2 (by omega))
 rw [decide_eq_false (show ¬ n < 8 by omega), Bool.false_or] at h
 exact eq_of_beq h
theorem and_at {n : Nat} (h0 : 8 ≤ n) (h1 : n ≤ 2048) : bits BinOp.and IntKind.i64 (n : Int) ((n : Int) - 1) = ((n &&& (n - 1) : Nat) : Int) := by
 have e : ((n : Int) - 1) = ((n - 1 : Nat) : Int) := by omega
 rw [e]
 exact (bits_nat .i64 62 (by decide) (fun m h0 h1 => IntWalk.i64_in _ (by omega)) n (n - 1) (by omega) (by omega)).1
end Sh
theorem hlist_calls (H : Sh.Hp) (root : Int) (A : Option Addr) (c : Nat) (w : World) (hC : Nodes w A H) (hbig : ∀ p ∈ H, p.1.length ≤ 1000000) :
    Calls Tryz.prog 191 #[.agg #[], .slice A H.length c, .int .i64 root] w fun e w' => Got w.heap.size w' e (Sh.listHash H root) ∧ Below w.heap.size w w' := by
  have hB0 := Lib.hid (show Below w.heap.size w (w.alloc (.cells #[] 157)) from (Below.refl _ _).alloc (Nat.le_refl _) _)
  unfold Sh.listHash
  by_cases ht : Sh.there H root = true
  case neg =>
    have ht' : Sh.there H root = false := by simpa using ht
    have hth := Lib.hid (fun W => there_at (w := W) (A := A) (c := c) ht')
    rw [ht']
    simp only [Bool.false_and, Bool.false_eq_true, if_false]
    clear ht ht'
    go_enter Tryz.func191, Tryz.ntmps191
    go_wp2
    go_step3
    go_wp2_with fail
    refine (hth.out _).mono ?_
    rintro e w1 ⟨rfl, rfl⟩
    go_wp2
    try dsimp only [Exit.noGoto]
    go_ret2
    exact ⟨⟨_, rfl, Kd.R_nil _ _ _ _ _⟩, hB0.out⟩
  case pos =>
    have hth := Lib.hid (fun W => there_at (w := W) (A := A) (c := c) ht)
    obtain ⟨hr0, hr1⟩ := Sh.there_iff.1 ht
    have hmem : Sh.nd H root ∈ H := List.mem_of_getElem? (Sh.nd_there ht)
    have hsm := hbig _ hmem
    rw [ht, Bool.true_and]
    have hC1 := Kd.C_alloc hC (.cells #[] 157)
    obtain ⟨ad, A0, c0, A1, c1, rfl, d0, d1, l0, g0, l1, g1⟩ := Nodes.at hC1 root hr0 hr1
    obtain ⟨i, rfl⟩ := Int.eq_ofNat_of_zero_le hr0
    simp only [Int.toNat_natCast] at d0 d1
    generalize (Sh.nd H (i : Int)).2.length = n1 at *
    generalize (Sh.nd H (i : Int)).1 = t at *
    by_cases h1 : n1 = 0
    case neg =>
      have hb : (n1 == 0) = false := by rw [beq_eq_false_iff_ne]; exact h1
      rw [hb]
      simp only [Bool.false_and, Bool.false_eq_true, if_false]
      clear hb hC hC1 g0 g1 ht
      go_enter Tryz.func191, Tryz.ntmps191
      go_wp2
      go_step3
      go_wp2_with fail
      refine (hth.out _).mono ?_
      rintro e w1 ⟨rfl, rfl⟩
      go_wp2
      try dsimp only [Exit.noGoto]
      go_ret2
      exact ⟨⟨_, rfl, Kd.R_nil _ _ _ _ _⟩, hB0.out⟩
    case pos =>
      subst h1
      simp only [BEq.rfl, Bool.true_and]
      have hg0 := Lib.hid g0
      obtain ⟨n, hn⟩ : ∃ n, n = t.length := ⟨_, rfl⟩
      rw [← hn] at d0 hg0 hsm ⊢
      have hnh := Lib.hid hn
      clear hC hC1 g0 g1 ht hn
      cases hp : Sh.pow2 n
      · simp only [Bool.false_eq_true, if_false]
        by_cases q1 : n < 8
        · clear hp
          go_enter Tryz.func191, Tryz.ntmps191
          go_wp2
          go_step3
          go_wp2_with fail
          refine (hth.out _).mono ?_
          rintro e w1 ⟨rfl, rfl⟩
          go_wp2
          try dsimp only [Exit.noGoto]
          go_ret2
          exact ⟨⟨_, rfl, Kd.R_nil _ _ _ _ _⟩, hB0.out⟩
        by_cases q2 : 2048 < n
        · clear hp
          go_enter Tryz.func191, Tryz.ntmps191
          go_wp2
          go_step3
          go_wp2_with fail
          refine (hth.out _).mono ?_
          rintro e w1 ⟨rfl, rfl⟩
          go_wp2
          try dsimp only [Exit.noGoto]
          go_ret2
          exact ⟨⟨_, rfl, Kd.R_nil _ _ _ _ _⟩, hB0.out⟩
        have q3 : ¬ (n &&& (n - 1) = 0) := by
          have := Sh.pow2_and (n := n) (by omega) (by omega)
          rw [hp] at this
          exact of_decide_eq_false this.symm
        have hand := Sh.and_at (n := n) (by omega) (by omega)
        generalize n &&& (n - 1) = m at *
        have q4 : ((m : Int) != 0) = true := bne_iff_ne.mpr (by omega)
        clear hp q3
        go_enter Tryz.func191, Tryz.ntmps191
        go_wp2
        go_step3
        go_wp2_with fail
        refine (hth.out _).mono ?_
        rintro e w1 ⟨rfl, rfl⟩
        go_wp2
        try dsimp only [Exit.noGoto]
        go_ret2
        exact ⟨⟨_, rfl, Kd.R_nil _ _ _ _ _⟩, hB0.out⟩
      · simp only [if_true]
        obtain ⟨p8, p9⟩ := Sh.pow2_pos hp
        have hand := Sh.and_at (n := n) p8 p9
        have q3 : n &&& (n - 1) = 0 := by
          have := Sh.pow2_and (n := n) p8 p9
          rw [hp] at this
          exact of_decide_eq_true this.symm
        rw [q3] at hand
        obtain ⟨R, hR⟩ : ∃ R, R = (if t.all Sh.okEl then (if 2 * (Sh.full t).length ≤ n then (if (List.range n).all (Sh.okSlot t) then some (Sh.full t).mergeSort else none) else none) else none) := ⟨_, rfl⟩
        have hRw : (if (t.all fun x => decide (x = -1) || Sh.el x) = true then
              if 2 * (t.filter fun x => decide (x ≠ -1)).length ≤ n then
                if ((List.range n).all fun i => decide (Sh.gi t i = -1) || decide (Sh.probe t (Sh.gi t i) n (Sh.home (Sh.gi t i) n).toNat = some i)) = true then
                  some (t.filter fun x => decide (x ≠ -1)).mergeSort
                else none
              else none
            else none) = R := by
          rw [hR]
          have e1 : (fun i => decide (Sh.gi t i = -1) || decide (Sh.probe t (Sh.gi t i) n (Sh.home (Sh.gi t i) n).toNat = some i)) = Sh.okSlot t := by
            rw [hnh.out]
            rfl
          rw [e1]
          rfl
        rw [hRw]
        replace hR := Lib.hid hR
        clear hRw hp q3
        obtain ⟨W1, hW1⟩ : ∃ W1, W1 = w.alloc (.cells #[] 157) := ⟨_, rfl⟩
        have hsz1 := Lib.hid (show w.heap.size ≤ W1.heap.size by rw [hW1, World.size_alloc]; omega)
        have hg1 := Lib.hid (show Kd.C kI W1 A0 n t by rw [hW1]; exact hg0.out)
        have hB1 := Lib.hid (show Below w.heap.size w W1 by rw [hW1]; exact hB0.out)
        clear hg0 hB0
        obtain ⟨AE, hAE⟩ : ∃ AE, AE = t.all Sh.okEl := ⟨_, rfl⟩
        rw [← hAE] at hR
        replace hAE := Lib.hid hAE
        go_enter Tryz.func191, Tryz.ntmps191
        go_wp2
        go_step3
        go_wp2_with fail
        refine (hth.out _).mono ?_
        rintro e w1 ⟨rfl, rfl⟩
        go_wp2
        rw [← hW1]
        clear hW1
        go_loopg [10, 51] n (fun g v10 v51 wr => ∃ (X : Value) (k : Nat), X = v10 ∧ v51 = .int .i64 k ∧ k ≤ n ∧ Hid (g + k = n) ∧ Hid (Ints wr W1.heap.size v10 (Sh.full (t.take k))) ∧ Hid (Below W1.heap.size W1 wr) ∧ Hid (AE = (t.drop k).all Sh.okEl))
        case atStart => exact ⟨_, 0, rfl, rfl, Nat.zero_le _, Lib.hid rfl, Lib.hid (Kd.R_nil _ _ _ _ _), Lib.hid (Below.refl _ _), Lib.hid hAE.out⟩
        case round =>
          obtain ⟨X, k, rfl, rfl, hk, hg, hX, hB, hA⟩ := hrel
          by_cases hlt : k < n
          · obtain ⟨ad0, rfl, e0⟩ := at_int (Kd.C_below hg1.out hB.out) k (by omega) (by omega)
            rw [Int.toNat_natCast] at e0
            have hst := Lib.hid (Sh.all_el t k (by have := hnh.out; omega))
            have hft := Lib.hid (Sh.full_take t k (by have := hnh.out; omega))
            obtain ⟨x, hx⟩ : ∃ x, x = Sh.gi t k := ⟨_, rfl⟩
            rw [← hx] at e0 hst hft
            replace hx := Lib.hid hx
            by_cases c1 : x = -1
            · have hA2 : Hid (AE = (t.drop (k + 1)).all Sh.okEl) := Lib.hid (by rw [hA.out, hst.out, show Sh.okEl x = true by rw [c1]; rfl, Bool.true_and])
              have hX2 : Hid (Ints wr W1.heap.size X (Sh.full (t.take (k + 1)))) := Lib.hid (by rw [hft.out, if_pos c1]; exact hX.out)
              have c1b : (x == -1) = true := beq_iff_eq.mpr c1
              clear c1 hX hA
              go_wp2
              go_roundg (n - (k + 1))
              case measure => have := hg.out; omega
              case rel => exact ⟨_, k + 1, rfl, by go_num, by omega, Lib.hid (by omega), hX2, hB, hA2⟩
            have c1b : (x == -1) = false := beq_eq_false_iff_ne.mpr c1
            cases he : Sh.el x
            · have hel := Lib.hid (fun W => element_at (w := W) x he)
              have hF : Hid (AE = false) := Lib.hid (by rw [hA.out, hst.out, show Sh.okEl x = false by unfold Sh.okEl; rw [decide_eq_false c1, he]; rfl]; rfl)
              clear he c1
              go_wp2_with fail
              refine (hel.out _).mono ?_
              rintro e w1 ⟨rfl, rfl⟩
              go_wp2
              try dsimp only [Exit.noGoto]
              obtain rfl : R = none := by rw [hR.out, hF.out]; rfl
              go_ret2
              exact ⟨⟨_, rfl, Kd.R_nil _ _ _ _ _⟩, Below.trans hB1.out (hB.out.mono hsz1.out)⟩
            · have hel := Lib.hid (fun W => element_at (w := W) x he)
              have hA2 : Hid (AE = (t.drop (k + 1)).all Sh.okEl) := Lib.hid (by rw [hA.out, hst.out, show Sh.okEl x = true by unfold Sh.okEl; rw [he, Bool.or_true], Bool.true_and])
              have hfl := Lib.hid (show (Sh.full (t.take k)).length ≤ n by unfold Sh.full; exact Nat.le_trans (List.length_filter_le _ _) (by rw [List.length_take]; omega))
              have hc1 := Lib.hid c1
              clear he c1
              go_wp2_with fail
              refine (hel.out _).mono ?_
              rintro e w1 ⟨rfl, rfl⟩
              go_wp2_with (at_builtin; refine app_one W1.heap.size rfl _ _ rfl X _ x rfl rfl hX.out hB.out hB.out.size (by have := hfl.out; omega) ?_; intro v3 w6 a1 a2 a3; replace a1 := Lib.hid a1; replace a2 := Lib.hid a2; clear a3)
              go_roundg (n - (k + 1))
              case measure => have := hg.out; omega
              case rel => exact ⟨_, k + 1, rfl, by go_num, by omega, Lib.hid (by omega), Lib.hid (by rw [hft.out, if_neg hc1.out]; exact a1.out), a2, hA2⟩
          · have hAt : Hid (AE = true) := Lib.hid (by rw [hA.out, List.drop_of_length_le (by have := hnh.out; omega)]; rfl)
            have hXf : Hid (Ints wr W1.heap.size X (Sh.full t)) := Lib.hid (by have := hX.out; rwa [List.take_of_length_le (by have := hnh.out; omega)] at this)
            have hml : (Sh.full t).length ≤ n := by unfold Sh.full; exact Nat.le_trans (List.length_filter_le _ _) (by have := hnh.out; omega)
            obtain ⟨m, hm⟩ : ∃ m, m = (Sh.full t).length := ⟨_, rfl⟩
            obtain ⟨A5, c5, e5⟩ := Kd.R_slice hXf.out
            rw [← hm] at hml e5
            replace hm := Lib.hid hm
            subst e5
            by_cases c2 : n < 2 * m
            · obtain rfl : R = none := by rw [hR.out, hAt.out, if_pos rfl, if_neg (by rw [← hm.out]; omega)]
              go_wp2
              try dsimp only [Exit.noGoto]
              go_ret2
              exact ⟨⟨_, rfl, Kd.R_nil _ _ _ _ _⟩, Below.trans hB1.out (hB.out.mono hsz1.out)⟩
            · obtain ⟨ie, hie, hee⟩ := Sh.empty_slot (t := t) (by have := hnh.out; omega) (by have := hm.out; have := hnh.out; omega)
              obtain ⟨OK, hOK⟩ : ∃ OK, OK = (List.range n).all (Sh.okSlot t) := ⟨_, rfl⟩
              have hR2 : Hid (R = if OK then some (Sh.full t).mergeSort else none) := Lib.hid (by rw [hR.out, hAt.out, if_pos rfl, if_pos (by rw [← hm.out]; omega), hOK])
              replace hOK := Lib.hid hOK
              have hall : Hid (∀ j, j < n → Sh.okEl (Sh.gi t j) = true) := Lib.hid fun j hj => by
                have h1 := hAE.out
                rw [hAt.out] at h1
                exact List.all_eq_true.1 h1.symm _ (Sh.mem_gi.2 ⟨j, by have := hnh.out; omega, rfl⟩)
              replace hee := Lib.hid (show ie < t.length ∧ Sh.gi t ie = -1 from ⟨hie, hee⟩)
              clear hie hR hX hA hAt hAE
              have hgr := Lib.hid (Kd.C_below hg1.out hB.out)
              have hBr := Lib.hid (Below.trans hB1.out (hB.out.mono hsz1.out))
              have hXr := Lib.hid (Kd.R_lower hXf.out hsz1.out)
              clear hg1 hB hB1 hsz1 hXf
              go_wp2
              go_step3
              go_wp2
              go_loopg [72] n (fun g v72 wr2 => ∃ (k : Nat), v72 = .int .i64 k ∧ k ≤ n ∧ Hid (g + k = n) ∧ wr2 = wr ∧ Hid (OK = ((List.range n).drop k).all (Sh.okSlot t)))
              case atStart => exact ⟨0, rfl, Nat.zero_le _, Lib.hid rfl, rfl, Lib.hid hOK.out⟩
              case round =>
                obtain ⟨k, rfl, hk, hg, rfl, hA⟩ := hrel
                by_cases hlt : k < n
                · obtain ⟨ad0, rfl, e0⟩ := at_int hgr.out k (by omega) (by omega)
                  rw [Int.toNat_natCast] at e0
                  have hst := Lib.hid (Sh.all_at (Sh.okSlot t) n k hlt)
                  have hok := hall.out k hlt
                  obtain ⟨x, hx⟩ : ∃ x, x = Sh.gi t k := ⟨_, rfl⟩
                  rw [← hx] at e0 hok
                  have hos : Sh.okSlot t k = (decide (x = -1) || decide (Sh.probe t x n (Sh.home x n).toNat = some k)) := by
                    unfold Sh.okSlot
                    rw [← hx, hnh.out]
                  replace hx := Lib.hid hx
                  by_cases c3 : x = -1
                  · have hA2 : Hid (OK = ((List.range n).drop (k + 1)).all (Sh.okSlot t)) := Lib.hid (by rw [hA.out, hst.out, hos, decide_eq_true c3, Bool.true_or, Bool.true_and])
                    have c3b : (x == -1) = true := beq_iff_eq.mpr c3
                    clear c3 hos hok
                    go_wp2
                    go_roundg (n - (k + 1))
                    case measure => have := hg.out; omega
                    case rel => exact ⟨k + 1, by go_num, by omega, Lib.hid (by omega), rfl, hA2⟩
                  have c3b : (x == -1) = false := beq_eq_false_iff_ne.mpr c3
                  obtain ⟨x0, x1⟩ := Sh.okEl_el hok c3
                  rw [decide_eq_false c3, Bool.false_or] at hos
                  have hhs := Sh.home_slot (t := t) x0 (by have := hnh.out; omega)
                  rw [← hnh.out] at hhs
                  have hhn : 0 ≤ Sh.home x n := by unfold Sh.home; exact Int.tmod_nonneg _ (by omega)
                  have hho := Lib.hid (fun W => home_at (w := W) x n x0 (by omega) (by omega) (by omega) (b := (Sh.slot t x 0 : Nat)) (by omega))
                  rw [hhs] at hos
                  obtain ⟨je, hje, hsl⟩ := Sh.slot_all (t := t) x x0 hee.out.1
                  have hslt : ∀ j, Sh.slot t x j < n := fun j => by rw [hnh.out]; exact Sh.slot_lt x j (by have := hnh.out; omega)
                  replace hje : je < n := by have := hnh.out; omega
                  have hgie := Lib.hid (show Sh.gi t (Sh.slot t x je) = -1 by rw [hsl]; exact hee.out.2)
                  replace hos := Lib.hid hos
                  clear hhs hhn hsl hok
                  replace c3 := Lib.hid c3
                  go_wp2_with fail
                  refine (hho.out _).mono ?_
                  rintro e w1 ⟨rfl, rfl⟩
                  go_wp2
                  go_loopg [15] n (fun g2 v15 wr2 => ∃ (j a : Nat), v15 = .int .i64 a ∧ a < n ∧ Hid (a = Sh.slot t x j) ∧ j ≤ je ∧ Hid (g2 + j = n) ∧ wr2 = w1 ∧ Hid (Sh.okSlot t k = decide (Sh.probe t x (n - j) a = some k)))
                  case atStart => exact ⟨0, _, rfl, hslt 0, Lib.hid rfl, Nat.zero_le _, Lib.hid rfl, rfl, hos⟩
                  case round =>
                    obtain ⟨j, a, rfl, ha, has, hj, hg2, rfl, hpr⟩ := hrel
                    obtain ⟨ad1, e9, f0⟩ := at_int hgr.out a (by omega) (by omega)
                    rw [Int.toNat_natCast] at f0
                    cases e9
                    obtain ⟨g', hg'⟩ : ∃ g', n - j = g' + 1 := ⟨n - j - 1, by omega⟩
                    have hps := Sh.probe_step t x g' a
                    have hpr2 := hpr.out
                    rw [hg', hps] at hpr2
                    obtain ⟨y, hy⟩ : ∃ y, y = Sh.gi t a := ⟨_, rfl⟩
                    rw [← hy] at f0 hpr2
                    have hyl : ¬ y = -1 → j ≠ je := fun h1 h2 => h1 (by rw [hy, has.out, h2]; exact hgie.out)
                    clear hps hpr
                    replace hy := Lib.hid hy
                    by_cases c4 : y = -1
                    · rw [if_neg (by rw [c4]; exact fun h => c3.out h.symm), if_pos c4] at hpr2
                      have hF : Hid (OK = false) := Lib.hid (by rw [hA.out, hst.out, hpr2]; rfl)
                      have c4b : (y == -1) = true := beq_iff_eq.mpr c4
                      clear hpr2 c4 hyl
                      obtain rfl : R = none := by rw [hR2.out, hF.out]; rfl
                      go_wp2
                      try dsimp only [Exit.noGoto]
                      go_ret2
                      exact ⟨⟨_, rfl, Kd.R_nil _ _ _ _ _⟩, hBr.out⟩
                    have c4b : (y == -1) = false := beq_eq_false_iff_ne.mpr c4
                    have hjl := hyl c4
                    by_cases c5 : y = x
                    · rw [if_pos c5] at hpr2
                      have c5b : (y == x) = true := beq_iff_eq.mpr c5
                      by_cases c6 : a = k
                      · have hA2 : Hid (OK = ((List.range n).drop (k + 1)).all (Sh.okSlot t)) := Lib.hid (by rw [hA.out, hst.out, hpr2, c6, decide_eq_true rfl, Bool.true_and])
                        have c6b : ((a : Int) != (k : Int)) = false := bne_eq_false_iff_eq.mpr (by omega)
                        clear hpr2 c4 hyl c5
                        subst c6
                        go_wp2
                        go_roundg (n - (a + 1))
                        case measure => have := hg.out; omega
                        case rel => exact ⟨a + 1, by go_num, by omega, Lib.hid (by omega), rfl, hA2⟩
                      · have hF : Hid (OK = false) := Lib.hid (by rw [hA.out, hst.out, hpr2, decide_eq_false (fun h => c6 (Option.some.inj h))]; rfl)
                        have c6b : ((a : Int) != (k : Int)) = true := bne_iff_ne.mpr (by omega)
                        clear hpr2 c4 hyl c5 c6
                        obtain rfl : R = none := by rw [hR2.out, hF.out]; rfl
                        go_wp2
                        try dsimp only [Exit.noGoto]
                        go_ret2
                        exact ⟨⟨_, rfl, Kd.R_nil _ _ _ _ _⟩, hBr.out⟩
                    · rw [if_neg c5, if_neg c4] at hpr2
                      have c5b : (y == x) = false := beq_eq_false_iff_ne.mpr c5
                      obtain ⟨b, hb⟩ : ∃ b, b = (a + 1) % t.length := ⟨_, rfl⟩
                      rw [← hb] at hpr2
                      have hbs := Lib.hid (show b = Sh.slot t x (j + 1) by rw [hb, has.out, Sh.slot_next])
                      have hmod : ((a : Int) + 1) % (n : Int) = (b : Int) := by rw [hb, ← hnh.out]; rfl
                      have hbn : b < n := by rw [hb, ← hnh.out]; exact Nat.mod_lt _ (by omega)
                      have hne : ¬ (n : Int) = 0 := by omega
                      have hpos : ((n : Int) == 0) = false := by rw [beq_eq_false_iff_ne]; omega
                      replace hpr2 := Lib.hid hpr2
                      clear c4 c5 hyl hb
                      go_wp2
                      go_roundg (n - (j + 1))
                      case measure => have := hg2.out; omega
                      case rel => exact ⟨j + 1, b, by rw [hmod], hbn, hbs, by omega, Lib.hid (by omega), rfl, Lib.hid (by rw [hpr2.out]; congr 3; omega)⟩
                · have hT : Hid (R = some (Sh.full t).mergeSort) := Lib.hid (by rw [hR2.out, hA.out, List.drop_of_length_le (by simp; omega)]; rfl)
                  have hsc := Lib.hid (sort_calls hXr.out (by rw [← hm.out]; omega))
                  obtain rfl := hT.out
                  go_wp2_with fail
                  refine (hsc.out).mono ?_
                  rintro e w1 ⟨rfl, ho, hb⟩
                  have ho1 := Lib.hid ho
                  have hb1 := Lib.hid (Below.trans hBr.out hb)
                  clear ho hb
                  go_wp2
                  try dsimp only [Exit.noGoto]
                  go_ret2
                  exact ⟨⟨_, rfl, ho1.out⟩, hb1.out⟩
end Go.Proofs.YtbfedeedicnedaaGreat
end
section
namespace Go.Proofs.YtbfedeedicnedaaGreat
open Go.RowKit
open Go.Proofs.YtbfedeedicnedaaGreatW.PrintWords
namespace Sh
def findA (l : List Int) (x : Int) : Nat → Nat → Nat → Nat → Bool × Nat
  | 0, _, _, s => (false, s)
  | g + 1, low, high, s =>
    if low < high then
      if gi l ((low + high) / 2) = x then (true, s + 1)
      else if gi l ((low + high) / 2) < x then findA l x g ((low + high) / 2 + 1) high (s + 1)
      else findA l x g low ((low + high) / 2) (s + 1)
    else (false, s)
theorem findA_step (l : List Int) (x : Int) (g low high s : Nat) : findA l x (g + 1) low high s =
    if low < high then
      if gi l ((low + high) / 2) = x then (true, s + 1)
      else if gi l ((low + high) / 2) < x then findA l x g ((low + high) / 2 + 1) high (s + 1)
      else findA l x g low ((low + high) / 2) (s + 1)
    else (false, s) := rfl
end Sh
theorem afind_calls (H : Sh.Hp) (root x : Int) (A : Option Addr) (c : Nat) (w : World) (hC : Nodes w A H) (ht : Sh.there H root = true) (hbig : (Sh.nd H root).1.length ≤ 1000000) :
    Calls Tryz.prog 161 #[.agg #[], .slice A H.length c, .int .i64 root, .int .i64 x] w fun e w' => e = .returned (.tuple #[.bool (Sh.findA (Sh.nd H root).1 x ((Sh.nd H root).1.length + 1) 0 (Sh.nd H root).1.length 0).1, .int .i64 ((Sh.findA (Sh.nd H root).1 x ((Sh.nd H root).1.length + 1) 0 (Sh.nd H root).1.length 0).2 : Nat)]) ∧ Below w.heap.size w w' := by
  have hB0 := Lib.hid (show Below w.heap.size w (w.alloc (.cells #[] 154)) from (Below.refl _ _).alloc (Nat.le_refl _) _)
  obtain ⟨hr0, hr1⟩ := Sh.there_iff.1 ht
  have hC1 := Kd.C_alloc hC (.cells #[] 154)
  obtain ⟨ad, A0, c0, A1, c1, rfl, d0, d1, l0, g0, l1, g1⟩ := Nodes.at hC1 root hr0 hr1
  obtain ⟨i, rfl⟩ := Int.eq_ofNat_of_zero_le hr0
  simp only [Int.toNat_natCast] at d0 d1
  generalize (Sh.nd H (i : Int)).1 = l at *
  have hg0 := Lib.hid g0
  obtain ⟨R, hR⟩ : ∃ R, R = Sh.findA l x (l.length + 1) 0 l.length 0 := ⟨_, rfl⟩
  rw [← hR]
  replace hR := Lib.hid hR
  obtain ⟨n, hn⟩ : ∃ n, n = l.length := ⟨_, rfl⟩
  rw [← hn] at d0 hg0 hbig
  have hnh := Lib.hid hn
  clear hC hC1 g0 g1 ht hn d1 l0
  go_enter Tryz.func161, Tryz.ntmps161
  go_wp2
  go_loopg [11, 12, 13] n (fun g v11 v12 v13 wr => ∃ (low high s G : Nat), v11 = .int .i64 low ∧ v12 = .int .i64 high ∧ v13 = .int .i64 s ∧ low ≤ high ∧ high ≤ n ∧ s + (high - low) ≤ 1000000 ∧ Hid (g + low = high) ∧ wr = w.alloc (.cells #[] 154) ∧ Hid (high - low < G) ∧ Hid (R = Sh.findA l x G low high s))
  case atStart => exact ⟨0, n, 0, n + 1, rfl, rfl, rfl, Nat.zero_le _, Nat.le_refl _, by omega, Lib.hid rfl, rfl, Lib.hid (by omega), Lib.hid (by rw [hR.out, hnh.out])⟩
  case round =>
    obtain ⟨low, high, s, G, rfl, rfl, rfl, hlh, hhn, hs, hg, rfl, hG, hRr⟩ := hrel
    obtain ⟨G, rfl⟩ : ∃ G', G = G' + 1 := ⟨G - 1, by have := hG.out; omega⟩
    have hst := Sh.findA_step l x G low high s
    rw [← hRr.out] at hst
    by_cases hlt : low < high
    · rw [if_pos hlt] at hst
      obtain ⟨m, hm⟩ : ∃ m, m = (low + high) / 2 := ⟨_, rfl⟩
      rw [← hm] at hst
      obtain ⟨ad0, rfl, e0⟩ := at_int hg0.out m (by omega) (by omega)
      rw [Int.toNat_natCast] at e0
      have hmn : m < n := by omega
      have hml : low ≤ m := by omega
      have hmh : m < high := by omega
      have hq : ((low : Int) + (high : Int)).tdiv 2 = (m : Int) := by rw [Int.tdiv_eq_ediv_of_nonneg (by omega)]; omega
      replace hm := Lib.hid hm
      obtain ⟨y, hy⟩ : ∃ y, y = Sh.gi l m := ⟨_, rfl⟩
      rw [← hy] at e0 hst
      replace hy := Lib.hid hy
      by_cases c1 : y = x
      · rw [if_pos c1] at hst
        replace hst := Lib.hid hst
        have c1b : (y == x) = true := beq_iff_eq.mpr c1
        clear c1
        go_wp2
        go_ret2
        obtain rfl := hst.out
        exact ⟨rfl, hB0.out⟩
      rw [if_neg c1] at hst
      have c1b : (y == x) = false := beq_eq_false_iff_ne.mpr c1
      by_cases c2 : y < x
      · rw [if_pos c2] at hst
        replace hst := Lib.hid hst
        clear c1
        go_wp2
        go_roundg (high - (m + 1))
        case measure => have := hg.out; omega
        case rel => exact ⟨m + 1, high, s + 1, G, by go_num, rfl, by go_num, by omega, hhn, by omega, Lib.hid (by omega), rfl, Lib.hid (by have := hG.out; omega), hst⟩
      · rw [if_neg c2] at hst
        replace hst := Lib.hid hst
        clear c1
        go_wp2
        go_roundg (m - low)
        case measure => have := hg.out; omega
        case rel => exact ⟨low, m, s + 1, G, rfl, rfl, by go_num, by omega, by omega, by omega, Lib.hid (by omega), rfl, Lib.hid (by have := hG.out; omega), hst⟩
    · rw [if_neg hlt] at hst
      replace hst := Lib.hid hst
      go_wp2
      go_ret2
      obtain rfl := hst.out
      exact ⟨rfl, hB0.out⟩
theorem hfind_calls (H : Sh.Hp) (root x : Int) (A : Option Addr) (c : Nat) (w : World) (hC : Nodes w A H) (ht : Sh.there H root = true) (hx : 0 ≤ x) (hx1 : x ≤ 1000000) (hpos : 0 < (Sh.nd H root).1.length) (hbig : (Sh.nd H root).1.length ≤ 100000) :
    Calls Tryz.prog 189 #[.agg #[], .slice A H.length c, .int .i64 root, .int .i64 x] w fun e w' => e = .returned (.tuple #[.bool (decide (Sh.gi (Sh.nd H root).1 (Sh.slot (Sh.nd H root).1 x (Sh.place (Sh.nd H root).1 x)) = x)), .int .i64 ((Sh.place (Sh.nd H root).1 x + 1 : Nat) : Int)]) ∧ Below w.heap.size w w' := by
  have hB0 := Lib.hid (show Below w.heap.size w (w.alloc (.cells #[] 157)) from (Below.refl _ _).alloc (Nat.le_refl _) _)
  obtain ⟨hr0, hr1⟩ := Sh.there_iff.1 ht
  have hC1 := Kd.C_alloc hC (.cells #[] 157)
  obtain ⟨ad, A0, c0, A1, c1, rfl, d0, d1, l0, g0, l1, g1⟩ := Nodes.at hC1 root hr0 hr1
  obtain ⟨i, rfl⟩ := Int.eq_ofNat_of_zero_le hr0
  simp only [Int.toNat_natCast] at d0 d1
  generalize (Sh.nd H (i : Int)).1 = l at *
  have hpl := Lib.hid (place_calls l x A0 c0 _ g0 hx hx1 hpos hbig)
  have hsl := Sh.slot_lt x (Sh.place l x) hpos
  generalize Sh.place l x = P at *
  generalize Sh.slot l x P = a at *
  obtain ⟨ad0, rfl, e0⟩ := at_int g0 a (by omega) (by omega)
  rw [Int.toNat_natCast] at e0
  generalize Sh.gi l a = y at *
  generalize l.length = n at *
  clear hC hC1 g0 g1 ht d1 l0
  go_enter Tryz.func189, Tryz.ntmps189
  go_wp2_with fail
  refine (hpl.out).mono ?_
  rintro e w1 ⟨rfl, rfl⟩
  go_wp2
  go_ret2
  exact ⟨rfl, hB0.out⟩
end Go.Proofs.YtbfedeedicnedaaGreat
end
section
namespace Go.Proofs.YtbfedeedicnedaaGreat
open Go.RowKit
open Go.Proofs.YtbfedeedicnedaaGreatW.PrintWords
def formV (f : Int) : Value := if f = 1 then .iface 154 (.agg #[]) else if f = 2 then .iface 155 (.agg #[]) else if f = 3 then .iface 119 (.agg #[]) else if f = 4 then .iface 156 (.agg #[]) else .iface 157 (.agg #[])
theorem five {f : Int} (h0 : 1 ≤ f) (h1 : f ≤ 5) : f = 1 ∨ f = 2 ∨ f = 3 ∨ f = 4 ∨ f = 5 := by omega
theorem known_calls (f : Int) (w : World) : Calls Tryz.prog 72 #[.int .i64 f] w fun e w' => e = .returned (.bool (decide (1 ≤ f) && decide (f ≤ 5))) ∧ w' = w := by
  by_cases h0 : 1 ≤ f
  · rw [decide_eq_true h0, Bool.true_and]
    go_enter Tryz.func72, Tryz.ntmps72
    go_wp2
    go_ret
    exact ⟨rfl, rfl⟩
  · rw [decide_eq_false h0, Bool.false_and]
    go_enter Tryz.func72, Tryz.ntmps72
    go_wp2
    go_ret
    exact ⟨rfl, rfl⟩
theorem forms_calls (w : World) : Calls Tryz.prog 100 #[] w fun e w' => e = .returned (.agg #[.iface 154 (.agg #[]), .iface 155 (.agg #[]), .iface 119 (.agg #[]), .iface 156 (.agg #[]), .iface 157 (.agg #[])]) ∧ Below w.heap.size w w' := by
  go_enter Tryz.func100, Tryz.ntmps100
  go_wp2
  refine bodyPost_ret (results_cell_row rfl _ _ w.heap.size 134 #[.iface 154 (.agg #[]), .iface 155 (.agg #[]), .iface 119 (.agg #[]), .iface 156 (.agg #[]), .iface 157 (.agg #[])] (0, 0) _ rfl (heap_alloc_new w _) Tryz.underlying134 rfl (by kernel_rfl)) rfl ?_
  exact ⟨rfl, (Below.refl _ _).alloc (Nat.le_refl _) _⟩
theorem tlist_calls (H : Sh.Hp) (root : Int) (A : Option Addr) (c : Nat) (w : World) (hC : Nodes w A H) :
    Calls Tryz.prog 155 #[.agg #[], .slice A H.length c, .int .i64 root] w fun e w' => Got w.heap.size w' e (Sh.listTree H root) ∧ Below w.heap.size w w' := by
  have hB0 := Lib.hid (show Below w.heap.size w (w.alloc (.cells #[] 119)) from (Below.refl _ _).alloc (Nat.le_refl _) _)
  have hcl := Lib.hid (twalk_calls 1026 H root (-1) 1024 A c (w.alloc (.cells #[] 119)) (Kd.C_alloc hC _) (by omega) (by omega) (by omega) (by omega))
  have hs := Lib.hid (show w.heap.size ≤ (w.alloc (.cells #[] 119)).heap.size by rw [World.size_alloc]; omega)
  unfold Sh.listTree
  generalize Sh.walkTree H 1026 root (-1) 1024 = r at *
  go_enter Tryz.func155, Tryz.ntmps155
  go_wp2_with fail
  refine (hcl.out).mono ?_
  rintro e w1 ⟨⟨v, rfl, ho⟩, hb⟩
  have ho1 := Lib.hid (Kd.R_lower ho hs.out)
  have hb1 := Lib.hid (Below.trans hB0.out (hb.mono hs.out))
  clear ho hb
  go_wp2
  go_ret2
  exact ⟨⟨_, rfl, ho1.out⟩, hb1.out⟩
theorem of_calls (f : Int) (w : World) (h0 : 1 ≤ f) (h1 : f ≤ 5) : Calls Tryz.prog 99 #[.int .i64 f] w fun e w' => e = .returned (formV f) ∧ Below w.heap.size w w' := by
  have hf := Lib.hid (forms_calls w)
  have i0 : ∀ W : World, (Instr.index 134 (.agg #[.iface 154 (.agg #[]), .iface 155 (.agg #[]), .iface 119 (.agg #[]), .iface 156 (.agg #[]), .iface 157 (.agg #[])]) (.int .i64 0)).run Tryz.prog W = .ok (.iface 154 (.agg #[])) W := fun W => by kernel_rfl
  have i1 : ∀ W : World, (Instr.index 134 (.agg #[.iface 154 (.agg #[]), .iface 155 (.agg #[]), .iface 119 (.agg #[]), .iface 156 (.agg #[]), .iface 157 (.agg #[])]) (.int .i64 1)).run Tryz.prog W = .ok (.iface 155 (.agg #[])) W := fun W => by kernel_rfl
  have i2 : ∀ W : World, (Instr.index 134 (.agg #[.iface 154 (.agg #[]), .iface 155 (.agg #[]), .iface 119 (.agg #[]), .iface 156 (.agg #[]), .iface 157 (.agg #[])]) (.int .i64 2)).run Tryz.prog W = .ok (.iface 119 (.agg #[])) W := fun W => by kernel_rfl
  have i3 : ∀ W : World, (Instr.index 134 (.agg #[.iface 154 (.agg #[]), .iface 155 (.agg #[]), .iface 119 (.agg #[]), .iface 156 (.agg #[]), .iface 157 (.agg #[])]) (.int .i64 3)).run Tryz.prog W = .ok (.iface 156 (.agg #[])) W := fun W => by kernel_rfl
  have i4 : ∀ W : World, (Instr.index 134 (.agg #[.iface 154 (.agg #[]), .iface 155 (.agg #[]), .iface 119 (.agg #[]), .iface 156 (.agg #[]), .iface 157 (.agg #[])]) (.int .i64 4)).run Tryz.prog W = .ok (.iface 157 (.agg #[])) W := fun W => by kernel_rfl
  rcases five h0 h1 with rfl | rfl | rfl | rfl | rfl
  all_goals
    go_enter Tryz.func99, Tryz.ntmps99
    go_wp2_with fail
    refine (hf.out).mono ?_
    rintro e w1 ⟨rfl, hb⟩
    replace hb := Lib.hid hb
    go_wp2
    go_ret
    exact ⟨rfl, hb.out⟩
def GotX (ex : Prop) (base : Nat) (w' : World) (e : Ending) (r : Option (List Int)) : Prop := ∃ v l, e = .returned (.tuple #[v, .bool r.isSome]) ∧ Ints w' base v l ∧ l.length = (r.getD []).length ∧ (ex → l = r.getD [])
theorem Got.x {base : Nat} {w' : World} {e : Ending} {r : Option (List Int)} (h : Got base w' e r) (ex : Prop) : GotX ex base w' e r := by
  obtain ⟨v, rfl, ho⟩ := h
  exact ⟨v, _, rfl, ho, rfl, fun _ => rfl⟩
def Digital (f : Int) : Prop := f = 2 ∨ f = 4
def ListsF (H : Sh.Hp) (f : Int) : Prop := ∀ (ty k : Nat), (ty = 154 ∧ k = 163 ∧ f = 1) ∨ (ty = 155 ∧ k = 168 ∧ f = 2) ∨ (ty = 119 ∧ k = 155 ∧ f = 3) ∨ (ty = 156 ∧ k = 181 ∧ f = 4) ∨ (ty = 157 ∧ k = 191 ∧ f = 5) → ∀ (root : Int) (A : Option Addr) (c : Nat) (w : World), Nodes w A H →
  Calls Tryz.prog k #[.agg #[], .slice A H.length c, .int .i64 root] w fun e w' => GotX (¬ Digital f) w.heap.size w' e (Sh.list f H root) ∧ Below w.heap.size w w'
theorem listsF_plain {H : Sh.Hp} {f : Int} (hbig : ∀ p ∈ H, p.1.length ≤ 1000000) (hf : ¬ Digital f) : ListsF H f := by
  intro ty k hk root A c w hC
  unfold Digital at hf
  rcases hk with ⟨rfl, rfl, rfl⟩ | ⟨rfl, rfl, rfl⟩ | ⟨rfl, rfl, rfl⟩ | ⟨rfl, rfl, rfl⟩ | ⟨rfl, rfl, rfl⟩
  · exact (alist_calls H root A c w hC hbig).mono fun e w' h => ⟨h.1.x _, h.2⟩
  · exact absurd (.inl rfl) hf
  · exact (tlist_calls H root A c w hC).mono fun e w' h => ⟨h.1.x _, h.2⟩
  · exact absurd (.inr rfl) hf
  · exact (hlist_calls H root A c w hC hbig).mono fun e w' h => ⟨h.1.x _, h.2⟩
def LGot (D : Prop) (base : Nat) (w' : World) (e : Ending) (R : List Int × Int) : Prop := ∃ v l, e = .returned (.tuple #[v, .int .i64 R.2]) ∧ Ints w' base v l ∧ l.length = R.1.length ∧ (D → l = R.1)
theorem listed_calls (H : Sh.Hp) (f root count : Int) (A : Option Addr) (c : Nat) (w : World) (hC : Nodes w A H) (hL : ListsF H f) :
    Calls Tryz.prog 60 #[.slice A H.length c, .agg #[.int .i64 f, .int .i64 root, .int .i64 count]] w fun e w' => LGot (¬ Digital f) w.heap.size w' e (Sh.listed H f root count) ∧ Below w.heap.size w w' := by
  have hB0 := Lib.hid (show Below w.heap.size w (w.alloc (.cells #[.int .i64 f, .int .i64 root, .int .i64 count] 25)) from (Below.refl _ _).alloc (Nat.le_refl _) _)
  obtain ⟨R, hR⟩ : ∃ R, R = Sh.listed H f root count := ⟨_, rfl⟩
  rw [← hR]
  unfold Sh.listed at hR
  by_cases h1 : 3000 < H.length
  · rw [if_pos h1] at hR
    subst hR
    go_enter Tryz.func60, Tryz.ntmps60
    go_wp2
    go_ret2
    exact ⟨⟨_, [], rfl, Kd.R_nil _ _ _ _ _, rfl, fun _ => rfl⟩, hB0.out⟩
  rw [if_neg h1] at hR
  have hkn := Lib.hid (fun W => known_calls f W)
  by_cases hf : 1 ≤ f ∧ f ≤ 5
  case neg =>
    have hkf : (decide (1 ≤ f) && decide (f ≤ 5)) = false := by rw [Bool.and_eq_false_iff, decide_eq_false_iff_not, decide_eq_false_iff_not]; omega
    rw [hkf] at hkn
    have hln : Sh.list f H root = none := by
      unfold Sh.list
      rw [if_neg (by omega), if_neg (by omega), if_neg (by omega), if_neg (by omega), if_neg (by omega)]
    rw [hln] at hR
    have hR' : R = ([], 2) := hR
    clear hR
    subst hR'
    clear hkf hln hL
    go_enter Tryz.func60, Tryz.ntmps60
    go_wp2_with fail
    refine (hkn.out _).mono ?_
    rintro e w1 ⟨rfl, rfl⟩
    go_wp2
    go_ret2
    exact ⟨⟨_, [], rfl, Kd.R_nil _ _ _ _ _, rfl, fun _ => rfl⟩, hB0.out⟩
  case pos =>
    obtain ⟨h2, h3⟩ := hf
    have hkf : (decide (1 ≤ f) && decide (f ≤ 5)) = true := by rw [decide_eq_true h2, decide_eq_true h3]; rfl
    rw [hkf] at hkn
    have hof := Lib.hid (fun W => of_calls f W h2 h3)
    obtain ⟨ty, k, hfv, hk, hm⟩ : ∃ (ty k : Nat), formV f = .iface ty (.agg #[]) ∧ ((ty = 154 ∧ k = 163 ∧ f = 1) ∨ (ty = 155 ∧ k = 168 ∧ f = 2) ∨ (ty = 119 ∧ k = 155 ∧ f = 3) ∨ (ty = 156 ∧ k = 181 ∧ f = 4) ∨ (ty = 157 ∧ k = 191 ∧ f = 5)) ∧ (∀ W : World, (method 312 ty (.agg #[]) "sward/shape.list").run Tryz.prog W = .ok (k, .agg #[]) W) := by
      rcases five h2 h3 with rfl | rfl | rfl | rfl | rfl
      · exact ⟨154, 163, rfl, by omega, fun _ => by kernel_rfl⟩
      · exact ⟨155, 168, rfl, by omega, fun _ => by kernel_rfl⟩
      · exact ⟨119, 155, rfl, by omega, fun _ => by kernel_rfl⟩
      · exact ⟨156, 181, rfl, by omega, fun _ => by kernel_rfl⟩
      · exact ⟨157, 191, rfl, by omega, fun _ => by kernel_rfl⟩
    have hls := Lib.hid (hL ty k hk root)
    rw [hfv] at hof
    obtain ⟨r, hr⟩ : ∃ r, r = Sh.list f H root := ⟨_, rfl⟩
    rw [← hr] at hls hR
    obtain ⟨w2, hw2⟩ : ∃ w2, w2 = w.alloc (.cells #[.int .i64 f, .int .i64 root, .int .i64 count] 25) := ⟨_, rfl⟩
    have hsz := Lib.hid (show w.heap.size + 1 ≤ w2.heap.size by rw [hw2, World.size_alloc]; omega)
    have hc0 : ∀ W, Below (w.heap.size + 1) w2 W → W.cell? ⟨w.heap.size, 0, none⟩ = some (.int .i64 f) ∧ W.cell? ⟨w.heap.size, 1, none⟩ = some (.int .i64 root) ∧ W.cell? ⟨w.heap.size, 2, none⟩ = some (.int .i64 count) := fun W hW => by
      refine ⟨?_, ?_, ?_⟩
      all_goals
        rw [hW.cell (p := ⟨w.heap.size, _, none⟩) (by show w.heap.size < _; omega), hw2]
        simp
    have hc3 := Lib.hid (fun W hW => (hc0 W hW).2.2)
    have hcc := Lib.hid (fun W hW => (⟨hW, (hc0 W hW).1, (hc0 W hW).2.1⟩ : _ ∧ _ ∧ _))
    have hC2 : Nodes w2 A H := by rw [hw2]; exact Kd.C_alloc hC _
    have hNod := Lib.hid (fun W (hW : Below (w.heap.size + 1) w2 W) => (Kd.C_below hC2 (hW.mono (by rw [hw2, World.size_alloc]; omega)) : Nodes W A H))
    have hBd := Lib.hid (show Below (w.heap.size + 1) w2 w2.drew from (Below.refl _ _).drew)
    have hB2 := Lib.hid (show Below w.heap.size w w2 by rw [hw2]; exact hB0.out)
    have hexd := Lib.hid (fun (h : ¬ Digital f) => h)
    obtain ⟨D, hD⟩ : ∃ D, D = ¬ Digital f := ⟨_, rfl⟩
    rw [← hD] at hls ⊢
    replace hR := Lib.hid hR
    clear hC2 hc0 hC hL hfv hkf hr hD hexd hB0
    rcases hk with ⟨rfl, rfl, -⟩ | ⟨rfl, rfl, -⟩ | ⟨rfl, rfl, -⟩ | ⟨rfl, rfl, -⟩ | ⟨rfl, rfl, -⟩
    all_goals
      go_enter Tryz.func60, Tryz.ntmps60
      go_wp2_with fail
      refine (hkn.out _).mono ?_
      rintro e w1 ⟨rfl, rfl⟩
      go_wp2
      rw [← hw2]
      clear hw2
      go_region_held3 (fun W' => Below (w.heap.size + 1) w2 W' ∧ W'.cell? ⟨w.heap.size, 0, none⟩ = some (.int .i64 f) ∧ W'.cell? ⟨w.heap.size, 1, none⟩ = some (.int .i64 root))
        (first
          | exact hcc.out _ (by assumption)
          | exact hcc.out _ hBd.out
          | fail)
        (first
          | (go_at_call 99; refine (hof.out _).mono ?_; rintro e w3 ⟨rfl, hb1⟩; have hB3 : Below (w.heap.size + 1) w2 w3 := Below.trans hBd.out (hb1.mono hsz.out); replace hb1 := Lib.hid hb1)
          | (refine (hls.out _ _ _ ?hl).mono ?_; (case hl => exact hNod.out _ (by assumption)); rintro e w4 ⟨⟨v1, l1, rfl, ho1, ho2, ho3⟩, hb2⟩; have hB4 : Below (w.heap.size + 1) w2 w4 := Below.trans (by assumption) (hb2.mono (Nat.le_trans hsz.out (Below.size (by assumption)))); replace ho1 := Lib.hid ho1; replace ho2 := Lib.hid ho2; replace ho3 := Lib.hid ho3; replace hb2 := Lib.hid hb2))
      replace hB4 := Lib.hid (show Below (w.heap.size + 1) w2 w4 from by assumption)
      have hct := hc3.out _ hB4.out
      have hBf := Lib.hid (Below.trans hB2.out (hB4.out.mono (by omega)))
      have hof3 := Lib.hid (Kd.R_lower ho1.out (show w.heap.size ≤ w3.heap.size from Nat.le_trans (by have := hsz.out; omega) (Below.size (show Below (w.heap.size + 1) w2 w3 from by assumption))))
      rcases r with _ | l
      · obtain rfl : R = ([], 2) := hR.out
        go_wp2
        go_ret2
        exact ⟨⟨_, [], rfl, Kd.R_nil _ _ _ _ _, rfl, fun _ => rfl⟩, hBf.out⟩
      · have hlen : l1.length = l.length := ho2.out
        obtain ⟨A5, c5, rfl⟩ := Kd.R_slice hof3.out
        have hRl : R = if (l.length : Int) = count then (l, 0) else ([], 2) := hR.out
        rw [← hlen] at hRl
        obtain ⟨n, hn⟩ : ∃ n, n = l1.length := ⟨_, rfl⟩
        rw [← hn] at hRl hof3 ⊢
        replace hn := Lib.hid hn
        replace hlen := Lib.hid hlen
        by_cases hcn : (n : Int) = count
        · rw [if_pos hcn] at hRl
          subst hRl
          have hcb : ((n : Int) != count) = false := bne_eq_false_iff_eq.mpr hcn
          clear hcn
          go_wp2
          go_ret2
          exact ⟨⟨_, l1, rfl, hof3.out, hlen.out, fun h => ho3.out h⟩, hBf.out⟩
        · rw [if_neg hcn] at hRl
          subst hRl
          have hcb : ((n : Int) != count) = true := bne_iff_ne.mpr hcn
          clear hcn
          go_wp2
          go_ret2
          exact ⟨⟨_, [], rfl, Kd.R_nil _ _ _ _ _, rfl, fun _ => rfl⟩, hBf.out⟩
end Go.Proofs.YtbfedeedicnedaaGreat
end
