/-
  Texts of this claim: ShBC, ShBD, ShBE.
-/
import Derived.Test.YtbfedeedicnedaaGreatSj25
set_option linter.unusedVariables false
set_option linter.unusedSimpArgs false
set_option maxHeartbeats 8000000
set_option maxRecDepth 100000
section
namespace Go.Proofs.YtbfedeedicnedaaGreat.PAll
open Go.RowKit
open Go.Proofs.YtbfedeedicnedaaGreatW.PrintWords
theorem Ev.succ {α : Type} {g : Nat → Option α} {r : α} (h : Ev (fun k => g (k + 1)) r) : Ev g r := Ev.step (fun _ => rfl) h
theorem wrap_succ (n : Nat) (h : n < 9223372036854775807) : wrap64 ((n : Int) + 1) = ((n + 1 : Nat) : Int) := by unfold wrap64; omega
theorem wrap_in (x : Int) (h0 : -9223372036854775808 ≤ x) (h1 : x ≤ 9223372036854775807) : wrap64 x = x := by unfold wrap64; omega
theorem rd_gi (l : List Int) (i : Nat) : rd l (i : Int) = Sh.gi l i := rfl
theorem in_f (a lo hi : Int) : swardref12_in.f a lo hi = some (decide (lo ≤ a) && decide (a ≤ hi)) := by
  unfold swardref12_in.f
  by_cases h : a ≥ lo
  · rw [if_pos h, decide_eq_true (show lo ≤ a from h), Bool.true_and]
  · rw [if_neg h, decide_eq_false (show ¬ lo ≤ a from h), Bool.false_and]
theorem in_el (a : Int) : swardref12_in.f a 0 1023 = some (Sh.el a) := in_f a 0 1023
theorem ev_rising_l (l : List Int) (hl : l.length ≤ 1000000) : ∀ (n i : Nat), i ≤ l.length → l.length - i = n → Ev (fun k => swardref12_rising.l0 k l i) (Sh.risingFrom (Sh.prev l i) (l.drop i)) := by
  intro n
  induction n with
  | zero =>
    intro i hi hn
    have h1 : ¬ ((i : Int) < (l.length : Int)) := by omega
    rw [List.drop_of_length_le (by omega)]
    refine Ev.succ ?_
    simp only [swardref12_rising.l0, h1, if_false]
    exact Ev.now _
  | succ n ih =>
    intro i hi hn
    have h1 : (i : Int) < (l.length : Int) := by omega
    have h2 : (0 : Int) ≤ (i : Int) := by omega
    have hw := wrap_succ i (by omega)
    have ih1 := ih (i + 1) (by omega) (by omega)
    rw [Sh.rising_at l i (by omega)]
    refine Ev.succ ?_
    simp only [swardref12_rising.l0, h1, h2, if_true, rd_gi, in_el, Option.bind_some, hw]
    cases he : Sh.el (Sh.gi l i)
    · simp only [Bool.false_eq_true, if_false, Bool.false_and]
      exact Ev.now _
    · simp only [if_true, Bool.true_and]
      by_cases h0 : i = 0
      · subst h0
        have h3 : ¬ (((0 : Nat) : Int) > 0) := by omega
        simp only [h3, if_false]
        rw [decide_eq_true (show Sh.prev l 0 < Sh.gi l 0 from Sh.el_lt he), Bool.true_and]
        exact ih1
      · have h3 : ((i : Int) > 0) := by omega
        have hw2 : wrap64 ((i : Int) - 1) = ((i - 1 : Nat) : Int) := by rw [wrap_in _ (by omega) (by omega)]; omega
        have h4 : (0 : Int) ≤ ((i - 1 : Nat) : Int) := by omega
        have h5 : ((i - 1 : Nat) : Int) < (l.length : Int) := by omega
        simp only [h3, if_true, hw2, h4, h5, rd_gi]
        have hp : Sh.prev l i = Sh.gi l (i - 1) := by unfold Sh.prev; rw [if_neg h0]
        by_cases hle : Sh.gi l i ≤ Sh.gi l (i - 1)
        · simp only [hle, if_true]
          rw [hp, decide_eq_false (by omega), Bool.false_and]
          exact Ev.now _
        · simp only [hle, if_false]
          rw [hp, decide_eq_true (by omega), Bool.true_and]
          rw [show Sh.prev l (i + 1) = Sh.gi l i from rfl] at ih1 ⊢
          exact ih1
theorem ev_rising (l : List Int) (hl : l.length ≤ 1000000) : Ev (fun k => swardref12_rising.f k l) (Sh.rising l) := ev_rising_l l hl _ 0 (Nat.zero_le _) rfl
theorem ev_power_l (a : Nat) (ha : a ≤ 40) : ∀ (n i : Nat), i ≤ a → a - i = n → Ev (fun k => swardref12_power.l0 k a ((2 ^ i : Nat) : Int) i) ((2 ^ a : Nat) : Int) := by
  intro n
  induction n with
  | zero =>
    intro i hi hn
    obtain rfl : i = a := by omega
    have h1 : ¬ ((i : Int) < (i : Int)) := by omega
    refine Ev.succ ?_
    simp only [swardref12_power.l0, h1, if_false]
    exact Ev.now _
  | succ n ih =>
    intro i hi hn
    have h1 : (i : Int) < (a : Int) := by omega
    have hw := wrap_succ i (by omega)
    have hp : 2 ^ i ≤ 2 ^ 40 := Nat.pow_le_pow_right (by omega) (by omega)
    have hw2 : wrap64 (2 * ((2 ^ i : Nat) : Int)) = ((2 ^ (i + 1) : Nat) : Int) := by
      rw [Nat.pow_succ]
      generalize 2 ^ i = P at hp
      rw [wrap_in _ (by omega) (by omega)]
      omega
    have ih1 := ih (i + 1) (by omega) (by omega)
    refine Ev.succ ?_
    simp only [swardref12_power.l0, h1, if_true, hw, hw2]
    exact ih1
theorem ev_power (a : Nat) (ha : a ≤ 40) : Ev (fun k => swardref12_power.f k a) ((2 ^ a : Nat) : Int) := ev_power_l a ha _ 0 (Nat.zero_le _) rfl
theorem ones_succ (w i : Nat) : Sh.ones w (i + 1) = if w.testBit i = true then Sh.ones w i ++ [(i : Int)] else Sh.ones w i := by
  unfold Sh.ones
  rw [List.range_succ, List.filter_append, List.map_append]
  by_cases h : w.testBit i = true
  · rw [if_pos h, List.filter_cons_of_pos h]
    rfl
  · rw [if_neg h, List.filter_cons_of_neg h]
    simp
theorem ones_len (w b : Nat) : (Sh.ones w b).length ≤ b := by
  unfold Sh.ones
  rw [List.length_map]
  have := List.length_filter_le (fun i => w.testBit i) (List.range b)
  rw [List.length_range] at this
  exact this
theorem bit_mod (w i : Nat) (hw : w < 2 ^ 62) : (Int.tmod (wrap64 (Int.tdiv (w : Int) ((2 ^ i : Nat) : Int))) 2 = 1) ↔ w.testBit i = true := by
  have h0 : Int.tdiv (w : Int) ((2 ^ i : Nat) : Int) = ((w / 2 ^ i : Nat) : Int) := by
    rw [Int.tdiv_eq_ediv_of_nonneg (by omega)]
    rfl
  have hle : w / 2 ^ i ≤ w := Nat.div_le_self _ _
  rw [h0, Nat.testBit_eq_decide_div_mod_eq, decide_eq_true_eq]
  generalize w / 2 ^ i = q at hle
  rw [wrap_in _ (by omega) (by omega), Int.tmod_eq_emod_of_nonneg (by omega)]
  omega
theorem ev_digits_l (w b : Nat) (hw : w < 2 ^ 62) (hb : b ≤ 40) : ∀ (n i : Nat), i ≤ b → b - i = n → Ev (fun k => swardref12_digits.l0 k w b (Sh.ones w i) i) (Sh.ones w b) := by
  intro n
  induction n with
  | zero =>
    intro i hi hn
    obtain rfl : i = b := by omega
    have h1 : ¬ ((i : Int) < (i : Int)) := by omega
    refine Ev.succ ?_
    simp only [swardref12_digits.l0, h1, if_false]
    exact Ev.now _
  | succ n ih =>
    intro i hi hn
    have h1 : (i : Int) < (b : Int) := by omega
    have hwi := wrap_succ i (by omega)
    have ih1 := ih (i + 1) (by omega) (by omega)
    have hp := Nat.two_pow_pos i
    have h2 : ¬ (((2 ^ i : Nat) : Int) = 0) := by omega
    have h3 := ones_len w i
    have h4 : (Sh.ones w i).length < 17592186044416 := by omega
    refine Ev.succ ?_
    simp only [swardref12_digits.l0, h1, if_true]
    refine Ev.bind (f := fun k (t : Int) => if t = 0 then none else if Int.tmod (wrap64 (Int.tdiv (w : Int) t)) 2 = 1 then (if (Sh.ones w i).length < 17592186044416 then swardref12_digits.l0 k w b (Sh.ones w i ++ [(i : Int)]) (wrap64 ((i : Int) + 1)) else none) else swardref12_digits.l0 k w b (Sh.ones w i) (wrap64 ((i : Int) + 1))) (ev_power i (by omega)) ?_
    simp only [h2, if_false, bit_mod w i hw, h4, if_true, hwi]
    rw [ones_succ] at ih1
    by_cases hbit : w.testBit i = true
    · simp only [hbit, if_true] at ih1 ⊢
      exact ih1
    · simp only [hbit, if_false] at ih1 ⊢
      exact ih1
theorem ev_digits (w b : Nat) (hw : w < 2 ^ 62) (hb : b ≤ 40) : Ev (fun k => swardref12_digits.f k w b) (Sh.ones w b) := by
  have := ev_digits_l w b hw hb b 0 (Nat.zero_le _) rfl
  exact this
def two (r : Option (List Int)) : List Int × Bool := (r.getD [], r.isSome)
theorem ev_page (H : Sh.Hp) (n : Int) (b : Nat) (hl : H.length ≤ 1000000) (hb : b = 4 ∨ b = 32) : Ev (fun k => swardref12_page.f k (sn H) n b) (two (Sh.page H n b)) := by
  unfold swardref12_page.f Sh.page
  rw [node_f H n (by omega)]
  cases ht : Sh.there H n
  · simp only [Option.bind_some, Bool.false_and, Bool.false_eq_true, if_false]
    exact Ev.now _
  · simp only [Option.bind_some, if_true, Bool.true_and]
    generalize (Sh.nd H n).1 = l
    generalize (Sh.nd H n).2 = ks
    by_cases hk : ks.length = 0
    case neg =>
      have h1 : (ks.length : Int) > 0 := by omega
      have h2 : (ks.length == 0) = false := beq_eq_false_iff_ne.mpr hk
      simp only [h1, if_true, h2, Bool.false_and, Bool.false_eq_true, if_false]
      exact Ev.now _
    case pos =>
      have h1 : ¬ ((ks.length : Int) > 0) := by omega
      have h2 : (ks.length == 0) = true := beq_iff_eq.mpr hk
      simp only [h1, if_false, h2, Bool.true_and]
      by_cases hn : l.length = 1
      case neg =>
        have h3 : ¬ ((l.length : Int) = 1) := by omega
        have h4 : (l.length == 1) = false := beq_eq_false_iff_ne.mpr hn
        simp only [h3, if_false, h4, Bool.false_and, Bool.false_eq_true]
        exact Ev.now _
      case pos =>
        have h3 : (l.length : Int) = 1 := by omega
        have h4 : (l.length == 1) = true := beq_iff_eq.mpr hn
        have h5 : (0 : Int) < (l.length : Int) := by omega
        simp only [h4, Bool.true_and]
        simp only [h3, if_true, (by decide : (0 : Int) < 1)]
        have hrd : rd l 0 = Sh.gi l 0 := rfl
        simp only [hrd]
        generalize Sh.gi l 0 = x
        have hpw := ev_power b (by omega)
        refine Ev.bind (f := fun k (t : Int) => (swardref12_in.f x 1 (wrap64 (t - 1))).bind fun t293 => if t293 = true then ((swardref12_digits.f k x b).bind fun t295 => some (t295, true)) else some ([], false)) hpw ?_
        have hp : 2 ^ b ≤ 2 ^ 32 := Nat.pow_le_pow_right (by omega) (by omega)
        have hp0 := Nat.two_pow_pos b
        rw [wrap_in _ (by omega) (by omega), in_f]
        simp only [Option.bind_some]
        by_cases hx : 1 ≤ x ∧ x < ((2 ^ b : Nat) : Int)
        · obtain ⟨hx1, hx2⟩ := hx
          rw [decide_eq_true hx1, decide_eq_true (show x ≤ ((2 ^ b : Nat) : Int) - 1 by omega), decide_eq_true hx2]
          simp only [Bool.and_self, if_true]
          obtain ⟨v, rfl⟩ := Int.eq_ofNat_of_zero_le (show 0 ≤ x by omega)
          exact Ev.bind (f := fun k (t : List Int) => some (t, true)) (ev_digits v b (by omega) (by omega)) (Ev.now _)
        · have e : (decide (1 ≤ x) && decide (x ≤ ((2 ^ b : Nat) : Int) - 1)) = false := by
            rw [Bool.and_eq_false_iff, decide_eq_false_iff_not, decide_eq_false_iff_not]
            omega
          have e2 : (decide (1 ≤ x) && decide (x < ((2 ^ b : Nat) : Int))) = false := by
            rw [Bool.and_eq_false_iff, decide_eq_false_iff_not, decide_eq_false_iff_not]
            omega
          rw [e, e2]
          simp only [Bool.false_eq_true, if_false]
          exact Ev.now _
theorem ev_array (H : Sh.Hp) (n : Int) (hl : H.length ≤ 1000000) (hroot : Sh.there H n = true → (Sh.nd H n).1.length ≤ 1000000) : ∃ l, Ev (fun k => swardref12_array.f k (sn H) n) (l, (Sh.listArray H n).isSome) ∧ ∀ m, Sh.listArray H n = some m → l = m := by
  unfold swardref12_array.f Sh.listArray
  rw [node_f H n (by omega)]
  cases ht : Sh.there H n
  · simp only [Option.bind_some, Bool.false_and, Bool.false_eq_true, if_false]
    exact ⟨[], Ev.now _, fun m h => by cases h⟩
  · have hsm := hroot ht
    clear hroot
    simp only [Option.bind_some, if_true, Bool.true_and]
    revert hsm
    generalize (Sh.nd H n).1 = l
    generalize (Sh.nd H n).2 = ks
    intro hsm
    refine ⟨l, ?_, fun m h => ?_⟩
    · by_cases hk : ks.length = 0
      case neg =>
        have h1 : ¬ ((ks.length : Int) = 0) := by omega
        have h2 : (ks.length == 0) = false := beq_eq_false_iff_ne.mpr hk
        simp only [h1, if_false, h2, Bool.false_and, Bool.false_eq_true]
        exact Ev.now _
      case pos =>
        have h1 : (ks.length : Int) = 0 := by omega
        have h2 : (ks.length == 0) = true := beq_iff_eq.mpr hk
        simp only [h2, h1, if_true, Bool.true_and]
        refine Ev.bind (f := fun k (t : Bool) => some (l, t)) (ev_rising l hsm) ?_
        cases Sh.rising l <;> exact Ev.now _
    · split at h
      · exact Option.some.inj h
      · cases h
end Go.Proofs.YtbfedeedicnedaaGreat.PAll
end
section
namespace Go.Proofs.YtbfedeedicnedaaGreat.PAll
open Go.RowKit
open Go.Proofs.YtbfedeedicnedaaGreatW.PrintWords
theorem drop_gi (l : List Int) (i : Nat) (h : i < l.length) : l.drop i = Sh.gi l i :: l.drop (i + 1) := Sh.drop_at' l i h
theorem page_small {H : Sh.Hp} {n : Int} {b : Nat} {l : List Int} (h : Sh.page H n b = some l) : l.length ≤ b ∧ ∀ y ∈ l, 0 ≤ y ∧ y < b := by
  unfold Sh.page at h
  split at h
  · cases h
    refine ⟨ones_len _ _, fun y hy => ?_⟩
    obtain ⟨i, rfl, h1, _⟩ := ((Sh.ones_rise _ b).2 y).1 hy
    omega
  · cases h
theorem ev_bits1 (H : Sh.Hp) (i : Nat) (hi : i ≤ 32) (L nums ks : List Int) (hL : L.length ≤ 32 ∧ ∀ y ∈ L, 0 ≤ y ∧ y < (32 : Nat)) (V : List Int × Bool) : ∀ (n j : Nat) (out : List Int), j ≤ L.length → L.length - j = n → out.length ≤ 50000 + j →
    Ev (fun k => swardref12_bitset.l0 k (sn H) (out ++ (L.drop j).map fun b => 32 * (i : Int) + b) (wrap64 ((i : Int) + 1)) nums ks) V → Ev (fun k => swardref12_bitset.l1 k (sn H) out i L j nums ks) V := by
  intro n
  induction n with
  | zero =>
    intro j out hj hn ho h
    have h1 : ¬ ((j : Int) < (L.length : Int)) := by omega
    rw [List.drop_of_length_le (by omega)] at h
    refine Ev.succ ?_
    simp only [swardref12_bitset.l1, h1, if_false]
    simp only [List.map_nil, List.append_nil] at h
    exact h
  | succ n ih =>
    intro j out hj hn ho h
    have h1 : (j : Int) < (L.length : Int) := by omega
    have h2 : (0 : Int) ≤ (j : Int) := by omega
    have h3 : out.length < 17592186044416 := by have := hL.1; omega
    have hw := wrap_succ j (by have := hL.1; omega)
    have hmem : Sh.gi L j ∈ L := Sh.mem_gi.2 ⟨j, by omega, rfl⟩
    have hb := hL.2 _ hmem
    have hw2 : wrap64 (wrap64 (32 * (i : Int)) + rd L (j : Int)) = 32 * (i : Int) + Sh.gi L j := by
      rw [rd_gi, wrap_in (32 * (i : Int)) (by omega) (by omega), wrap_in _ (by omega) (by omega)]
    refine Ev.succ ?_
    simp only [swardref12_bitset.l1, h1, h2, h3, if_true, hw2, hw]
    refine ih (j + 1) _ (by omega) (by omega) (by rw [List.length_append, List.length_singleton]; omega) ?_
    rw [drop_gi L j (by omega), List.map_cons] at h
    rw [List.append_assoc]
    exact h
def pagesFrom (out : List Int) (r : Option (List Int)) : List Int × Bool := match r with
  | none => ([], false)
  | some l => (out ++ l, true)
theorem ev_bits0 (H : Sh.Hp) (hl : H.length ≤ 1000000) (nums ks : List Int) (hk : ks.length = 32) : ∀ (n i : Nat) (out : List Int), i ≤ 32 → 32 - i = n → out.length ≤ 32 * i →
    Ev (fun k => swardref12_bitset.l0 k (sn H) out i nums ks) (pagesFrom out (Sh.listPagesF H i (ks.drop i))) := by
  intro n
  induction n with
  | zero =>
    intro i out hi hn ho
    obtain rfl : i = 32 := by omega
    rw [List.drop_of_length_le (by omega)]
    have h1 : ¬ (((32 : Nat) : Int) < 32) := by omega
    refine Ev.succ ?_
    simp only [swardref12_bitset.l0, h1, if_false]
    show Ev _ (out ++ [], true)
    rw [List.append_nil]
    exact Ev.now _
  | succ n ih =>
    intro i out hi hn ho
    have h1 : (i : Int) < 32 := by omega
    have h2 : (0 : Int) ≤ (i : Int) := by omega
    have h3 : (i : Int) < (ks.length : Int) := by omega
    have hw := wrap_succ i (by omega)
    rw [drop_gi ks i (by omega)]
    unfold Sh.listPagesF
    refine Ev.succ ?_
    simp only [swardref12_bitset.l0, h1, h2, h3, if_true, rd_gi]
    by_cases hk1 : Sh.gi ks i = -1
    · simp only [hk1, if_true, hw]
      exact ih (i + 1) out (by omega) (by omega) (by omega)
    · simp only [hk1, if_false]
      refine Ev.bind (f := fun k (bt : List Int × Bool) => if bt.2 = true then swardref12_bitset.l1 k (sn H) out i bt.1 0 nums ks else some ([], false)) (ev_page H (Sh.gi ks i) 32 hl (.inr rfl)) ?_
      rcases hp : Sh.page H (Sh.gi ks i) 32 with _ | L
      · simp only [two, Option.isSome_none, Bool.false_eq_true, if_false, Option.bind_none]
        exact Ev.now _
      · have hL := page_small hp
        simp only [two, Option.isSome_some, if_true, Option.getD_some, Option.bind_some]
        refine ev_bits1 H i (by omega) L nums ks hL _ _ 0 out (Nat.zero_le _) rfl (by omega) ?_
        rw [List.drop_zero, hw]
        have h9 := ih (i + 1) (out ++ L.map fun b => 32 * (i : Int) + b) (by omega) (by omega) (by rw [List.length_append, List.length_map]; omega)
        rcases hr : Sh.listPagesF H (i + 1) (ks.drop (i + 1)) with _ | r
        · rw [hr] at h9
          exact h9
        · rw [hr] at h9
          show Ev _ (out ++ ((L.map fun b => 32 * (i : Int) + b) ++ r), true)
          rw [← List.append_assoc]
          exact h9
theorem ev_bitset (H : Sh.Hp) (n : Int) (hl : H.length ≤ 1000000) : Ev (fun k => swardref12_bitset.f k (sn H) n) (two (Sh.listPages H n)) := by
  unfold swardref12_bitset.f Sh.listPages
  rw [node_f H n (by omega)]
  have hj : ∀ nums ks : List Int, Ev (fun k => swardref12_bitset.j0 k (sn H) true nums ks) (two none) := fun nums ks => by
    refine Ev.succ ?_
    simp only [swardref12_bitset.j0, if_true]
    exact Ev.now _
  cases ht : Sh.there H n
  · simp only [Option.bind_some, Bool.false_and, Bool.false_eq_true, if_false]
    exact hj _ _
  · simp only [Option.bind_some, if_true, Bool.true_and]
    generalize (Sh.nd H n).1 = l
    generalize (Sh.nd H n).2 = ks
    by_cases hk : l.length = 0
    case neg =>
      have h1 : (l.length : Int) > 0 := by omega
      have h2 : (l.length == 0) = false := beq_eq_false_iff_ne.mpr hk
      simp only [h1, if_true, h2, Bool.false_and, Bool.false_eq_true, if_false]
      exact hj _ _
    case pos =>
      have h1 : ¬ ((l.length : Int) > 0) := by omega
      have h2 : (l.length == 0) = true := beq_iff_eq.mpr hk
      simp only [h1, if_false, h2, Bool.true_and]
      by_cases hn : ks.length = 32
      case neg =>
        have h3 : ((ks.length : Int) != 32) = true := bne_iff_ne.mpr (by omega)
        have h4 : (ks.length == 32) = false := beq_eq_false_iff_ne.mpr hn
        simp only [h3, h4, Bool.false_eq_true, if_false]
        exact hj _ _
      case pos =>
        have h3 : ((ks.length : Int) != 32) = false := bne_eq_false_iff_eq.mpr (by omega)
        have h4 : (ks.length == 32) = true := beq_iff_eq.mpr hn
        simp only [h3, h4, if_true]
        refine Ev.succ ?_
        simp only [swardref12_bitset.j0, Bool.false_eq_true, if_false]
        have h9 := ev_bits0 H hl l ks hn _ 0 [] (by omega) rfl (by simp)
        rw [List.drop_zero] at h9
        rcases hr : Sh.listPagesF H 0 ks with _ | r
        · rw [hr] at h9; exact h9
        · rw [hr] at h9
          exact h9
def kidStep (H : Sh.Hp) (g : Nat) (ks : List Int) (b : Int) (acc : Option (List Int)) (d : Nat) : Option (List Int) := acc.bind fun out => if Sh.gi ks d = -1 then some out else (Sh.walkTrie H g (Sh.gi ks d) (4 * b + d)).map fun l => out ++ l
theorem kidStep_none (H : Sh.Hp) (g : Nat) (ks : List Int) (b : Int) (ds : List Nat) : ds.foldl (kidStep H g ks b) none = none := by
  induction ds with
  | nil => rfl
  | cons d ds ih => exact ih
theorem kids_len {H : Sh.Hp} {g m : Nat} (hm : ∀ {r b l}, Sh.walkTrie H g r b = some l → l.length ≤ m) (ks : List Int) (b : Int) : ∀ (ds : List Nat) (out o : List Int), ds.foldl (kidStep H g ks b) (some out) = some o → o.length ≤ out.length + ds.length * m := by
  intro ds
  induction ds with
  | nil =>
    intro out o h
    cases h
    simp
  | cons d ds ih =>
    intro out o h
    rw [List.foldl_cons] at h
    rw [List.length_cons, Nat.succ_mul]
    have e : kidStep H g ks b (some out) d = if Sh.gi ks d = -1 then some out else (Sh.walkTrie H g (Sh.gi ks d) (4 * b + d)).map fun l => out ++ l := rfl
    rw [e] at h
    split at h
    · have := ih _ _ h
      omega
    · rcases hw : Sh.walkTrie H g (Sh.gi ks d) (4 * b + d) with _ | l
      · rw [hw] at h
        simp only [Option.map_none, kidStep_none] at h
        cases h
      · rw [hw] at h
        have h1 := ih _ _ h
        have h2 := hm hw
        rw [List.length_append] at h1
        omega
theorem walkTrie_len {H : Sh.Hp} : ∀ (g : Nat) {r b : Int} {l : List Int}, Sh.walkTrie H g r b = some l → l.length ≤ 4 ^ (g + 1) := by
  intro g
  induction g with
  | zero =>
    intro r b l h
    unfold Sh.walkTrie at h
    obtain ⟨p, hp, rfl⟩ := Option.map_eq_some_iff.1 h
    rw [List.length_map]
    exact (page_small hp).1
  | succ g ih =>
    intro r b l h
    unfold Sh.walkTrie at h
    split at h
    · obtain ⟨o, ho, h2⟩ := Option.bind_eq_some_iff.1 h
      have h3 := kids_len (H := H) (g := g) (m := 4 ^ (g + 1)) (fun h => ih h) _ _ _ _ _ ho
      split at h2
      · cases h2
      · cases h2
        rw [Nat.pow_succ]
        simp only [List.length_nil, List.length_range] at h3
        omega
    · cases h
theorem ev_leaf (b : Int) (hb0 : 0 ≤ b) (hb1 : b ≤ 1000) (L : List Int) (is : Bool) (hL : L.length ≤ 4 ∧ ∀ y ∈ L, 0 ≤ y ∧ y < (4 : Nat)) : ∀ (n j : Nat) (out : List Int), j ≤ L.length → L.length - j = n → out.length ≤ j →
    Ev (fun k => swardref12_trie.l0 k b out L is j) (out ++ (L.drop j).map (fun d => 4 * b + d), is) := by
  intro n
  induction n with
  | zero =>
    intro j out hj hn ho
    have h1 : ¬ ((j : Int) < (L.length : Int)) := by omega
    rw [List.drop_of_length_le (by omega), List.map_nil, List.append_nil]
    refine Ev.succ ?_
    simp only [swardref12_trie.l0, h1, if_false]
    exact Ev.now _
  | succ n ih =>
    intro j out hj hn ho
    have h1 : (j : Int) < (L.length : Int) := by omega
    have h2 : (0 : Int) ≤ (j : Int) := by omega
    have h3 : out.length < 17592186044416 := by omega
    have hw := wrap_succ j (by omega)
    have hmem : Sh.gi L j ∈ L := Sh.mem_gi.2 ⟨j, by omega, rfl⟩
    have hb := hL.2 _ hmem
    have hw2 : wrap64 (wrap64 (4 * b) + rd L (j : Int)) = 4 * b + Sh.gi L j := by
      rw [rd_gi, wrap_in (4 * b) (by omega) (by omega), wrap_in _ (by omega) (by omega)]
    refine Ev.succ ?_
    simp only [swardref12_trie.l0, h1, h2, h3, if_true, hw2, hw]
    rw [drop_gi L j (by omega), List.map_cons]
    have h9 := ih (j + 1) (out ++ [4 * b + Sh.gi L j]) (by omega) (by omega) (by rw [List.length_append, List.length_singleton]; omega)
    rw [List.append_assoc] at h9
    exact h9
def kidsFrom (r : Option (List Int)) : List Int × Bool := match r with
  | none => ([], false)
  | some l => (l, decide ((l.length : Int) > 0))
theorem ev_kids (H : Sh.Hp) (g : Nat) (hg : g ≤ 3) (b : Int) (hb0 : 0 ≤ b) (hb1 : b ≤ 255) (nums ks : List Int) (hk : ks.length = 4)
    (ih : ∀ (r : Int) (d : Nat), d < 4 → Ev (fun k => swardref12_trie.f k (sn H) r (5 - g : Nat) (4 * b + d)) (two (Sh.walkTrie H g r (4 * b + d)))) :
    ∀ (n d : Nat) (out : List Int), d ≤ 4 → 4 - d = n → out.length ≤ 256 * d → Ev (fun k => swardref12_trie.l1 k (sn H) ((5 - (g + 1) : Nat) : Int) b out d nums ks) (kidsFrom ((([0, 1, 2, 3] : List Nat).drop d).foldl (kidStep H g ks b) (some out))) := by
  intro n
  induction n with
  | zero =>
    intro d out hd hn ho
    obtain rfl : d = 4 := by omega
    have h1 : ¬ (((4 : Nat) : Int) < 4) := by omega
    refine Ev.succ ?_
    simp only [swardref12_trie.l1, h1, if_false]
    exact Ev.now _
  | succ n ih2 =>
    intro d out hd hn ho
    have h1 : (d : Int) < 4 := by omega
    have h2 : (0 : Int) ≤ (d : Int) := by omega
    have h3 : (d : Int) < (ks.length : Int) := by omega
    have hw := wrap_succ d (by omega)
    have hdr : ([0, 1, 2, 3] : List Nat).drop d = d :: ([0, 1, 2, 3] : List Nat).drop (d + 1) := by
      rcases (by omega : d = 0 ∨ d = 1 ∨ d = 2 ∨ d = 3) with rfl | rfl | rfl | rfl <;> rfl
    rw [hdr, List.foldl_cons]
    have e : kidStep H g ks b (some out) d = if Sh.gi ks d = -1 then some out else (Sh.walkTrie H g (Sh.gi ks d) (4 * b + d)).map fun l => out ++ l := rfl
    rw [e]
    have hw3 : wrap64 (((5 - (g + 1) : Nat) : Int) + 1) = ((5 - g : Nat) : Int) := by rw [wrap_in _ (by omega) (by omega)]; omega
    have hw4 : wrap64 (wrap64 (4 * b) + (d : Int)) = 4 * b + d := by rw [wrap_in (4 * b) (by omega) (by omega), wrap_in _ (by omega) (by omega)]
    refine Ev.succ ?_
    simp only [swardref12_trie.l1, h1, h2, h3, if_true, rd_gi, hw3, hw4]
    by_cases hk1 : Sh.gi ks d = -1
    · simp only [hk1, if_true, hw]
      exact ih2 (d + 1) out (by omega) (by omega) (by omega)
    · simp only [hk1, if_false]
      refine Ev.bind (f := fun k (bt : List Int × Bool) => if bt.2 = true then (if out.length + bt.1.length < 17592186044416 then swardref12_trie.l1 k (sn H) ((5 - (g + 1) : Nat) : Int) b (out ++ bt.1) (wrap64 ((d : Int) + 1)) nums ks else none) else some ([], false)) (ih (Sh.gi ks d) d (by omega)) ?_
      rcases hp : Sh.walkTrie H g (Sh.gi ks d) (4 * b + d) with _ | L
      · simp only [two, Option.isSome_none, Bool.false_eq_true, if_false, Option.map_none, kidStep_none]
        exact Ev.now _
      · have hL := walkTrie_len g hp
        have hp4 : 4 ^ (g + 1) ≤ 4 ^ 4 := Nat.pow_le_pow_right (by omega) (by omega)
        have h5 : out.length + L.length < 17592186044416 := by omega
        simp only [two, Option.isSome_some, if_true, Option.getD_some, Option.map_some, h5, hw]
        exact ih2 (d + 1) (out ++ L) (by omega) (by omega) (by rw [List.length_append]; omega)
theorem ev_trie (H : Sh.Hp) (hl : H.length ≤ 1000000) : ∀ (g : Nat), g ≤ 4 → ∀ (r b : Int), 0 ≤ b → (b + 1) * ((4 ^ g : Nat) : Int) ≤ 256 → Ev (fun k => swardref12_trie.f k (sn H) r (5 - g : Nat) b) (two (Sh.walkTrie H g r b)) := by
  intro g
  induction g with
  | zero =>
    intro hg r b hb0 hb1
    have hb2 : b ≤ 255 := by
      have : ((4 ^ 0 : Nat) : Int) = 1 := rfl
      rw [this] at hb1
      omega
    refine Ev.succ ?_
    have h5 : ((5 - 0 : Nat) : Int) = 5 := rfl
    simp only [swardref12_trie.f, h5, if_true]
    refine Ev.bind (f := fun k (bt : List Int × Bool) => swardref12_trie.l0 k b [] bt.1 bt.2 0) (ev_page H r 4 hl (.inl rfl)) ?_
    unfold Sh.walkTrie
    rcases hp : Sh.page H r 4 with _ | L
    · have h9 := ev_leaf b hb0 (by omega) [] false ⟨by simp, fun y hy => by cases hy⟩ _ 0 [] (Nat.zero_le _) rfl (by simp)
      exact h9
    · have h9 := ev_leaf b hb0 (by omega) L true (page_small hp) _ 0 [] (Nat.zero_le _) rfl (by simp)
      rw [List.drop_zero] at h9
      exact h9
  | succ g ih =>
    intro hg r b hb0 hb1
    have hp1 : (1 : Int) ≤ ((4 ^ g : Nat) : Int) := by have := Nat.pow_pos (a := 4) (n := g) (by omega); omega
    have hp4 : ((4 ^ (g + 1) : Nat) : Int) = 4 * ((4 ^ g : Nat) : Int) := by rw [Nat.pow_succ]; omega
    rw [hp4] at hb1
    generalize ((4 ^ g : Nat) : Int) = P at *
    have hm : (b + 1) * (4 * P) = 4 * ((b + 1) * P) := by rw [Int.mul_left_comm]
    have hm2 : (b + 1) * 1 ≤ (b + 1) * P := Int.mul_le_mul_of_nonneg_left hp1 (by omega)
    have hb2 : b ≤ 255 := by omega
    have ih1 : ∀ (r : Int) (d : Nat), d < 4 → Ev (fun k => swardref12_trie.f k (sn H) r (5 - g : Nat) (4 * b + d)) (two (Sh.walkTrie H g r (4 * b + d))) := fun r d hd => by
      refine ih (by omega) r (4 * b + d) (by omega) ?_
      have h1 : (4 * b + (d : Int) + 1) * P ≤ (4 * (b + 1)) * P := Int.mul_le_mul_of_nonneg_right (by omega) (by omega)
      rw [Int.mul_assoc] at h1
      omega
    have h5 : ¬ (((5 - (g + 1) : Nat) : Int) = 5) := by omega
    have hj : ∀ nums ks : List Int, Ev (fun k => swardref12_trie.j1 k (sn H) ((5 - (g + 1) : Nat) : Int) b [] true nums ks) (two none) := fun nums ks => by
      refine Ev.succ ?_
      simp only [swardref12_trie.j1, if_true]
      exact Ev.now _
    refine Ev.succ ?_
    simp only [swardref12_trie.f, h5, if_false]
    rw [node_f H r (by omega)]
    unfold Sh.walkTrie
    cases ht : Sh.there H r
    · simp only [Option.bind_some, Bool.false_and, Bool.false_eq_true, if_false]
      exact hj _ _
    · simp only [Option.bind_some, if_true, Bool.true_and]
      generalize (Sh.nd H r).1 = l
      generalize (Sh.nd H r).2 = ks
      by_cases hk : l.length = 0
      case neg =>
        have h1 : (l.length : Int) > 0 := by omega
        have h2 : (l.length == 0) = false := beq_eq_false_iff_ne.mpr hk
        simp only [h1, if_true, h2, Bool.false_and, Bool.false_eq_true, if_false]
        exact hj _ _
      case pos =>
        have h1 : ¬ ((l.length : Int) > 0) := by omega
        have h2 : (l.length == 0) = true := beq_iff_eq.mpr hk
        simp only [h1, if_false, h2, Bool.true_and]
        by_cases hn : ks.length = 4
        case neg =>
          have h3 : ((ks.length : Int) != 4) = true := bne_iff_ne.mpr (by omega)
          have h4 : (ks.length == 4) = false := beq_eq_false_iff_ne.mpr hn
          simp only [h3, h4, Bool.false_eq_true, if_false]
          exact hj _ _
        case pos =>
          have h3 : ((ks.length : Int) != 4) = false := bne_eq_false_iff_eq.mpr (by omega)
          have h4 : (ks.length == 4) = true := beq_iff_eq.mpr hn
          simp only [h3, h4, if_true]
          refine Ev.succ ?_
          simp only [swardref12_trie.j1, Bool.false_eq_true, if_false]
          have h9 := ev_kids H g (by omega) b hb0 hb2 l ks hn ih1 _ 0 [] (by omega) rfl (by simp)
          have e : two ((List.foldl (fun acc d => acc.bind fun out => if Sh.gi ks d = -1 then some out else (Sh.walkTrie H g (Sh.gi ks d) (4 * b + d)).map fun l => out ++ l) (some []) (List.range 4)).bind fun out => if out.length = 0 then none else some out) = kidsFrom (([0, 1, 2, 3] : List Nat).foldl (kidStep H g ks b) (some [])) := by
            show two ((([0, 1, 2, 3] : List Nat).foldl (kidStep H g ks b) (some [])).bind fun out => if out.length = 0 then none else some out) = _
            rcases ([0, 1, 2, 3] : List Nat).foldl (kidStep H g ks b) (some []) with _ | o
            · rfl
            · show two (if o.length = 0 then none else some o) = (o, decide ((o.length : Int) > 0))
              by_cases h0 : o.length = 0
              · obtain rfl : o = [] := List.length_eq_zero_iff.1 h0
                rfl
              · rw [if_neg h0, decide_eq_true (by omega)]
                rfl
          rw [e]
          exact h9
theorem ev_trie_top (H : Sh.Hp) (hl : H.length ≤ 1000000) (r : Int) : Ev (fun k => swardref12_trie.f k (sn H) r 1 0) (two (Sh.walkTrie H 4 r 0)) := ev_trie H hl 4 (by omega) r 0 (by omega) (by decide)
end Go.Proofs.YtbfedeedicnedaaGreat.PAll
end
section
namespace Go.Proofs.YtbfedeedicnedaaGreat.PAll
open Go.RowKit
open Go.Proofs.YtbfedeedicnedaaGreatW.PrintWords
theorem ev_Listed_l (l : List Int) (x : Int) (hl : l.length ≤ 1000000) : ∀ (n i : Nat), i ≤ l.length → l.length - i = n → Ev (fun k => swardref12_Listed.l0 k l x i) ((l.drop i).contains x) := by
  intro n
  induction n with
  | zero =>
    intro i hi hn
    have h1 : ¬ ((i : Int) < (l.length : Int)) := by omega
    rw [List.drop_of_length_le (by omega)]
    refine Ev.succ ?_
    simp only [swardref12_Listed.l0, h1, if_false]
    exact Ev.now _
  | succ n ih =>
    intro i hi hn
    have h1 : (i : Int) < (l.length : Int) := by omega
    have h2 : (0 : Int) ≤ (i : Int) := by omega
    have hw := wrap_succ i (by omega)
    rw [drop_gi l i (by omega), List.contains_cons]
    refine Ev.succ ?_
    simp only [swardref12_Listed.l0, h1, h2, if_true, rd_gi, hw]
    by_cases he : Sh.gi l i = x
    · simp only [he, if_true, BEq.rfl, Bool.true_or]
      exact Ev.now _
    · have he2 : (x == Sh.gi l i) = false := beq_eq_false_iff_ne.mpr (fun h => he h.symm)
      simp only [he, if_false, he2, Bool.false_or]
      exact ih (i + 1) (by omega) (by omega)
theorem ev_Listed (l : List Int) (x : Int) (hl : l.length ≤ 1000000) : Ev (fun k => swardref12_Listed.f k l x) (l.contains x) := by
  have := ev_Listed_l l x hl _ 0 (Nat.zero_le _) rfl
  rw [List.drop_zero] at this
  exact this
theorem ev_slotted (n : Nat) : Ev (fun k => swardref12_slotted.f k n) (Sh.pow2 n) := by
  have fin : Ev (fun k => swardref12_slotted.l0 k n 4096) false := by
    refine Ev.succ ?_
    have h1 : ¬ ((4096 : Int) ≤ 2048) := by omega
    simp only [swardref12_slotted.l0, h1, if_false]
    exact Ev.now _
  have st : ∀ (c : Nat) (r : Bool), c ≤ 2048 → Ev (fun k => swardref12_slotted.l0 k n ((2 * c : Nat) : Int)) r → Ev (fun k => swardref12_slotted.l0 k n (c : Int)) ((n == c) || r) := by
    intro c r hc h
    refine Ev.succ ?_
    have h1 : (c : Int) ≤ 2048 := by omega
    have hw : wrap64 (2 * (c : Int)) = ((2 * c : Nat) : Int) := by rw [wrap_in _ (by omega) (by omega)]; omega
    simp only [swardref12_slotted.l0, h1, if_true, hw]
    by_cases he : n = c
    · have he2 : (n : Int) = (c : Int) := by omega
      rw [show (n == c) = true from beq_iff_eq.mpr he]
      simp only [he2, if_true, Bool.true_or]
      exact Ev.now _
    · have he2 : ¬ ((n : Int) = (c : Int)) := by omega
      rw [show (n == c) = false from beq_eq_false_iff_ne.mpr he]
      simp only [he2, if_false, Bool.false_or]
      exact h
  have := st 8 _ (by omega) (st 16 _ (by omega) (st 32 _ (by omega) (st 64 _ (by omega) (st 128 _ (by omega) (st 256 _ (by omega) (st 512 _ (by omega) (st 1024 _ (by omega) (st 2048 _ (by omega) fin))))))))
  have e : Sh.pow2 n = ((n == 8) || ((n == 16) || ((n == 32) || ((n == 64) || ((n == 128) || ((n == 256) || ((n == 512) || ((n == 1024) || ((n == 2048) || false))))))))) := by
    unfold Sh.pow2
    simp only [List.contains_cons, List.contains_nil]
  rw [e]
  exact this
def wayL (t : List Int) (x : Int) : List Int := (List.range (Sh.place t x + 1)).map fun j => (Sh.slot t x j : Int)
theorem slot_mod (t : List Int) (x : Int) (hx : 0 ≤ x) (hx1 : x ≤ 1000000) (hpos : 0 < t.length) (hl : t.length ≤ 1000000) : Int.tmod (wrap64 (37 * x)) (t.length : Int) = (Sh.slot t x 0 : Int) := by
  rw [wrap_in _ (by omega) (by omega)]
  have h := Sh.home_slot (t := t) hx hpos
  have h0 : 0 ≤ Int.tmod (37 * x) (t.length : Int) := Int.tmod_nonneg _ (by omega)
  have e : Sh.home x t.length = Int.tmod (37 * x) (t.length : Int) := rfl
  rw [e] at h
  omega
theorem slot_step (t : List Int) (x : Int) (j : Nat) (hl : t.length ≤ 1000000) (hpos : 0 < t.length) : Int.tmod (wrap64 ((Sh.slot t x j : Int) + 1)) (t.length : Int) = (Sh.slot t x (j + 1) : Int) := by
  have h1 := Sh.slot_lt x j hpos
  have h2 := Sh.slot_next (t := t) x j
  have e : ((Sh.slot t x j : Int) + 1) = ((Sh.slot t x j + 1 : Nat) : Int) := by omega
  rw [wrap_in _ (by omega) (by omega), Int.tmod_eq_emod_of_nonneg (by omega), ← h2, e, ← Int.natCast_emod]
theorem ev_way_l (t : List Int) (x : Int) (hl : t.length ≤ 1000000) (hpos : 0 < t.length) (V : List Int) : ∀ (g j : Nat), j + 1 + g = t.length →
    V = (List.range (Sh.placeF t x g j + 1)).map (fun i => (Sh.slot t x i : Int)) → Ev (fun k => swardref12_way.l0 k t x (Sh.slot t x j) ((List.range (j + 1)).map fun i => (Sh.slot t x i : Int))) V := by
  intro g
  induction g with
  | zero =>
    intro j hj hV
    have h1 := Sh.slot_lt x j hpos
    have h2 : (0 : Int) ≤ (Sh.slot t x j : Int) := by omega
    have h3 : (Sh.slot t x j : Int) < (t.length : Int) := by omega
    have h4 : ¬ ((((List.range (j + 1)).map fun i => (Sh.slot t x i : Int)).length : Int) < (t.length : Int)) := by rw [List.length_map, List.length_range]; omega
    have h5 : Sh.placeF t x 0 j = j := rfl
    rw [h5] at hV
    subst hV
    refine Ev.succ ?_
    simp only [swardref12_way.l0, h2, h3, if_true, h4, if_false, rd_gi]
    by_cases e1 : Sh.gi t (Sh.slot t x j) = x
    · simp only [e1, if_true]; exact Ev.now _
    · simp only [e1, if_false]
      by_cases e2 : Sh.gi t (Sh.slot t x j) = -1
      · simp only [e2, if_true]; exact Ev.now _
      · simp only [e2, if_false]; exact Ev.now _
  | succ g ih =>
    intro j hj hV
    have h1 := Sh.slot_lt x j hpos
    have h2 : (0 : Int) ≤ (Sh.slot t x j : Int) := by omega
    have h3 : (Sh.slot t x j : Int) < (t.length : Int) := by omega
    have h4 : ((((List.range (j + 1)).map fun i => (Sh.slot t x i : Int)).length : Int) < (t.length : Int)) := by rw [List.length_map, List.length_range]; omega
    have h6 : ((List.range (j + 1)).map fun i => (Sh.slot t x i : Int)).length < 17592186044416 := by rw [List.length_map, List.length_range]; omega
    have h7 : ¬ ((t.length : Int) = 0) := by omega
    have h5 : Sh.placeF t x (g + 1) j = if Sh.gi t (Sh.slot t x j) = -1 ∨ Sh.gi t (Sh.slot t x j) = x then j else Sh.placeF t x g (j + 1) := rfl
    rw [h5] at hV
    refine Ev.succ ?_
    simp only [swardref12_way.l0, h2, h3, if_true, h4, h6, h7, if_false, rd_gi, slot_step t x j hl hpos]
    by_cases e1 : Sh.gi t (Sh.slot t x j) = x
    · rw [if_pos (Or.inr e1)] at hV
      subst hV
      simp only [e1, if_true]; exact Ev.now _
    · by_cases e2 : Sh.gi t (Sh.slot t x j) = -1
      · rw [if_pos (Or.inl e2)] at hV
        subst hV
        simp only [e1, if_false, e2, if_true]
        split <;> exact Ev.now _
      · rw [if_neg (fun h => h.elim e2 e1)] at hV
        simp only [e1, e2, if_false]
        have h9 := ih (j + 1) (by omega) hV
        rw [List.range_succ, List.map_append] at h9
        exact h9
theorem ev_way (t : List Int) (x : Int) (hl : t.length ≤ 1000000) (hpos : 0 < t.length) (hx : 0 ≤ x) (hx1 : x ≤ 1000000) : Ev (fun k => swardref12_way.f k t x) (wayL t x) := by
  unfold swardref12_way.f
  have h7 : ¬ ((t.length : Int) = 0) := by omega
  simp only [h7, if_false, slot_mod t x hx hx1 hpos hl]
  exact ev_way_l t x hl hpos (wayL t x) (t.length - 1) 0 (by omega) rfl
theorem ev_same_l (a b : List Int) (hl : a.length = b.length) (ha : a.length ≤ 1000000) : ∀ (n i : Nat), i ≤ a.length → a.length - i = n → Ev (fun k => swardlaw12_same.l0 k a b i) (decide (a.drop i = b.drop i)) := by
  intro n
  induction n with
  | zero =>
    intro i hi hn
    have h1 : ¬ ((i : Int) < (a.length : Int)) := by omega
    rw [List.drop_of_length_le (by omega), List.drop_of_length_le (by omega)]
    refine Ev.succ ?_
    simp only [swardlaw12_same.l0, h1, if_false]
    exact Ev.now _
  | succ n ih =>
    intro i hi hn
    have h1 : (i : Int) < (a.length : Int) := by omega
    have h2 : (0 : Int) ≤ (i : Int) := by omega
    have h3 : (i : Int) < (b.length : Int) := by omega
    have hw := wrap_succ i (by omega)
    rw [drop_gi a i (by omega), drop_gi b i (by omega)]
    refine Ev.succ ?_
    simp only [swardlaw12_same.l0, h1, h2, h3, if_true, rd_gi, hw]
    have ih1 := ih (i + 1) (by omega) (by omega)
    by_cases he : Sh.gi a i = Sh.gi b i
    · have e : decide (Sh.gi a i :: a.drop (i + 1) = Sh.gi b i :: b.drop (i + 1)) = decide (a.drop (i + 1) = b.drop (i + 1)) := by
        rw [decide_eq_decide, List.cons.injEq]
        exact ⟨fun h => h.2, fun h => ⟨he, h⟩⟩
      rw [e]
      simp only [he, if_true]
      exact ih1
    · have e : decide (Sh.gi a i :: a.drop (i + 1) = Sh.gi b i :: b.drop (i + 1)) = false := decide_eq_false (fun h => he (List.cons.inj h).1)
      rw [e]
      simp only [he, if_false]
      exact Ev.now _
theorem ev_same (a b : List Int) (ha : a.length ≤ 1000000) : Ev (fun k => swardlaw12_same.f k a b) (decide (a = b)) := by
  unfold swardlaw12_same.f
  by_cases hl : a.length = b.length
  · have h1 : (a.length : Int) = (b.length : Int) := by omega
    simp only [h1, if_true]
    have := ev_same_l a b hl ha _ 0 (Nat.zero_le _) rfl
    rw [List.drop_zero, List.drop_zero] at this
    exact this
  · have h1 : ¬ ((a.length : Int) = (b.length : Int)) := by omega
    simp only [h1, if_false]
    rw [decide_eq_false (fun h => hl (by rw [h]))]
    exact Ev.now _
theorem rd_nd (H : Sh.Hp) (i : Nat) : (rd_T95 (sn H) (i : Int)).f0 = (Sh.nd H i).1 ∧ (rd_T95 (sn H) (i : Int)).f1 = (Sh.nd H i).2 := rd_sn H i
theorem ev_fresh_l (H G : Sh.Hp) (hle : H.length ≤ G.length) (hl : H.length ≤ 1000000) (hG : ∀ i : Nat, i < H.length → Sh.nd G i = Sh.nd H i) (hbig : ∀ p ∈ H, p.1.length ≤ 1000000 ∧ p.2.length ≤ 1000000) : ∀ (n i : Nat), i ≤ H.length → H.length - i = n → Ev (fun k => swardlaw12_fresh.l0 k (sn H) (sn G) i) true := by
  intro n
  induction n with
  | zero =>
    intro i hi hn
    have h1 : ¬ ((i : Int) < ((sn H).length : Int)) := by rw [sn_len]; omega
    refine Ev.succ ?_
    simp only [swardlaw12_fresh.l0, h1, if_false]
    exact Ev.now _
  | succ n ih =>
    intro i hi hn
    have h1 : (i : Int) < ((sn H).length : Int) := by rw [sn_len]; omega
    have h2 : (0 : Int) ≤ (i : Int) := by omega
    have h3 : (i : Int) < ((sn G).length : Int) := by rw [sn_len]; omega
    have hw := wrap_succ i (by omega)
    have hmem : Sh.nd H i ∈ H := List.mem_of_getElem? (Sh.nd_there (Sh.there_iff.2 ⟨by omega, by omega⟩))
    have hb := hbig _ hmem
    refine Ev.succ ?_
    simp only [swardlaw12_fresh.l0, h1, h2, h3, if_true, (rd_nd H i).1, (rd_nd H i).2, (rd_nd G i).1, (rd_nd G i).2, hG i (by omega), hw]
    have s1 := ev_same (Sh.nd H i).1 (Sh.nd H i).1 hb.1
    have s2 := ev_same (Sh.nd H i).2 (Sh.nd H i).2 hb.2
    rw [decide_eq_true rfl] at s1 s2
    refine Ev.bind (f := fun k (t : Bool) => if t = true then ((swardlaw12_same.f k (Sh.nd H i).2 (Sh.nd H i).2).bind fun t412 => if t412 = true then swardlaw12_fresh.l0 k (sn H) (sn G) ((i + 1 : Nat) : Int) else some false) else some false) s1 ?_
    simp only [if_true]
    refine Ev.bind (f := fun k (t : Bool) => if t = true then swardlaw12_fresh.l0 k (sn H) (sn G) ((i + 1 : Nat) : Int) else some false) s2 ?_
    simp only [if_true]
    exact ih (i + 1) (by omega) (by omega)
theorem ev_fresh (H E : Sh.Hp) (m : Int) (hl : H.length + E.length ≤ 1000000) (hm : (E.length : Int) ≤ m) (hbig : ∀ p ∈ H, p.1.length ≤ 1000000 ∧ p.2.length ≤ 1000000) : Ev (fun k => swardlaw12_fresh.f k (sn H) (sn (H ++ E)) m) true := by
  unfold swardlaw12_fresh.f
  rw [sn_len, sn_len, List.length_append]
  have h1 : ¬ (((H.length + E.length : Nat) : Int) < (H.length : Int)) := by omega
  have hw : wrap64 (((H.length + E.length : Nat) : Int) - (H.length : Int)) = (E.length : Int) := by rw [wrap_in _ (by omega) (by omega)]; omega
  have h2 : decide ((E.length : Int) > m) = false := decide_eq_false (by omega)
  simp only [h1, if_false, hw, h2]
  refine Ev.succ ?_
  simp only [swardlaw12_fresh.j0, Bool.false_eq_true, if_false]
  exact ev_fresh_l H (H ++ E) (by rw [List.length_append]; omega) (by omega) (fun i hi => Sh.nd_mono E (Sh.there_iff.2 ⟨by omega, by omega⟩)) hbig _ 0 (Nat.zero_le _) rfl
theorem Height_f {H : Sh.Hp} {r lo hi t : Int} {l : List Int} (T : Sh.Tr H r lo hi l t) (f n : Int) : swardref12_Height.f (sn H) f r n = some t := by
  unfold swardref12_Height.f
  rw [sn_len, (rd_sn H r).1]
  by_cases h0 : r = -1
  · rw [if_pos h0]
    rcases T.root with ⟨_, _, rfl⟩ | ⟨h, _⟩
    · rfl
    · omega
  · rw [if_neg h0]
    rcases T.root with ⟨h, _⟩ | ⟨h1, h2, _⟩
    · exact absurd h h0
    · obtain ⟨x, a, b, la, lb, ha, hb, hnd, _⟩ := T.parts h0
      rw [if_pos h1, if_pos h2, hnd]
      rfl
end Go.Proofs.YtbfedeedicnedaaGreat.PAll
end
