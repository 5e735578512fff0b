/-
  Texts of this claim: ShHash, ShHash2, ShA, ShB, ShC.
-/
import Derived.Test.YtbfedeedicnedaaGreatSj01
import Derived.Test.YtbfedeedicnedaaGreatSj04
set_option linter.unusedVariables false
set_option linter.unusedSimpArgs false
set_option maxHeartbeats 8000000
set_option maxRecDepth 100000
section
namespace Go.Proofs.YtbfedeedicnedaaGreat.Sh
theorem rise_ext : ∀ {l m : List Int}, l.Pairwise (· < ·) → m.Pairwise (· < ·) → (∀ y, y ∈ l ↔ y ∈ m) → l = m
  | [], [], _, _, _ => rfl
  | [], b :: m, _, _, h => by have := (h b).2 (by simp); simp at this
  | a :: l, [], _, _, h => by have := (h a).1 (by simp); simp at this
  | a :: l, b :: m, hl, hm, h => by
    rw [List.pairwise_cons] at hl hm
    have hab : a = b := by
      have h1 := (h a).1 (by simp)
      have h2 := (h b).2 (by simp)
      rcases List.mem_cons.1 h1 with h1 | h1
      · exact h1
      · rcases List.mem_cons.1 h2 with h2 | h2
        · exact h2.symm
        · have := hl.1 b h2
          have := hm.1 a h1
          omega
    subst hab
    congr 1
    refine rise_ext hl.2 hm.2 (fun y => ⟨fun hy => ?_, fun hy => ?_⟩)
    · rcases List.mem_cons.1 ((h y).1 (by simp [hy])) with rfl | h2
      · have := hl.1 y hy; omega
      · exact h2
    · rcases List.mem_cons.1 ((h y).2 (by simp [hy])) with rfl | h2
      · have := hm.1 y hy; omega
      · exact h2
theorem risingFrom_iff : ∀ {l : List Int} {b : Int}, -1 ≤ b → (risingFrom b l = true ↔ l.Pairwise (· < ·) ∧ ∀ y ∈ l, b < y ∧ y ≤ 1023)
  | [], b, _ => by simp [risingFrom]
  | x :: l, b, hb => by
    unfold risingFrom el
    simp only [Bool.and_eq_true, decide_eq_true_eq, List.pairwise_cons]
    constructor
    · rintro ⟨⟨h0, h1⟩, h2, h3⟩
      obtain ⟨h4, h5⟩ := (risingFrom_iff (by omega)).1 h3
      refine ⟨⟨fun y hy => (h5 y hy).1, h4⟩, fun y hy => ?_⟩
      rcases List.mem_cons.1 hy with rfl | hy
      · exact ⟨h2, h1⟩
      · have := h5 y hy; omega
    · rintro ⟨⟨h0, h1⟩, h2⟩
      have hx := h2 x (by simp)
      refine ⟨⟨by omega, hx.2⟩, hx.1, (risingFrom_iff (by omega)).2 ⟨h1, fun y hy => ⟨h0 y hy, (h2 y (by simp [hy])).2⟩⟩⟩
theorem rising_iff {l : List Int} : rising l = true ↔ l.Pairwise (· < ·) ∧ ∀ y ∈ l, 0 ≤ y ∧ y ≤ 1023 := by
  unfold rising
  rw [risingFrom_iff (by omega)]
  constructor
  · rintro ⟨h1, h2⟩
    exact ⟨h1, fun y hy => by have := h2 y hy; omega⟩
  · rintro ⟨h1, h2⟩
    exact ⟨h1, fun y hy => by have := h2 y hy; omega⟩
def Els (l : List Int) : Prop := l.Pairwise (· < ·) ∧ ∀ y ∈ l, 0 ≤ y ∧ y ≤ 1023
theorem Tr.rise {h : Hp} {r lo hi t : Int} {l : List Int} (T : Tr h r lo hi l t) : l.Pairwise (· < ·) := by
  induction T with
  | leaf => exact List.Pairwise.nil
  | node h0 hn hlo hhi ta tb h1 h2 ia ib =>
    rw [List.pairwise_append, List.pairwise_cons]
    refine ⟨ia, ⟨fun y hy => (tb.mem y hy).1, ib⟩, fun y hy z hz => ?_⟩
    have := (ta.mem y hy).2
    rcases List.mem_cons.1 hz with rfl | hz
    · exact this
    · have := (tb.mem z hz).1
      omega
theorem listTree_els {h : Hp} {root : Int} {l : List Int} (hl : listTree h root = some l) : Els l := by
  obtain ⟨t, T⟩ := listTree_iff.1 hl
  refine ⟨T.rise, fun y hy => ?_⟩
  have := T.mem y hy
  omega
def slot (t : List Int) (x : Int) (j : Nat) : Nat := ((home x t.length).toNat + j) % t.length
theorem slot_lt {t : List Int} (x : Int) (j : Nat) (h : 0 < t.length) : slot t x j < t.length := Nat.mod_lt _ h
def Reach (t : List Int) (x : Int) (i : Nat) : Prop := gi t i = x ∧ ∃ k, k < t.length ∧ slot t x k = i ∧ ∀ j, j < k → gi t (slot t x j) ≠ -1 ∧ gi t (slot t x j) ≠ x
def Tab (t : List Int) : Prop := ∀ i, i < t.length → gi t i ≠ -1 → Reach t (gi t i) i
theorem Tab.one {t : List Int} (T : Tab t) {i k : Nat} (hi : i < t.length) (hk : k < t.length) (hn : gi t i ≠ -1) (h : gi t i = gi t k) : i = k := by
  obtain ⟨_, a, _, ea, pa⟩ := T i hi hn
  obtain ⟨_, b, _, eb, pb⟩ := T k hk (by rw [← h]; exact hn)
  rw [← h] at eb pb
  rcases Nat.lt_trichotomy a b with hab | hab | hab
  · have := (pb a hab).2
    rw [ea] at this
    exact absurd rfl this
  · rw [hab] at ea
    exact ea.symm.trans eb
  · have := (pa b hab).2
    rw [eb, h] at this
    exact absurd rfl this
def placeF (t : List Int) (x : Int) : Nat → Nat → Nat
  | 0, j => j
  | g + 1, j => if gi t (slot t x j) = -1 ∨ gi t (slot t x j) = x then j else placeF t x g (j + 1)
def place (t : List Int) (x : Int) : Nat := placeF t x (t.length - 1) 0
theorem placeF_spec (t : List Int) (x : Int) : ∀ (g j : Nat), j ≤ placeF t x g j ∧ placeF t x g j ≤ j + g ∧ (∀ i, j ≤ i → i < placeF t x g j → gi t (slot t x i) ≠ -1 ∧ gi t (slot t x i) ≠ x) ∧ (placeF t x g j < j + g → gi t (slot t x (placeF t x g j)) = -1 ∨ gi t (slot t x (placeF t x g j)) = x)
  | 0, j => ⟨Nat.le_refl _, Nat.le_refl _, fun i h1 h2 => absurd h2 (by show ¬ i < j; omega), fun h => absurd h (by show ¬ j < j; omega)⟩
  | g + 1, j => by
    unfold placeF
    split
    · rename_i h
      exact ⟨Nat.le_refl _, by omega, fun i h1 h2 => by omega, fun _ => h⟩
    · rename_i h
      obtain ⟨h1, h2, h3, h4⟩ := placeF_spec t x g (j + 1)
      refine ⟨by omega, by omega, fun i hi1 hi2 => ?_, fun hlt => h4 (by omega)⟩
      by_cases he : i = j
      · subst he
        exact ⟨fun hx => h (.inl hx), fun hx => h (.inr hx)⟩
      · exact h3 i (by omega) hi2
theorem slot_all {t : List Int} (x : Int) (hx : 0 ≤ x) {i : Nat} (hi : i < t.length) : ∃ j, j < t.length ∧ slot t x j = i := by
  have hpos : 0 < t.length := by omega
  obtain ⟨s, hs⟩ : ∃ s, s = (home x t.length).toNat := ⟨_, rfl⟩
  have hsl : s < t.length := by
    rw [hs]
    unfold home
    have h1 := Int.tmod_nonneg (t.length : Int) (show 0 ≤ 37 * x by omega)
    have h2 := Int.tmod_lt_of_pos (37 * x) (show (0 : Int) < (t.length : Int) by omega)
    omega
  by_cases h : s ≤ i
  · refine ⟨i - s, by omega, ?_⟩
    unfold slot
    rw [← hs, show s + (i - s) = i by omega, Nat.mod_eq_of_lt hi]
  · refine ⟨i + t.length - s, by omega, ?_⟩
    unfold slot
    rw [← hs, show s + (i + t.length - s) = i + t.length by omega, Nat.add_mod_right, Nat.mod_eq_of_lt hi]
theorem place_spec {t : List Int} (x : Int) (hx : 0 ≤ x) (he : ∃ i, i < t.length ∧ gi t i = -1) : place t x < t.length ∧ (∀ i, i < place t x → gi t (slot t x i) ≠ -1 ∧ gi t (slot t x i) ≠ x) ∧ (gi t (slot t x (place t x)) = -1 ∨ gi t (slot t x (place t x)) = x) := by
  obtain ⟨i, hi, hie⟩ := he
  obtain ⟨j, hj, hji⟩ := slot_all x hx hi
  obtain ⟨h1, h2, h3, h4⟩ := placeF_spec t x (t.length - 1) 0
  refine ⟨by unfold place; omega, fun i hi2 => h3 i (Nat.zero_le _) hi2, ?_⟩
  by_cases hlt : placeF t x (t.length - 1) 0 < 0 + (t.length - 1)
  · exact h4 hlt
  · 
    have hp : place t x = t.length - 1 := by unfold place; omega
    by_cases hjl : j = t.length - 1
    · left
      rw [hp, ← hjl, hji]
      exact hie
    · exfalso
      have := (h3 j (Nat.zero_le _) (by omega)).1
      rw [hji] at this
      exact this hie
theorem gi_set {t : List Int} {i k : Nat} {v : Int} (hi : i < t.length) : gi (t.set i v) k = if k = i then v else gi t k := by
  unfold gi
  rw [List.getD_eq_getElem?_getD, List.getElem?_set]
  by_cases h : i = k
  · subst h
    rw [if_pos rfl, if_pos hi, if_pos rfl]
    rfl
  · rw [if_neg h, if_neg (fun e => h e.symm), List.getD_eq_getElem?_getD]
theorem slot_set (t : List Int) (i : Nat) (v x : Int) (j : Nat) : slot (t.set i v) x j = slot t x j := by unfold slot; rw [List.length_set]
theorem tab_put {t : List Int} (T : Tab t) {x : Int} (hx : 0 ≤ x) (hn : ∀ i, i < t.length → gi t i ≠ x) (he : ∃ i, i < t.length ∧ gi t i = -1) :
    Tab (t.set (slot t x (place t x)) x) ∧ gi t (slot t x (place t x)) = -1 ∧ slot t x (place t x) < t.length := by
  have he2 := he
  obtain ⟨i0, hi0, _⟩ := he2
  have hpos : 0 < t.length := by omega
  obtain ⟨h1, h2, h3⟩ := place_spec x hx he
  have hlt := slot_lt x (place t x) hpos
  have hempty : gi t (slot t x (place t x)) = -1 := h3.resolve_right (hn _ hlt)
  refine ⟨?_, hempty, hlt⟩
  intro i hi hne
  rw [List.length_set] at hi
  rw [gi_set hlt] at hne ⊢
  by_cases h : i = slot t x (place t x)
  · rw [if_pos h]
    refine ⟨by rw [gi_set hlt, if_pos h], place t x, by rw [List.length_set]; exact h1, by rw [slot_set]; exact h.symm, fun j hj => ?_⟩
    rw [slot_set, gi_set hlt]
    have hj2 := h2 j hj
    rw [if_neg (fun e => hj2.1 (by rw [e]; exact hempty))]
    exact hj2
  · rw [if_neg h] at hne ⊢
    obtain ⟨g1, k, hk, ek, pk⟩ := T i hi hne
    refine ⟨by rw [gi_set hlt, if_neg h], k, by rw [List.length_set]; exact hk, by rw [slot_set]; exact ek, fun j hj => ?_⟩
    rw [slot_set, gi_set hlt]
    have hj2 := pk j hj
    rw [if_neg (fun e => hj2.1 (by rw [e]; exact hempty))]
    exact hj2
end Go.Proofs.YtbfedeedicnedaaGreat.Sh
end
section
namespace Go.Proofs.YtbfedeedicnedaaGreat.Sh
theorem slot_next {t : List Int} (x : Int) (j : Nat) : (slot t x j + 1) % t.length = slot t x (j + 1) := by
  unfold slot
  rw [Nat.mod_add_mod, Nat.add_assoc]
theorem probe_iff (t : List Int) (x : Int) : ∀ (g j i : Nat), probe t x g (slot t x j) = some i ↔ ∃ k, j ≤ k ∧ k < j + g ∧ slot t x k = i ∧ gi t i = x ∧ ∀ m, j ≤ m → m < k → gi t (slot t x m) ≠ -1 ∧ gi t (slot t x m) ≠ x
  | 0, j, i => by
    unfold probe
    constructor
    · intro h; cases h
    · rintro ⟨k, h1, h2, _⟩; omega
  | g + 1, j, i => by
    unfold probe
    by_cases h1 : gi t (slot t x j) = x
    · rw [if_pos h1]
      constructor
      · intro h
        cases h
        exact ⟨j, Nat.le_refl _, by omega, rfl, h1, fun m h2 h3 => by omega⟩
      · rintro ⟨k, h2, h3, h4, h5, h6⟩
        by_cases hk : k = j
        · rw [← h4, hk]
        · exact absurd h1 (h6 j (Nat.le_refl _) (by omega)).2
    · rw [if_neg h1]
      by_cases h2 : gi t (slot t x j) = -1
      · rw [if_pos h2]
        constructor
        · intro h; cases h
        · rintro ⟨k, h3, h4, h5, h6, h7⟩
          by_cases hk : k = j
          · rw [← h5, hk] at h6
            exact absurd h6 h1
          · exact absurd h2 (h7 j (Nat.le_refl _) (by omega)).1
      · rw [if_neg h2, slot_next, probe_iff t x g (j + 1) i]
        constructor
        · rintro ⟨k, h3, h4, h5, h6, h7⟩
          refine ⟨k, by omega, by omega, h5, h6, fun m hm1 hm2 => ?_⟩
          by_cases hm : m = j
          · rw [hm]; exact ⟨h2, h1⟩
          · exact h7 m (by omega) hm2
        · rintro ⟨k, h3, h4, h5, h6, h7⟩
          have hk : k ≠ j := by
            rintro rfl
            rw [h5, h6] at h1
            exact h1 rfl
          exact ⟨k, by omega, by omega, h5, h6, fun m hm1 hm2 => h7 m (by omega) hm2⟩
theorem home_slot {t : List Int} {x : Int} (hx : 0 ≤ x) (hpos : 0 < t.length) : (home x t.length).toNat = slot t x 0 := by
  unfold slot
  rw [Nat.add_zero]
  refine (Nat.mod_eq_of_lt ?_).symm
  unfold home
  have h1 := Int.tmod_nonneg (t.length : Int) (show 0 ≤ 37 * x by omega)
  have h2 := Int.tmod_lt_of_pos (37 * x) (show (0 : Int) < (t.length : Int) by omega)
  omega
theorem probe_home {t : List Int} {x : Int} (hx : 0 ≤ x) (hpos : 0 < t.length) (i : Nat) : probe t x t.length (home x t.length).toNat = some i ↔ Reach t x i := by
  rw [home_slot hx hpos, probe_iff]
  unfold Reach
  constructor
  · rintro ⟨k, _, h2, h3, h4, h5⟩
    exact ⟨h4, k, by omega, h3, fun j hj => h5 j (Nat.zero_le _) hj⟩
  · rintro ⟨h4, k, h2, h3, h5⟩
    exact ⟨k, Nat.zero_le _, by omega, h3, h4, fun j _ hj => h5 j hj⟩
def full (t : List Int) : List Int := t.filter fun x => decide (x ≠ -1)
theorem mem_gi {t : List Int} {y : Int} : y ∈ t ↔ ∃ i, i < t.length ∧ gi t i = y := by
  rw [List.mem_iff_getElem]
  constructor
  · rintro ⟨i, hi, h⟩
    exact ⟨i, hi, by unfold gi; rw [List.getD_eq_getElem?_getD, List.getElem?_eq_getElem hi]; exact h⟩
  · rintro ⟨i, hi, h⟩
    refine ⟨i, hi, ?_⟩
    unfold gi at h
    rw [List.getD_eq_getElem?_getD, List.getElem?_eq_getElem hi] at h
    exact h
theorem mem_full {t : List Int} {y : Int} : y ∈ full t ↔ y ≠ -1 ∧ ∃ i, i < t.length ∧ gi t i = y := by
  unfold full
  rw [List.mem_filter, mem_gi, decide_eq_true_iff]
  exact and_comm
theorem Tab.nodup {t : List Int} (T : Tab t) : (full t).Nodup := by
  unfold full
  rw [List.nodup_iff_pairwise_ne] 
  rw [List.pairwise_filter]
  rw [List.pairwise_iff_getElem]
  intro i j hi hj hij h1 h2 he
  have e1 : gi t i = t[i] := by unfold gi; rw [List.getD_eq_getElem?_getD, List.getElem?_eq_getElem hi]; rfl
  have e2 : gi t j = t[j] := by unfold gi; rw [List.getD_eq_getElem?_getD, List.getElem?_eq_getElem hj]; rfl
  have h1' : t[i] ≠ -1 := by simpa using h1
  have := T.one hi hj (by rw [e1]; exact h1') (by rw [e1, e2]; exact he)
  omega
theorem sort_rise {l : List Int} (hn : l.Nodup) : l.mergeSort.Pairwise (· < ·) := by
  have h1 := List.pairwise_mergeSort (le := fun a b : Int => decide (a ≤ b)) (by intro a b c h1 h2; simp at h1 h2 ⊢; omega) (by intro a b; simp; omega) l
  have h2 : l.mergeSort.Nodup := (List.mergeSort_perm l _).nodup_iff.2 hn
  rw [List.nodup_iff_pairwise_ne] at h2
  refine (h1.and h2).imp ?_
  intro a b h
  have := h.1
  have h3 := h.2
  simp at this
  omega
theorem pow2_pos {c : Nat} (h : pow2 c = true) : 8 ≤ c ∧ c ≤ 2048 := by
  unfold pow2 at h
  simp at h
  omega
structure TabOk (t : List Int) : Prop where
  size : pow2 t.length = true
  elem : ∀ y ∈ t, y = -1 ∨ (0 ≤ y ∧ y ≤ 1023)
  most : 2 * (full t).length ≤ t.length
  tab : Tab t
theorem listHash_iff {h : Hp} {root : Int} {l : List Int} : listHash h root = some l ↔ there h root = true ∧ (nd h root).2 = [] ∧ TabOk (nd h root).1 ∧ l = (full (nd h root).1).mergeSort := by
  unfold listHash
  obtain ⟨t, ht⟩ : ∃ t, t = (nd h root).1 := ⟨_, rfl⟩
  rw [← ht]
  constructor
  · intro hl
    split at hl
    · rename_i c1
      simp only [Bool.and_eq_true, beq_iff_eq, List.length_eq_zero_iff] at c1
      split at hl
      · rename_i c2
        split at hl
        · rename_i c3
          split at hl
          · rename_i c4
            cases hl
            have h8 := pow2_pos c1.2.2
            rw [List.all_eq_true] at c2 c4
            refine ⟨c1.1, c1.2.1, ⟨c1.2.2, fun y hy => ?_, c3, fun i hi hne => ?_⟩, rfl⟩
            · have := c2 y hy
              unfold el at this
              simp only [Bool.or_eq_true, decide_eq_true_eq, Bool.and_eq_true] at this
              exact this
            · have h1 := c4 i (List.mem_range.2 hi)
              simp only [Bool.or_eq_true, decide_eq_true_eq] at h1
              have h2 := h1.resolve_left hne
              have hmem : gi t i ∈ t := mem_gi.2 ⟨i, hi, rfl⟩
              have h3 := c2 _ hmem
              unfold el at h3
              simp only [Bool.or_eq_true, decide_eq_true_eq, Bool.and_eq_true] at h3
              have h4 := h3.resolve_left hne
              exact (probe_home h4.1 (by omega) i).1 h2
          · cases hl
        · cases hl
      · cases hl
    · cases hl
  · rintro ⟨h1, h2, T, rfl⟩
    have h8 := pow2_pos T.size
    rw [if_pos (by rw [h1, h2, T.size]; rfl), if_pos, if_pos (show 2 * (t.filter fun x => decide (x ≠ -1)).length ≤ t.length from T.most), if_pos]
    · rfl
    · rw [List.all_eq_true]
      intro i hi
      rw [List.mem_range] at hi
      by_cases hne : gi t i = -1
      · simp [hne]
      · have h3 := (T.elem _ (mem_gi.2 ⟨i, hi, rfl⟩)).resolve_left hne
        have h4 := (probe_home h3.1 (by omega) i).2 (T.tab i hi hne)
        simp [h4]
    · rw [List.all_eq_true]
      intro y hy
      have := T.elem y hy
      unfold el
      simp only [Bool.or_eq_true, decide_eq_true_eq, Bool.and_eq_true]
      exact this
def putH (t : List Int) (x : Int) : List Int := t.set (slot t x (place t x)) x
def layH (l : List Int) (c : Nat) : List Int := l.foldl putH (List.replicate c (-1))
structure TabOf (t l : List Int) : Prop where
  tab : Tab t
  elem : ∀ y, y ∈ full t ↔ y ∈ l
  many : (full t).length = l.length
theorem full_set {t : List Int} {i : Nat} {x : Int} (hi : i < t.length) (he : gi t i = -1) (hx : x ≠ -1) : (full (t.set i x)).length = (full t).length + 1 := by
  unfold full
  rw [← List.countP_eq_length_filter, ← List.countP_eq_length_filter, List.countP_set hi]
  have e : t[i] = -1 := by
    unfold gi at he
    rw [List.getD_eq_getElem?_getD, List.getElem?_eq_getElem hi] at he
    exact he
  rw [e]
  simp [hx]
theorem putH_of {t l : List Int} (T : TabOf t l) {x : Int} (hx : 0 ≤ x) (hn : x ∉ l) (hlt : l.length < t.length) : TabOf (putH t x) (l ++ [x]) ∧ (putH t x).length = t.length := by
  have hne : ∀ i, i < t.length → gi t i ≠ x := by
    intro i hi h
    exact hn ((T.elem x).1 (mem_full.2 ⟨by omega, i, hi, h⟩))
  have hemp : ∃ i, i < t.length ∧ gi t i = -1 := by
    refine Classical.byContradiction fun h => ?_
    have hall : full t = t := by
      unfold full
      rw [List.filter_eq_self]
      intro y hy
      obtain ⟨i, hi, rfl⟩ := mem_gi.1 hy
      simpa using fun e => h ⟨i, hi, e⟩
    have := T.many
    rw [hall] at this
    omega
  obtain ⟨h1, h2, h3⟩ := tab_put T.tab hx hne hemp
  have hlen : (putH t x).length = t.length := by unfold putH; rw [List.length_set]
  refine ⟨⟨h1, fun y => ?_, ?_⟩, hlen⟩
  · rw [mem_full, hlen, List.mem_append, List.mem_singleton, ← T.elem, mem_full]
    constructor
    · rintro ⟨hy, i, hi, he⟩
      unfold putH at he
      rw [gi_set h3] at he
      by_cases hq : i = slot t x (place t x)
      · rw [if_pos hq] at he
        exact .inr he.symm
      · rw [if_neg hq] at he
        exact .inl ⟨hy, i, hi, he⟩
    · rintro (⟨hy, i, hi, he⟩ | rfl)
      · refine ⟨hy, i, hi, ?_⟩
        unfold putH
        rw [gi_set h3, if_neg (fun e => hy (by rw [← he, e]; exact h2))]
        exact he
      · exact ⟨by omega, _, h3, by unfold putH; rw [gi_set h3, if_pos rfl]⟩
  · unfold putH
    rw [full_set h3 h2 (by omega), T.many, List.length_append]
    rfl
theorem foldl_of : ∀ (m : List Int) {t l : List Int}, TabOf t l → m.Nodup → (∀ x ∈ m, 0 ≤ x ∧ x ∉ l) → l.length + m.length < t.length + 1 → TabOf (m.foldl putH t) (l ++ m) ∧ (m.foldl putH t).length = t.length
  | [], t, l, T, _, _, _ => by simpa using T
  | x :: m, t, l, T, hn, hx, hlen => by
    rw [List.nodup_cons] at hn
    obtain ⟨h1, h2⟩ := putH_of T (hx x (by simp)).1 (hx x (by simp)).2 (by simp at hlen; omega)
    have ih := foldl_of m h1 hn.2 (fun y hy => ⟨(hx y (by simp [hy])).1, fun h => by
      rcases List.mem_append.1 h with h | h
      · exact (hx y (by simp [hy])).2 h
      · rw [List.mem_singleton] at h
        rw [h] at hy
        exact hn.1 hy⟩) (by rw [h2]; simp at hlen ⊢; omega)
    rw [List.foldl_cons]
    refine ⟨by have := ih.1; rwa [List.append_assoc] at this, ih.2.trans h2⟩
theorem layH_of {l : List Int} (hl : Els l) (c : Nat) (hc : l.length < c + 1) : TabOf (layH l c) l ∧ (layH l c).length = c := by
  have h0 : TabOf (List.replicate c (-1)) [] := by
    have hg : ∀ i, i < c → gi (List.replicate c (-1)) i = -1 := by
      intro i hi
      unfold gi
      rw [List.getD_eq_getElem?_getD, List.getElem?_replicate, if_pos hi]
      rfl
    have hf : full (List.replicate c (-1)) = [] := by
      unfold full
      rw [List.filter_eq_nil_iff]
      intro y hy
      rw [List.mem_replicate] at hy
      simp [hy.2]
    refine ⟨fun i hi hne => ?_, fun y => by rw [hf], by rw [hf]⟩
    rw [List.length_replicate] at hi
    exact absurd (hg i hi) hne
  have hnd : l.Nodup := by
    rw [List.nodup_iff_pairwise_ne]
    exact hl.1.imp (fun h => by omega)
  have := foldl_of l h0 hnd (fun x hx => ⟨(hl.2 x hx).1, by simp⟩) (by simp; omega)
  rw [List.nil_append, List.length_replicate] at this
  exact this
end Go.Proofs.YtbfedeedicnedaaGreat.Sh
end
section
namespace Go.Proofs.YtbfedeedicnedaaGreat
open Go.RowKit
open Go.Proofs.YtbfedeedicnedaaGreatW.PrintWords
abbrev SN := PAll.S95
abbrev kSN : Kd SN := PAll.k95
abbrev kI : Kd Int := Kd.int .i64
def hp (xs : List SN) : Sh.Hp := xs.map fun x => (x.f0, x.f1)
theorem at_int {w : World} {A : Option Addr} {n : Nat} {l : List Int} (h : Kd.C kI w A n l) (i : Int) (h0 : 0 ≤ i) (h1 : i < n) : ∃ ad, A = some ad ∧ w.cell? (ad.add i.toNat) = some (.int .i64 (Sh.gi l i.toNat)) := by
  obtain ⟨ad, c, e, _, hK, hc⟩ := Kd.C_get h 0 i h0 h1
  obtain rfl : c = [.int .i64 (l.getD i.toNat 0)] := hK
  have := hc 0 _ rfl
  refine ⟨ad, e, ?_⟩
  have e2 : i.toNat * kI.sz + 0 = i.toNat := by show i.toNat * 1 + 0 = _; omega
  rw [e2] at this
  exact this
theorem there_calls (A : Option Addr) (len c : Nat) (n : Int) (w : World) : Calls Tryz.prog 159 #[.slice A len c, .int .i64 n] w fun e w' => e = .returned (.bool (decide (0 ≤ n) && decide (n < (len : Int)))) ∧ w' = w := by
  go_enter Tryz.func159, Tryz.ntmps159
  by_cases h0 : 0 ≤ n
  · rw [decide_eq_true h0, Bool.true_and]
    go_wp2
    go_ret
    exact ⟨rfl, rfl⟩
  · rw [decide_eq_false h0, Bool.false_and]
    go_wp2
    go_ret
    exact ⟨rfl, rfl⟩
theorem element_calls (x : Int) (w : World) : Calls Tryz.prog 75 #[.int .i64 x] w fun e w' => e = .returned (.bool (Sh.el x)) ∧ w' = w := by
  unfold Sh.el
  go_enter Tryz.func75, Tryz.ntmps75
  by_cases h0 : 0 ≤ x
  · rw [decide_eq_true h0, Bool.true_and]
    go_wp2
    go_ret
    exact ⟨rfl, rfl⟩
  · rw [decide_eq_false h0, Bool.false_and]
    go_wp2
    go_ret
    exact ⟨rfl, rfl⟩
theorem home_calls (x : Int) (c : Nat) (hx : 0 ≤ x) (hx1 : x ≤ 1000000) (hc : 0 < c) (hc1 : c ≤ 1000000) (w : World) : Calls Tryz.prog 195 #[.int .i64 x, .int .i64 c] w fun e w' => e = .returned (.int .i64 (Sh.home x c)) ∧ w' = w := by
  have hpos : ((c : Int) == 0) = false := by rw [beq_eq_false_iff_ne]; omega
  have hne : ¬ (c : Int) = 0 := by omega
  have h1 := Int.tmod_nonneg (c : Int) (show 0 ≤ 37 * x by omega)
  have h2 := Int.tmod_lt_of_pos (37 * x) (show (0 : Int) < (c : Int) by omega)
  have e : Int.tmod (37 * x) (c : Int) = 37 * x % (c : Int) := Int.tmod_eq_emod_of_nonneg (by omega)
  unfold Sh.home
  rw [e]
  go_enter Tryz.func195, Tryz.ntmps195
  go_wp2
  go_ret
  exact ⟨rfl, rfl⟩
end Go.Proofs.YtbfedeedicnedaaGreat
end
section
namespace Go.Proofs.YtbfedeedicnedaaGreat
open Go.RowKit
open Go.Proofs.YtbfedeedicnedaaGreatW.PrintWords
def sn (H : Sh.Hp) : List SN := H.map fun p => ⟨p.1, p.2⟩
theorem sn_len (H : Sh.Hp) : (sn H).length = H.length := List.length_map _
theorem sn_app (H K : Sh.Hp) : sn (H ++ K) = sn H ++ sn K := List.map_append ..
theorem rd_sn (H : Sh.Hp) (i : Int) : (PAll.rd_T95 (sn H) i).f0 = (Sh.nd H i).1 ∧ (PAll.rd_T95 (sn H) i).f1 = (Sh.nd H i).2 := by
  unfold PAll.rd_T95 sn Sh.nd
  rw [List.getD_eq_getElem?_getD, List.getD_eq_getElem?_getD, List.getElem?_map]
  cases H[i.toNat]? <;> exact ⟨rfl, rfl⟩
abbrev Nodes (w : World) (A : Option Addr) (H : Sh.Hp) : Prop := Kd.C kSN w A H.length (sn H)
theorem Nodes.at {w : World} {A : Option Addr} {H : Sh.Hp} (h : Nodes w A H) (i : Int) (h0 : 0 ≤ i) (h1 : i < (H.length : Int)) : ∃ ad A0 c0 A1 c1, A = some ad ∧ w.cell? (ad.add (i.toNat * 2)) = some (.slice A0 (Sh.nd H i).1.length c0) ∧ w.cell? ⟨(ad.add (i.toNat * 2)).block, (ad.add (i.toNat * 2)).off + 1, none⟩ = some (.slice A1 (Sh.nd H i).2.length c1) ∧ (Sh.nd H i).1.length ≤ c0 ∧ Kd.C kI w A0 (Sh.nd H i).1.length (Sh.nd H i).1 ∧ (Sh.nd H i).2.length ≤ c1 ∧ Kd.C kI w A1 (Sh.nd H i).2.length (Sh.nd H i).2 := by
  obtain ⟨ad, A0, c0, A1, c1, e, d0, d1, l0, g0, l1, g1⟩ := PAll.at_T95 h i h0 (by omega)
  rw [(rd_sn H i).1] at d0 l0 g0
  rw [(rd_sn H i).2] at d1 l1 g1
  exact ⟨ad, A0, c0, A1, c1, e, d0, d1, l0, g0, l1, g1⟩
def HeapAt (w : World) (base hb : Nat) (H : Sh.Hp) : Prop := base ≤ hb ∧ ∃ v, w.heap[hb]? = some (.cells #[v] 124 (0, 0)) ∧ Kd.R kSN 95 w base (fun _ => True) v (sn H)
theorem kSN_E : ∀ q, q ∈ 95 :: kSN.E → q = 95 ∨ q = 3 := by
  intro q hq
  rcases List.mem_cons.1 hq with h | h
  · exact .inl h
  · have : kSN.E = [3, 3] := rfl
    rw [this] at h
    simp at h
    exact .inr h
theorem HeapAt.lt {w : World} {base hb : Nat} {H : Sh.Hp} (h : HeapAt w base hb H) : hb < w.heap.size := by
  obtain ⟨_, v, h, _⟩ := h
  exact blk_lt h
theorem HeapAt.step {w w1 : World} {base hb : Nat} {H : Sh.Hp} (h : HeapAt w base hb H) (hB : Below w.heap.size w w1) : HeapAt w1 base hb H := by
  obtain ⟨h0, v, hv, hr⟩ := h
  exact ⟨h0, v, (hB.block hb (blk_lt hv)).trans hv, Kd.R_below hr hB⟩
theorem HeapAt.cell {w : World} {base hb : Nat} {H : Sh.Hp} (h : HeapAt w base hb H) : ∃ A c, w.cell? ⟨hb, 0, none⟩ = some (.slice A H.length c) ∧ H.length ≤ c ∧ Nodes w A H := by
  obtain ⟨h0, v, hv, hr⟩ := h
  obtain ⟨A, c, rfl, hc, hC⟩ := Kd.R_reads hr
  rw [sn_len] at hC hc hv
  exact ⟨A, c, by rw [blk_cell hv]; rfl, hc, hC⟩
theorem add_pos (ad : Addr) (j : Nat) (h : 0 < j) : ad.add j = ⟨ad.block, ad.off + j, none⟩ := by
  unfold Addr.add
  split <;> simp_all
  all_goals omega
theorem leans_calls (a b : Int) (w : World) (h0 : -1000000 ≤ a) (h1 : a ≤ 1000000) (h2 : -1000000 ≤ b) (h3 : b ≤ 1000000) : Calls Tryz.prog 112 #[.int .i64 a, .int .i64 b] w fun e w' => e = .returned (.int .i64 (if b + 1 < a then 0 else if a + 1 < b then 2 else 1)) ∧ w' = w := by
  by_cases ha : b + 1 < a
  · rw [if_pos ha]
    go_enter Tryz.func112, Tryz.ntmps112
    go_wp2
    go_ret
    exact ⟨rfl, rfl⟩
  · rw [if_neg ha]
    by_cases hb : a + 1 < b
    · rw [if_pos hb]
      go_enter Tryz.func112, Tryz.ntmps112
      go_wp2
      go_ret
      exact ⟨rfl, rfl⟩
    · rw [if_neg hb]
      go_enter Tryz.func112, Tryz.ntmps112
      go_wp2
      go_ret
      exact ⟨rfl, rfl⟩
theorem height_calls (A : Option Addr) (c : Nat) (H : Sh.Hp) (r : Int) (w : World) (hC : Nodes w A H) (hr : r = -1 ∨ (0 ≤ r ∧ r < (H.length : Int) ∧ 2 ≤ (Sh.nd H r).1.length)) : Calls Tryz.prog 113 #[.slice A H.length c, .int .i64 r] w fun e w' => e = .returned (.int .i64 (Sh.height H r)) ∧ w' = w := by
  by_cases h1 : r = -1
  · subst h1
    go_enter Tryz.func113, Tryz.ntmps113
    go_wp2
    go_ret
    exact ⟨rfl, rfl⟩
  · obtain ⟨h2, h3, h4⟩ : 0 ≤ r ∧ r < (H.length : Int) ∧ 2 ≤ (Sh.nd H r).1.length := by rcases hr with h | h; exact absurd h h1; exact h
    unfold Sh.height
    rw [if_neg h1]
    obtain ⟨ad, A0, c0, A1, c1, rfl, d0, d1, l0, g0, l1, g1⟩ := hC.at r h2 h3
    obtain ⟨ad2, rfl, e1⟩ := at_int g0 1 (by omega) (by omega)
    have e1' : w.cell? ⟨ad2.block, ad2.off + 1, none⟩ = some (.int .i64 (Sh.gi (Sh.nd H r).1 1)) := by
      rw [← add_pos _ _ (by omega)]
      exact e1
    generalize Sh.gi (Sh.nd H r).1 1 = y at e1' ⊢
    clear hC hr g0 g1 e1 d1
    obtain ⟨i, rfl⟩ := Int.eq_ofNat_of_zero_le h2
    simp only [Int.toNat_natCast] at d0
    go_enter Tryz.func113, Tryz.ntmps113
    go_wp2
    go_ret
    exact ⟨rfl, rfl⟩
theorem nd_info : (Tryz.prog.info? 95).map (fun i => (i.zero, i.size, i.bytes)) = some (some (.agg #[(.slice none 0 0), (.slice none 0 0)]), 2, 48) := PAll.info95
theorem ints_apart {w : World} {base base' n : Nat} {v u : Value} {l : List Int} {ok : Nat → Prop} {cs : List Value} (h : Kd.R kI 3 w base ok v l) (hu : w.ownsRow base' 95 2 u n cs) : Kd.R kI 3 w base (fun k => some k ≠ u.ownBlock) v l := by
  refine Kd.R_mono (Kd.R_bound h) (fun k hk he => ?_)
  obtain ⟨_, _, _, q, hq, cells, hc⟩ := hk
  have hq3 : q = 3 := by
    rcases List.mem_cons.1 hq with h | h
    · exact h
    · have : kI.E = [] := rfl
      rw [this] at h
      simp at h
  subst hq3
  obtain ⟨cells', hc'⟩ := own_typed hu k he.symm
  rw [hc] at hc'
  simp at hc'
theorem add_calls (base hb : Nat) (H : Sh.Hp) (nums kids : List Int) (v0 v1 : Value) (w : World) (hH : HeapAt w base hb H) (h0 : Kd.R kI 3 w base (fun _ => True) v0 nums) (h1 : Kd.R kI 3 w base (fun _ => True) v1 kids) (hl : H.length ≤ 1000000) :
    Calls Tryz.prog 130 #[.pointer (some ⟨hb, 0, none⟩), v0, v1] w fun e w' => e = .returned (.int .i64 H.length) ∧ HeapAt w' base hb (H ++ [(nums, kids)]) ∧ Below base w w' := by
  obtain ⟨hb0, v, hv, hr⟩ := hH
  obtain ⟨inner, hown⟩ := Kd.R_own hr
  rw [sn_len] at hown
  have hM : kSN.M w base (fun k => some k ≠ v.ownBlock) (⟨nums, kids⟩ : SN) [v0, v1] := PAll.k95_mkM w base _ ⟨nums, kids⟩ (ints_apart h0 hown) (ints_apart h1 hown)
  obtain ⟨A, c, rfl⟩ := Kd.R_slice hr
  have hlt := blk_lt hv
  have hne : some hb ≠ (Value.slice A (sn H).length c).ownBlock := own_ne hown hv (by decide)
  have hcell0 : w.cell? ⟨hb, 0, none⟩ = some (.slice A (sn H).length c) := by rw [blk_cell hv]; rfl
  have hrh := Lib.hid hr
  have hMh := Lib.hid hM
  have hvh := Lib.hid hv
  obtain ⟨A0, n0, c0, rfl⟩ : ∃ A0 n0 c0, v0 = .slice A0 n0 c0 := by obtain ⟨a, b, h, _⟩ := Kd.R_reads h0; exact ⟨_, _, _, h⟩
  obtain ⟨A1, n1, c1, rfl⟩ : ∃ A1 n1 c1, v1 = .slice A1 n1 c1 := by obtain ⟨a, b, h, _⟩ := Kd.R_reads h1; exact ⟨_, _, _, h⟩
  have hsz : base ≤ w.heap.size := by omega
  have hl2 : (sn H).length ≤ 1000000 := by rw [sn_len]; exact hl
  clear hr hM h0 h1 hown hv
  go_enter Tryz.func130, Tryz.ntmps130
  go_wp2_with (at_builtin; refine Kd.R_append kSN (w0 := w) (W := w) base rfl _ _ 22 95 (.agg #[(.slice none 0 0), (.slice none 0 0)]) 48 rfl (by kernel_rfl) nd_info rfl (by decide) (by omega) (.slice A (sn H).length c) (sn H) ⟨nums, kids⟩ [.slice A0 n0 c0, .slice A1 n1 c1] (fun _ => True) (fun k => some k ≠ (Value.slice A (sn H).length c).ownBlock) rfl rfl hMh.out (fun k hk => ⟨trivial, hk⟩) (fun _ _ => trivial) hrh.out (Below.refl _ _) hsz (by rw [sn_len]; omega) ?_; intro u w1 hu hB1 hg1 _; obtain ⟨A', c', rfl, hc', hC'⟩ := Kd.R_reads hu; have hv1 := blk_grown hvh.out hg1 hne; have hcl1 : w1.cell? ⟨hb, 0, none⟩ = some (.slice A (sn H).length c) := (by rw [blk_cell hv1]; rfl); have hfr1 : w1.frozen? ⟨hb, 0, none⟩ = false := blk_frozen hv1 0; replace hv1 := Lib.hid hv1; replace hu := Lib.hid hu; replace hB1 := Lib.hid hB1; clear hg1 hC' hne hc')
  go_ret
  rw [← sn_len H]
  refine ⟨rfl, ⟨hb0, Value.slice A' ((sn H).length + 1) c', blk_set hv1.out 0 _, ?_⟩, ?_⟩
  · rw [sn_app]
    have hu2 := hu.out
    rw [List.length_append] at hu2
    exact Kd.R_set hu2 hv1.out (fun q hq => by rcases kSN_E q hq with rfl | rfl <;> decide) 0 _
  · exact hB1.out.setCell (p := ⟨hb, 0, none⟩) hb0 _
end Go.Proofs.YtbfedeedicnedaaGreat
end
section
namespace Go.Proofs.YtbfedeedicnedaaGreat
open Go.RowKit
open Go.Proofs.YtbfedeedicnedaaGreatW.PrintWords
theorem at_zero {w : World} {A : Option Addr} {n : Nat} {l : List Int} (h : Kd.C kI w A n l) (hn : 1 ≤ n) : ∃ ad, A = some ad ∧ w.cell? ad = some (.int .i64 (Sh.gi l 0)) := by
  obtain ⟨ad, e, hc⟩ := at_int h 0 (by omega) (by omega)
  exact ⟨ad, e, hc⟩
theorem at_one {w : World} {A : Option Addr} {n : Nat} {l : List Int} (h : Kd.C kI w A n l) (hn : 2 ≤ n) : ∃ ad, A = some ad ∧ w.cell? ad = some (.int .i64 (Sh.gi l 0)) ∧ w.cell? ⟨ad.block, ad.off + 1, none⟩ = some (.int .i64 (Sh.gi l 1)) := by
  obtain ⟨ad, e, hc⟩ := at_zero h (by omega)
  obtain ⟨ad', e', hc'⟩ := at_int h 1 (by omega) (by omega)
  obtain rfl : ad = ad' := by rw [e] at e'; exact Option.some.inj e'
  exact ⟨ad, e, hc, by rw [← add_pos _ _ (by omega)]; exact hc'⟩
theorem parts_calls (base hb : Nat) (H : Sh.Hp) (r : Int) (w : World) (hH : HeapAt w base hb H) (h0 : 0 ≤ r) (h1 : r < (H.length : Int)) (hn : 1 ≤ (Sh.nd H r).1.length) (hk : 2 ≤ (Sh.nd H r).2.length) :
    Calls Tryz.prog 109 #[.pointer (some ⟨hb, 0, none⟩), .int .i64 r] w fun e w' => e = .returned (.tuple #[.int .i64 (Sh.lft H r), .int .i64 (Sh.elt H r), .int .i64 (Sh.rgt H r)]) ∧ Below w.heap.size w w' := by
  obtain ⟨A, c, hcell, hc, hC⟩ := hH.cell
  obtain ⟨ad, A0, c0, A1, c1, rfl, d0, d1, l0, g0, l1, g1⟩ := hC.at r h0 h1
  have g0' := fun o => Kd.C_alloc g0 o
  have g1' := fun o => Kd.C_alloc g1 o
  obtain ⟨ad0, rfl, _⟩ := at_zero g0 (by omega)
  obtain ⟨ad1, rfl, _, _⟩ := at_one g1 (by omega)
  have e0 : ∀ o, (w.alloc o).cell? ad0 = some (.int .i64 (Sh.elt H r)) := fun o => by
    obtain ⟨_, e, h⟩ := at_zero (g0' o) (by omega)
    cases e
    exact h
  have e1 : ∀ o, (w.alloc o).cell? ad1 = some (.int .i64 (Sh.lft H r)) := fun o => by
    obtain ⟨_, e, h, _⟩ := at_one (g1' o) (by omega)
    cases e
    exact h
  have e2 : ∀ o, (w.alloc o).cell? ⟨ad1.block, ad1.off + 1, none⟩ = some (.int .i64 (Sh.rgt H r)) := fun o => by
    obtain ⟨_, e, _, h⟩ := at_one (g1' o) (by omega)
    cases e
    exact h
  generalize Sh.elt H r = x at e0 ⊢
  generalize Sh.lft H r = a at e1 ⊢
  generalize Sh.rgt H r = b at e2 ⊢
  generalize (Sh.nd H r).1.length = n0 at d0 hn l0
  generalize (Sh.nd H r).2.length = n1 at d1 hk l1
  clear g0 g1 g0' g1' hC hH
  obtain ⟨i, rfl⟩ := Int.eq_ofNat_of_zero_le h0
  simp only [Int.toNat_natCast] at d0 d1
  go_enter Tryz.func109, Tryz.ntmps109
  go_wp2
  go_quiet (fail)
  go_wp2
  go_ret3
  exact ⟨rfl, pw_below_drewN ((Below.refl _ _).alloc (Nat.le_refl _) _) _⟩
theorem lit_ints (W : World) (base : Nat) (l : List Int) (cs : Array Value) (m : Nat) (hb : base ≤ W.heap.size) (hm : l.length ≤ 9223372036854775807) (hcs : cs = (nums .i64 l).toArray) (hml : m = l.length) : Kd.R kI 3 (W.alloc (.cells cs 3)) base (fun _ => True) (.slice (some ⟨W.heap.size, 0, none⟩) m m) l := by
  subst hcs
  subst hml
  exact Kd.R_of_own (own_lit W base 3 .i64 l hb hm) (fun _ _ => trivial)
theorem two_lits (w : World) (base : Nat) (x y a b x' y' : Int) (hb : base ≤ w.heap.size) (hx : x' = x) (hy : y' = y) :
    Kd.R kI 3 ((w.alloc (.cells #[.int .i64 x', .int .i64 y'] 3)).alloc (.cells #[.int .i64 a, .int .i64 b] 3)).drew base (fun _ => True) (.slice (some ⟨w.heap.size, 0, none⟩) 2 2) [x, y] ∧
    Kd.R kI 3 ((w.alloc (.cells #[.int .i64 x', .int .i64 y'] 3)).alloc (.cells #[.int .i64 a, .int .i64 b] 3)).drew base (fun _ => True) (.slice (some ⟨w.heap.size + 1, 0, none⟩) 2 2) [a, b] := by
  subst hx
  subst hy
  refine ⟨Kd.R_drew (Kd.R_alloc (lit_ints w base [x', y'] _ 2 hb (by show 2 ≤ _; omega) rfl rfl) _), Kd.R_drew ?_⟩
  have h := lit_ints (w.alloc (.cells #[.int .i64 x', .int .i64 y'] 3)) base [a, b] #[.int .i64 a, .int .i64 b] 2 (by rw [World.size_alloc]; omega) (by show 2 ≤ _; omega) rfl rfl
  rw [World.size_alloc] at h
  exact h
theorem two_lits' (w : World) (base : Nat) (x y a b y' : Int) (hb : base ≤ w.heap.size) (hy : y' = y) :
    Kd.R kI 3 ((w.alloc (.cells #[.int .i64 a, .int .i64 b] 3)).alloc (.cells #[.int .i64 x, .int .i64 y'] 3)).drew base (fun _ => True) (.slice (some ⟨w.heap.size + 1, 0, none⟩) 2 2) [x, y] ∧
    Kd.R kI 3 ((w.alloc (.cells #[.int .i64 a, .int .i64 b] 3)).alloc (.cells #[.int .i64 x, .int .i64 y'] 3)).drew base (fun _ => True) (.slice (some ⟨w.heap.size, 0, none⟩) 2 2) [a, b] := by
  subst hy
  exact (two_lits w base a b x y' a b hb rfl rfl).symm
theorem two_below (w : World) (B : Nat) (hB : B ≤ w.heap.size) (o1 o2 : Obj) : Below B w ((w.alloc o1).alloc o2).drew := (((Below.refl B w).alloc hB o1).alloc (by rw [World.size_alloc]; omega) o2).drew
theorem max_if (p q : Int) : (if p < q then q else p) = max p q := by
  split <;> omega
end Go.Proofs.YtbfedeedicnedaaGreat
end
