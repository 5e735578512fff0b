/-
  Texts of this claim: ShBF, ShBG.
-/
import Derived.Test.YtbfedeedicnedaaGreatSj26
set_option linter.unusedVariables false
set_option linter.unusedSimpArgs false
set_option maxHeartbeats 8000000
set_option maxRecDepth 100000
section
namespace Go.Proofs.YtbfedeedicnedaaGreat.Sh
theorem lead_els {l : List Int} (x : Int) : l.Pairwise (· < ·) → (∀ y ∈ l.take (lead x l), y < x) ∧ (∀ y ∈ l.drop (lead x l), x ≤ y) := by
  induction l with
  | nil => intro _; exact ⟨fun y hy => (by cases hy), fun y hy => (by cases hy)⟩
  | cons z l ih =>
    intro hp
    rw [List.pairwise_cons] at hp
    have e : lead x (z :: l) = if z < x then lead x l + 1 else 0 := rfl
    by_cases c : z < x
    · rw [if_pos c] at e
      rw [e, List.take_succ_cons, List.drop_succ_cons]
      have h := ih hp.2
      exact ⟨fun y hy => (by
        rcases List.mem_cons.1 hy with rfl | hy
        · exact c
        · exact h.1 y hy), h.2⟩
    · rw [if_neg c] at e
      rw [e]
      refine ⟨fun y hy => (by cases hy), fun y hy => ?_⟩
      rcases List.mem_cons.1 hy with rfl | hy
      · omega
      · have := hp.1 y hy; omega
theorem withF_els {l : List Int} {x : Int} (hl : Els l) (hx : 0 ≤ x ∧ x ≤ 1023) : Els (withF l x) ∧ ∀ y, y ∈ withF l x ↔ y = x ∨ y ∈ l := by
  unfold withF
  have hk := lead_le x l
  obtain ⟨h1, h2⟩ := lead_els x hl.1
  split
  · rename_i c
    refine ⟨hl, fun y => ⟨.inr, ?_⟩⟩
    rintro (rfl | hy)
    · rw [← c.2]; exact mem_gi.2 ⟨_, c.1, rfl⟩
    · exact hy
  · rename_i c
    have hsp := List.take_append_drop (lead x l) l
    have hpt : (l.take (lead x l)).Pairwise (· < ·) := hl.1.sublist (List.take_sublist _ _)
    have hpd : (l.drop (lead x l)).Pairwise (· < ·) := hl.1.sublist (List.drop_sublist _ _)
    have hne : ∀ y ∈ l.drop (lead x l), x < y := by
      intro y hy
      have h3 := h2 y hy
      rcases Int.lt_or_eq_of_le h3 with h | h
      · exact h
      · exfalso
        have hlt : lead x l < l.length := by
          refine Classical.byContradiction fun hn => ?_
          rw [List.drop_of_length_le (by omega)] at hy
          cases hy
        refine c ⟨hlt, ?_⟩
        rw [drop_at' l _ hlt] at hy hpd h2
        have h4 := h2 _ (List.mem_cons_self)
        rw [List.pairwise_cons] at hpd
        rcases List.mem_cons.1 hy with e | hy
        · omega
        · have := hpd.1 y hy; omega
    have hmem : ∀ y, y ∈ l.take (lead x l) ++ [x] ++ l.drop (lead x l) ↔ y = x ∨ y ∈ l := by
      intro y
      have : y ∈ l ↔ y ∈ l.take (lead x l) ∨ y ∈ l.drop (lead x l) := by rw [← List.mem_append, hsp]
      rw [List.mem_append, List.mem_append, List.mem_singleton, this]
      constructor
      · rintro ((h | h) | h)
        · exact .inr (.inl h)
        · exact .inl h
        · exact .inr (.inr h)
      · rintro (h | h | h)
        · exact .inl (.inr h)
        · exact .inl (.inl h)
        · exact .inr h
    refine ⟨⟨?_, fun y hy => ?_⟩, hmem⟩
    · rw [List.append_assoc, List.pairwise_append]
      refine ⟨hpt, List.pairwise_cons.2 ⟨hne, hpd⟩, fun a ha b hb => ?_⟩
      have := h1 a ha
      rcases List.mem_cons.1 hb with rfl | hb
      · exact this
      · have := hne b hb; omega
    · rcases (hmem y).1 hy with rfl | hy
      · exact hx
      · exact hl.2 y hy
def sortF (l : List Int) : List Int := l.foldl withF []
theorem sortF_els {l : List Int} (hx : ∀ x ∈ l, 0 ≤ x ∧ x ≤ 1023) : Els (sortF l) ∧ ∀ y, y ∈ sortF l ↔ y ∈ l := by
  unfold sortF
  suffices h : ∀ (l o : List Int), Els o → (∀ x ∈ l, 0 ≤ x ∧ x ≤ 1023) → Els (l.foldl withF o) ∧ ∀ y, y ∈ l.foldl withF o ↔ y ∈ o ∨ y ∈ l by
    have := h l [] ⟨List.Pairwise.nil, fun y hy => (by cases hy)⟩ hx
    refine ⟨this.1, fun y => ?_⟩
    rw [this.2]
    simp
  intro l
  induction l with
  | nil => intro o ho _; exact ⟨ho, fun y => by simp⟩
  | cons x l ih =>
    intro o ho hx
    obtain ⟨h1, h2⟩ := withF_els ho (hx x (List.mem_cons_self))
    obtain ⟨h3, h4⟩ := ih _ h1 (fun y hy => hx y (List.mem_cons_of_mem _ hy))
    rw [List.foldl_cons]
    refine ⟨h3, fun y => ?_⟩
    rw [h4, h2, List.mem_cons]
    constructor
    · rintro ((h | h) | h)
      · exact .inr (.inl h)
      · exact .inl h
      · exact .inr (.inr h)
    · rintro (h | h | h)
      · exact .inl (.inr h)
      · exact .inl (.inl h)
      · exact .inr h
def lastW (t : List Int) (x : Int) : Nat := slot t x (place t x)
theorem lastW_iff {t : List Int} {x : Int} (hx : 0 ≤ x) {i : Nat} (hi : i < t.length) (hg : gi t i = x) : lastW t x = i ↔ Reach t x i := by
  have hpos : 0 < t.length := by omega
  have hs := placeF_spec t x (t.length - 1) 0
  unfold lastW
  have hp : placeF t x (t.length - 1) 0 = place t x := rfl
  rw [hp] at hs
  obtain ⟨_, h2, h3, h4⟩ := hs
  constructor
  · intro he
    exact ⟨hg, place t x, by omega, he, fun j hj => h3 j (Nat.zero_le _) hj⟩
  · rintro ⟨_, k, hk, hks, hkn⟩
    have : place t x = k := by
      rcases Nat.lt_trichotomy (place t x) k with h | h | h
      · have h5 := hkn _ h
        have h6 := h4 (by omega)
        rcases h6 with h6 | h6
        · exact absurd h6 h5.1
        · exact absurd h6 h5.2
      · exact h
      · have h5 := h3 k (Nat.zero_le _) h
        rw [hks] at h5
        exact absurd hg h5.2
    rw [this, hks]
def hashD (t : List Int) : Nat → Nat → List Int → Nat → Option (List Int × Nat)
  | 0, _, out, many => some (out, many)
  | g + 1, i, out, many =>
    if ¬ (-1 ≤ gi t i ∧ gi t i ≤ 1023) then none
    else if gi t i = -1 then hashD t g (i + 1) out many
    else if lastW t (gi t i) ≠ i ∨ out.contains (gi t i) = true then none
    else hashD t g (i + 1) (withF out (gi t i)) (many + 1)
theorem hashD_ok (t : List Int) : ∀ (g i : Nat) (out : List Int) (many : Nat) (o : List Int) (m : Nat), i + g = t.length → Els out → hashD t g i out many = some (o, m) →
    (∀ j, i ≤ j → j < t.length → gi t j = -1 ∨ ((0 ≤ gi t j ∧ gi t j ≤ 1023) ∧ Reach t (gi t j) j)) ∧ Els o ∧ (∀ y, y ∈ o ↔ y ∈ out ∨ ∃ j, i ≤ j ∧ j < t.length ∧ gi t j ≠ -1 ∧ gi t j = y) ∧ m = many + (full (t.drop i)).length := by
  intro g
  induction g with
  | zero =>
    intro i out many o m hi ho h
    cases h
    refine ⟨fun j h1 h2 => by omega, ho, fun y => ⟨.inl, ?_⟩, ?_⟩
    · rintro (h | ⟨j, h1, h2, _⟩)
      · exact h
      · omega
    · rw [List.drop_of_length_le (by omega)]
      rfl
  | succ g ih =>
    intro i out many o m hi ho h
    unfold hashD at h
    have hlt : i < t.length := by omega
    have hdr : full (t.drop i) = if gi t i = -1 then full (t.drop (i + 1)) else gi t i :: full (t.drop (i + 1)) := by
      rw [drop_at' t i hlt]
      unfold full
      by_cases c : gi t i = -1
      · rw [if_pos c, List.filter_cons_of_neg (by simpa using c)]
      · rw [if_neg c, List.filter_cons_of_pos (by simpa using c)]
    have split_j : ∀ {P : Nat → Prop}, P i → (∀ j, i + 1 ≤ j → j < t.length → P j) → ∀ j, i ≤ j → j < t.length → P j := by
      intro P h0 h1 j hj hj2
      rcases Nat.lt_or_eq_of_le hj with h | rfl
      · exact h1 j h hj2
      · exact h0
    split at h
    · cases h
    · rename_i hr
      have hr' : -1 ≤ gi t i ∧ gi t i ≤ 1023 := Classical.not_not.1 hr
      split at h
      · rename_i c
        obtain ⟨h1, h2, h3, h4⟩ := ih (i + 1) out many o m (by omega) ho h
        refine ⟨split_j (.inl c) h1, h2, fun y => ?_, by rw [hdr, if_pos c]; exact h4⟩
        rw [h3]
        constructor
        · rintro (h | ⟨j, a, b, c2, d⟩)
          · exact .inl h
          · exact .inr ⟨j, by omega, b, c2, d⟩
        · rintro (h | ⟨j, a, b, c2, d⟩)
          · exact .inl h
          · refine .inr ⟨j, ?_, b, c2, d⟩
            rcases Nat.lt_or_eq_of_le a with h | rfl
            · exact h
            · exact absurd c c2
      · rename_i c
        split at h
        · cases h
        · rename_i c2
          have hx : 0 ≤ gi t i ∧ gi t i ≤ 1023 := by omega
          have hw := withF_els ho hx
          obtain ⟨h1, h2, h3, h4⟩ := ih (i + 1) _ (many + 1) o m (by omega) hw.1 h
          have hreach : Reach t (gi t i) i := (lastW_iff hx.1 hlt rfl).1 (Classical.byContradiction fun hn => c2 (.inl hn))
          refine ⟨split_j (.inr ⟨hx, hreach⟩) h1, h2, fun y => ?_, by rw [hdr, if_neg c, List.length_cons]; omega⟩
          rw [h3, hw.2]
          constructor
          · rintro ((rfl | h) | ⟨j, a, b, c3, d⟩)
            · exact .inr ⟨i, Nat.le_refl _, hlt, c, rfl⟩
            · exact .inl h
            · exact .inr ⟨j, by omega, b, c3, d⟩
          · rintro (h | ⟨j, a, b, c3, d⟩)
            · exact .inl (.inr h)
            · rcases Nat.lt_or_eq_of_le a with h | rfl
              · exact .inr ⟨j, h, b, c3, d⟩
              · exact .inl (.inl d.symm)
theorem hashD_some {t : List Int} (T : Tab t) (hel : ∀ y ∈ t, y = -1 ∨ (0 ≤ y ∧ y ≤ 1023)) : ∀ (g i : Nat) (out : List Int) (many : Nat), i + g = t.length → (∀ y, y ∈ out → ∃ j, j < i ∧ gi t j = y ∧ y ≠ -1) → Els out → (hashD t g i out many).isSome = true := by
  intro g
  induction g with
  | zero => intro i out many _ _ _; rfl
  | succ g ih =>
    intro i out many hi ho hE
    have hlt : i < t.length := by omega
    have hx := hel _ (mem_gi.2 ⟨i, hlt, rfl⟩)
    unfold hashD
    rw [if_neg (fun h => h (by omega))]
    by_cases c : gi t i = -1
    · rw [if_pos c]
      exact ih (i + 1) out many (by omega) (fun y hy => by obtain ⟨j, a, b⟩ := ho y hy; exact ⟨j, by omega, b⟩) hE
    · rw [if_neg c]
      have hx' := hx.resolve_left c
      have hw := withF_els hE hx'
      have hreach := T i hlt c
      rw [if_neg]
      · refine ih (i + 1) _ _ (by omega) (fun y hy => ?_) hw.1
        rcases (hw.2 y).1 hy with rfl | hy
        · exact ⟨i, by omega, rfl, c⟩
        · obtain ⟨j, a, b⟩ := ho y hy
          exact ⟨j, by omega, b⟩
      · rintro (h | h)
        · exact h ((lastW_iff hx'.1 hlt rfl).2 hreach)
        · rw [List.contains_iff_mem] at h
          obtain ⟨j, a, b, c3⟩ := ho _ h
          have := T.one (i := j) (k := i) (by omega) hlt (by rw [b]; exact c) b
          omega
def hashR (t : List Int) : Option (List Int) := if pow2 t.length = true then (match hashD t t.length 0 [] 0 with
  | none => none
  | some (o, m) => if 2 * m ≤ t.length then some o else none) else none
theorem hashR_eq (h : Hp) (root : Int) : listHash h root = if there h root = true ∧ (nd h root).2 = [] then hashR (nd h root).1 else none := by
  have hE : Els [] := ⟨List.Pairwise.nil, fun y hy => (by cases hy)⟩
  by_cases hc : there h root = true ∧ (nd h root).2 = []
  · rw [if_pos hc]
    unfold hashR
    obtain ⟨t, ht⟩ : ∃ t, t = (nd h root).1 := ⟨_, rfl⟩
    rw [← ht]
    by_cases hp : pow2 t.length = true
    · rw [if_pos hp]
      rcases hD : hashD t t.length 0 [] 0 with _ | ⟨o, m⟩
      · show listHash h root = none
        rcases hL : listHash h root with _ | l
        · rfl
        · obtain ⟨_, _, T, _⟩ := listHash_iff.1 hL
          rw [← ht] at T
          have := hashD_some T.tab T.elem t.length 0 [] 0 (by omega) (fun y hy => (by cases hy)) hE
          rw [hD] at this
          cases this
      · obtain ⟨h1, h2, h3, h4⟩ := hashD_ok t t.length 0 [] 0 o m (by omega) hE hD
        rw [List.drop_zero, Nat.zero_add] at h4
        show listHash h root = if 2 * m ≤ t.length then some o else none
        have hfull : ∀ y, y ∈ o ↔ y ∈ full t := fun y => by
          rw [h3, mem_full]
          constructor
          · rintro (h | ⟨j, _, b, c, rfl⟩)
            · cases h
            · exact ⟨c, j, b, rfl⟩
          · rintro ⟨hne, j, b, rfl⟩
            exact .inr ⟨j, Nat.zero_le _, b, hne, rfl⟩
        by_cases hm : 2 * m ≤ t.length
        · rw [if_pos hm]
          refine listHash_iff.2 ⟨hc.1, hc.2, ?_, ?_⟩
          · rw [← ht]
            refine ⟨hp, fun y hy => ?_, by rw [← h4]; exact hm, fun i hi hne => ?_⟩
            · obtain ⟨i, hi, rfl⟩ := mem_gi.1 hy
              exact (h1 i (Nat.zero_le _) hi).imp id (fun h => h.1)
            · exact ((h1 i (Nat.zero_le _) hi).resolve_left hne).2
          · rw [← ht]
            refine rise_ext h2.1 (sort_rise ?_) ?_
            · have T : Tab t := fun i hi hne => ((h1 i (Nat.zero_le _) hi).resolve_left hne).2
              exact T.nodup
            · intro y
              rw [(List.mergeSort_perm _ _).mem_iff, hfull]
        · rw [if_neg hm]
          rcases hL : listHash h root with _ | l
          · rfl
          · obtain ⟨_, _, T, _⟩ := listHash_iff.1 hL
            rw [← ht] at T
            have := T.most
            rw [← h4] at this
            exact absurd this hm
    · rw [if_neg hp]
      rcases hL : listHash h root with _ | l
      · rfl
      · obtain ⟨_, _, T, _⟩ := listHash_iff.1 hL
        rw [← ht] at T
        exact absurd T.size hp
  · rw [if_neg hc]
    rcases hL : listHash h root with _ | l
    · rfl
    · obtain ⟨a, b, _⟩ := listHash_iff.1 hL
      exact absurd ⟨a, b⟩ hc
end Go.Proofs.YtbfedeedicnedaaGreat.Sh
end
section
namespace Go.Proofs.YtbfedeedicnedaaGreat
open Go.RowKit
open Go.Proofs.YtbfedeedicnedaaGreatW.PrintWords
def ElGot (w' : World) (e : Ending) (r : Option (List Int)) : Prop := ∃ A1 c1 l, e = .returned (.tuple #[.slice A1 (l : List Int).length c1, .bool r.isSome]) ∧ l.length ≤ c1 ∧ Kd.C kI w' A1 l.length l ∧ ∀ m, r = some m → l = m
theorem C_nil (w : World) : Kd.C kI w none 0 ([] : List Int) := ⟨rfl, by omega, fun h => by omega⟩
theorem ElGot.nil (w' : World) : ElGot w' (.returned (.tuple #[.slice none 0 0, .bool false])) none := ⟨none, 0, [], rfl, Nat.le_refl _, C_nil w', fun m h => by cases h⟩
theorem slotted_calls (n : Nat) {b : Bool} (h : Sh.pow2 n = b) (w : World) : Calls Tryz.prog 105 #[.int .i64 n] w fun e w' => e = .returned (.bool b) ∧ Drawn0 w w' := by
 subst h
 obtain ⟨k, hk⟩ := (PAll.ev_slotted n).rounds
 exact PAll.swardref12_slotted.calls k n _ w hk
theorem Listed_calls (l : List Int) (x : Int) (A : Option Addr) (c : Nat) (w : World) (hC : Kd.C kI w A l.length l) (hc : l.length ≤ c) (hl : l.length ≤ 1000000) {b : Bool} (h : l.contains x = b) : Calls Tryz.prog 25 #[.slice A l.length c, .int .i64 x] w fun e w' => e = .returned (.bool b) ∧ Drawn0 w w' := by
 subst h
 obtain ⟨k, hk⟩ := (PAll.ev_Listed l x hl).rounds
 exact PAll.swardref12_Listed.calls k A c l x _ w hC hc hk
theorem way_calls (t : List Int) (x : Int) (A : Option Addr) (c : Nat) (w : World) (hC : Kd.C kI w A t.length t) (hc : t.length ≤ c) (hl : t.length ≤ 1000000) (hpos : 0 < t.length) (hx : 0 ≤ x) (hx1 : x ≤ 1000000) :
  Calls Tryz.prog 71 #[.slice A t.length c, .int .i64 x] w fun e w' => GotV w' e (PAll.wayL t x) ∧ Below w.heap.size w w' := by
 obtain ⟨k, hk⟩ := (PAll.ev_way t x hl hpos hx hx1).rounds
 refine (PAll.swardref12_way.calls k A c t x _ w hC hc hk).mono ?_
 rintro e w' ⟨v, rfl, ho, hB⟩
 exact ⟨Ints.gotV ho, hB⟩
theorem wayL_len (t : List Int) (x : Int) : (PAll.wayL t x).length = Sh.place t x + 1 := by unfold PAll.wayL; rw [List.length_map, List.length_range]
theorem wayL_last (t : List Int) (x : Int) : Sh.gi (PAll.wayL t x) (Sh.place t x) = (Sh.lastW t x : Int) := by
 unfold PAll.wayL Sh.gi Sh.lastW
 rw [List.getD_eq_getElem?_getD, List.getElem?_map, List.getElem?_range (by omega)]
 rfl
theorem place_lt (t : List Int) (x : Int) (hpos : 0 < t.length) : Sh.place t x < t.length := by
 have := (Sh.placeF_spec t x (t.length - 1) 0).2.1
 have e : Sh.placeF t x (t.length - 1) 0 = Sh.place t x := rfl
 omega
structure BoxAt (W2 : World) (g5 : Nat) (ad0 : Addr) (n c0 : Nat) (v1 : Value) (t : List Int) : Prop where
 blk : W2.heap[g5]? = some (.cells #[.slice (some ad0) n c0, v1] 95 (0, 0))
 nums : Kd.C kI W2 (some ad0) n t
theorem BoxAt.cell {W2 W : World} {g5 : Nat} {ad0 : Addr} {n c0 : Nat} {v1 : Value} {t : List Int} (h : BoxAt W2 g5 ad0 n c0 v1 t) (hB : Below W2.heap.size W2 W) : W.cell? ⟨g5, 0, none⟩ = some (.slice (some ad0) n c0) := by
 rw [blk_cell (blk_below h.blk hB)]
 rfl
theorem BoxAt.get {W2 W : World} {g5 : Nat} {ad0 : Addr} {n c0 : Nat} {v1 : Value} {t : List Int} (h : BoxAt W2 g5 ad0 n c0 v1 t) (hB : Below W2.heap.size W2 W) (i : Nat) (hi : i < n) : W.cell? (ad0.add i) = some (.int .i64 (Sh.gi t i)) := by
 obtain ⟨ad, e, h1⟩ := at_int (Kd.C_below h.nums hB) (i : Int) (by omega) (by omega)
 cases e
 rw [Int.toNat_natCast] at h1
 exact h1
theorem rhash_calls (H : Sh.Hp) (root : Int) (A : Option Addr) (c : Nat) (w : World) (hC : Nodes w A H) (hc : H.length ≤ c) (hroot : Sh.there H root = true → (Sh.nd H root).1.length ≤ 1000000) :
  Calls Tryz.prog 68 #[.slice A H.length c, .int .i64 root] w fun e w' => ElGot w' e (Sh.listHash H root) ∧ Below w.heap.size w w' := by
 have hnc := Lib.hid (rnode_calls H root A c w hC hc)
 obtain ⟨R, hR⟩ : ∃ R, R = Sh.listHash H root := ⟨_, rfl⟩
 rw [← hR]
 rw [Sh.hashR_eq] at hR
 cases ht : Sh.there H root
 case false =>
  rw [if_neg (by rw [ht]; simp)] at hR
  subst hR
  clear hC
  go_enter Tryz.func68, Tryz.ntmps68
  go_wp2_with fail
  refine (hnc.out).mono ?_
  rintro e w1 ⟨⟨A0, c0, A1, c1, l0, l1, rfl, -, -, h1, -, h2⟩, hB1⟩
  rw [ht]
  have hB2 := Lib.hid (hB1.alloc hB1.size (.cells #[.slice A0 l0.length c0, .slice A1 l1.length c1] 95))
  clear h1 h2 hB1
  go_wp2
  go_ret2
  exact ⟨ElGot.nil _, hB2.out⟩
 case true =>
  have htt := Lib.hid ht
  have hsm := hroot ht
  clear hroot
  obtain ⟨t, htN⟩ : ∃ t, t = (Sh.nd H root).1 := ⟨_, rfl⟩
  rw [← htN] at hR hsm
  by_cases hk : (Sh.nd H root).2 = []
  case neg =>
   rw [if_neg (fun h => hk h.2)] at hR
   subst hR
   have hkl : 0 < (Sh.nd H root).2.length := List.length_pos_iff.mpr hk
   have hkd : decide (0 < ((Sh.nd H root).2.length : Int)) = true := decide_eq_true (by omega)
   have hkd2 : decide (0 < (Sh.nd H root).2.length) = true := decide_eq_true hkl
   clear hC hsm ht
   go_enter Tryz.func68, Tryz.ntmps68
   go_wp2_with fail
   refine (hnc.out).mono ?_
   rintro e w1 ⟨⟨A0, c0, A1, c1, l0, l1, rfl, hl, -, h1, -, h2⟩, hB1⟩
   obtain ⟨rfl, rfl⟩ := hl htt.out
   rw [htt.out]
   have hB2 := Lib.hid (hB1.alloc hB1.size (.cells #[.slice A0 (Sh.nd H root).1.length c0, .slice A1 (Sh.nd H root).2.length c1] 95))
   clear h1 h2 hB1
   generalize (Sh.nd H root).2.length = n1 at *
   go_wp2
   go_ret2
   exact ⟨ElGot.nil _, hB2.out⟩
  case pos =>
   rw [if_pos ⟨ht, hk⟩] at hR
   have hkh := Lib.hid hk
   have htNh := Lib.hid htN
   unfold Sh.hashR at hR
   by_cases hp : Sh.pow2 t.length = true
   case neg =>
    rw [if_neg hp] at hR
    subst hR
    have hp' : Sh.pow2 t.length = false := by simpa using hp
    have hsl := Lib.hid (fun W => slotted_calls t.length hp' W)
    obtain ⟨n, hn⟩ : ∃ n, n = t.length := ⟨_, rfl⟩
    rw [← hn] at hsl
    replace hn := Lib.hid hn
    clear hC hsm ht hk htN hp hp'
    go_enter Tryz.func68, Tryz.ntmps68
    go_wp2_with fail
    refine (hnc.out).mono ?_
    rintro e w1 ⟨⟨A0, c0, A1, c1, l0, l1, rfl, hl, -, h1, -, h2⟩, hB1⟩
    obtain ⟨rfl, rfl⟩ : l0 = t ∧ l1 = [] := by have := hl htt.out; exact ⟨this.1.trans htNh.out.symm, this.2.trans hkh.out⟩
    rw [htt.out, ← hn.out]
    have hB2 := Lib.hid (hB1.alloc hB1.size (.cells #[.slice A0 n c0, .slice A1 ([] : List Int).length c1] 95))
    clear h1 h2 hB1 hl
    go_wp2_with fail
    refine (hsl.out _).mono ?_
    rintro e w2 ⟨rfl, nd, rfl⟩
    go_wp2
    go_ret2
    exact ⟨ElGot.nil _, pw_below_drewN hB2.out nd⟩
   case pos =>
    rw [if_pos hp] at hR
    have hsl := Lib.hid (fun W => slotted_calls t.length hp W)
    have hp8 := (Sh.pow2_pos hp).1
    have hp9 := (Sh.pow2_pos hp).2
    obtain ⟨n, hn⟩ : ∃ n, n = t.length := ⟨_, rfl⟩
    rw [← hn] at hsl hsm hp8 hp9 hR
    obtain ⟨D, hD⟩ : ∃ D, D = Sh.hashD t n 0 [] 0 := ⟨_, rfl⟩
    rw [← hD] at hR
    replace hR := Lib.hid hR
    replace hD := Lib.hid hD
    replace hn := Lib.hid hn
    clear hC ht hk htN hp
    go_enter Tryz.func68, Tryz.ntmps68
    go_wp2_with fail
    refine (hnc.out).mono ?_
    rintro e w1 ⟨⟨A0, c0, A1, c1, l0, l1, rfl, hl, hc0, h1, -, h2⟩, hB1⟩
    obtain ⟨rfl, rfl⟩ : l0 = t ∧ l1 = [] := by have := hl htt.out; exact ⟨this.1.trans htNh.out.symm, this.2.trans hkh.out⟩
    rw [htt.out, ← hn.out]
    rw [← hn.out] at h1 hc0
    obtain ⟨W2, hW2⟩ : ∃ W2, W2 = w1.alloc (.cells #[.slice A0 n c0, .slice A1 0 c1] 95) := ⟨_, rfl⟩
    obtain ⟨ad0, rfl, -⟩ := at_int h1 0 (by omega) (by omega)
    have hB2 := Lib.hid (show Below w.heap.size w W2 by rw [hW2]; exact hB1.alloc hB1.size _)
    obtain ⟨g5, hg5⟩ : ∃ g5, g5 = w1.heap.size := ⟨_, rfl⟩
    have hbox := Lib.hid (show BoxAt W2 g5 ad0 n c0 (.slice A1 0 c1) l0 from ⟨by rw [hW2, hg5]; exact heap_alloc_new w1 _, by rw [hW2]; exact Kd.C_alloc h1 _⟩)
    clear h1 h2 hB1 hl
    go_wp2_with fail
    refine (hsl.out _).mono ?_
    rintro e w2 ⟨rfl, nd, rfl⟩
    rw [← hW2, ← hg5]
    replace hg5 := Lib.hid hg5
    replace hW2 := Lib.hid hW2
    go_wp2
    have hw0 := Lib.hid (show Below W2.heap.size W2 (W2.drewN nd) from pw_below_drewN (Below.refl _ _) nd)
    have hcall := Lib.hid (fun (W : World) (hW : Below W2.heap.size W2 W) (x : Int) (hx : 0 ≤ x) (hx1 : x ≤ 1000000) => way_calls l0 x (some ad0) c0 W (by rw [← hn.out]; exact Kd.C_below hbox.out.nums hW) (by rw [← hn.out]; exact hc0) (by rw [← hn.out]; exact hsm) (by rw [← hn.out]; omega) hx hx1)
    rw [← hn.out] at hcall
    go_loopg [8, 9, 10] n (fun g v8 v9 v10 wr => ∃ (i many : Nat) (out : List Int) (A8 : Option Addr) (c8 : Nat), v10 = .int .i64 i ∧ i ≤ n ∧ Hid (g + i = n) ∧ v8 = .slice A8 out.length c8 ∧ Hid (out.length ≤ c8) ∧ Hid (Kd.C kI wr A8 out.length out) ∧ v9 = .int .i64 many ∧ many ≤ i ∧ out.length ≤ i ∧ Hid (D = Sh.hashD l0 (n - i) i out many) ∧ Hid (Below W2.heap.size W2 wr))
    case atStart => exact ⟨0, 0, [], none, 0, rfl, Nat.zero_le _, Lib.hid rfl, rfl, Lib.hid (Nat.le_refl _), Lib.hid (C_nil _), rfl, Nat.le_refl _, Nat.le_refl _, hD, hw0⟩
    case round =>
     obtain ⟨i, many, out, A8, c8, rfl, hi, hg, rfl, hc8, hC8, rfl, hmi, hoi, hDi, hBr⟩ := hrel
     obtain ⟨cv, hcv⟩ : ∃ cv : Value, cv = .slice (some ad0) n c0 := ⟨_, rfl⟩
     have k0 : ∀ W, Below W2.heap.size W2 W → W.cell? ⟨g5, 0, none⟩ = some (.slice (some ad0) n c0) := fun W hW => hbox.out.cell hW
     have hk0 := k0 _ hBr.out
     clear hcv
     by_cases hlt : i < n
     case neg =>
      obtain rfl : i = n := by omega
      have hDe : Hid (D = some (out, many)) := Lib.hid (by rw [hDi.out, Nat.sub_self]; rfl)
      have hw2m : IntKind.i64.wrap (2 * (many : Int)) = 2 * (many : Int) := IntWalk.i64_in _ (by omega)
      have hfin : Hid (R = if 2 * many ≤ i then some out else none) := Lib.hid (by
       have h9 := hR.out
       rw [hDe.out] at h9
       exact h9)
      have hBf := Lib.hid (fun n => (hB2.out.trans ((pw_below_drewN hBr.out n).mono (hB2.out.size)) : Below w.heap.size w (wr.drewN n)))
      have hC8n := Lib.hid (fun n => (Kd.C_drewN hC8.out n : Kd.C kI (wr.drewN n) A8 out.length out))
      by_cases hm2 : 2 * (many : Int) ≤ (i : Int)
      ·obtain rfl : R = some out := by rw [hfin.out]; exact if_pos (by omega)
       have hmb : decide (2 * (many : Int) ≤ (i : Int)) = true := decide_eq_true hm2
       clear hm2 k0 hDi hD hR
       go_wp2
       go_quiet (fail)
       go_wp2
       go_ret2
       exact ⟨⟨A8, c8, out, rfl, hc8.out, hC8n.out _, fun m hm => Option.some.inj hm⟩, hBf.out _⟩
      ·obtain rfl : R = none := by rw [hfin.out]; exact if_neg (by omega)
       have hmb : decide (2 * (many : Int) ≤ (i : Int)) = false := decide_eq_false hm2
       clear hm2 k0 hDi hD hR
       go_wp2
       go_quiet (fail)
       go_wp2
       go_ret2
       exact ⟨⟨A8, c8, out, rfl, hc8.out, hC8n.out _, fun m hm => by cases hm⟩, hBf.out _⟩
     case pos =>
      have hDg : Hid (D = Sh.hashD l0 (n - (i + 1) + 1) i out many) := Lib.hid (by rw [hDi.out]; congr 1; omega)
      have hst : ∀ g, Sh.hashD l0 (g + 1) i out many = if ¬ (-1 ≤ Sh.gi l0 i ∧ Sh.gi l0 i ≤ 1023) then none else if Sh.gi l0 i = -1 then Sh.hashD l0 g (i + 1) out many else if Sh.lastW l0 (Sh.gi l0 i) ≠ i ∨ out.contains (Sh.gi l0 i) = true then none else Sh.hashD l0 g (i + 1) (Sh.withF out (Sh.gi l0 i)) (many + 1) := fun g => rfl
      have hDs := hDg.out
      rw [hst] at hDs
      have e0 := hbox.out.get hBr.out i hlt
      obtain ⟨x, hx⟩ : ∃ x, x = Sh.gi l0 i := ⟨_, rfl⟩
      rw [← hx] at hDs e0
      replace hDs := Lib.hid hDs
      replace hx := Lib.hid hx
      clear hst hDg hDi hD
      have hBw := Lib.hid (hB2.out.trans (hBr.out.mono hB2.out.size))
      by_cases hin : -1 ≤ x ∧ x ≤ 1023
      case neg =>
       have hDn : Hid (D = none) := Lib.hid (by rw [hDs.out]; exact if_pos hin)
       obtain rfl : R = none := by
        have h9 := hR.out
        rw [hDn.out] at h9
        exact h9
       have hic := Lib.hid (fun W => in_calls x (-1) 1023 (b := false) (by rw [Bool.and_eq_false_iff, decide_eq_false_iff_not, decide_eq_false_iff_not]; omega) W)
       clear hin k0 hDs
       go_wp2_with fail
       refine (hic.out _).mono ?_
       rintro e w3 ⟨rfl, rfl⟩
       go_wp2
       go_ret2
       exact ⟨ElGot.nil _, hBw.out⟩
      case pos =>
       have hic := Lib.hid (fun W => in_calls x (-1) 1023 (b := true) (by rw [decide_eq_true hin.1, decide_eq_true hin.2]; rfl) W)
       replace hDs := Lib.hid (hDs.out.trans (if_neg (fun h => h hin)))
       by_cases hx1 : x = -1
       case pos =>
        have hD2 : Hid (D = Sh.hashD l0 (n - (i + 1)) (i + 1) out many) := Lib.hid (by rw [hDs.out]; exact if_pos hx1)
        have hxb : (x == -1) = true := beq_iff_eq.mpr hx1
        clear hin k0 hDs hx1
        go_wp2_with fail
        refine (hic.out _).mono ?_
        rintro e w3 ⟨rfl, rfl⟩
        go_wp2
        go_roundg (n - (i + 1))
        case measure => have := hg.out; omega
        case rel => exact ⟨i + 1, many, out, A8, c8, by go_num, by omega, Lib.hid (by omega), rfl, hc8, hC8, rfl, by omega, by omega, hD2, hBr⟩
       case neg =>
        replace hDs := Lib.hid (hDs.out.trans (if_neg hx1))
        have hxb : (x == -1) = false := beq_eq_false_iff_ne.mpr hx1
        obtain ⟨hin0, hin1⟩ := hin
        have hx0 : 0 ≤ x := by omega
        have hBrd := Lib.hid (show Below W2.heap.size W2 wr.drew from hBr.out.drew)
        have hwc := Lib.hid (fun (W : World) (hW : Below W2.heap.size W2 W) => hcall.out W hW x hx0 (by omega))
        obtain ⟨q, hq⟩ : ∃ q, q = Sh.lastW l0 x := ⟨_, rfl⟩
        have hqg : Hid (Sh.gi (PAll.wayL l0 x) (Sh.place l0 x) = (q : Int)) := Lib.hid (by rw [hq]; exact wayL_last l0 x)
        have hwl : Hid ((PAll.wayL l0 x).length = Sh.place l0 x + 1) := Lib.hid (wayL_len l0 x)
        have hPl : Sh.place l0 x < n := by rw [hn.out]; exact place_lt l0 x (by rw [← hn.out]; omega)
        rw [← hq] at hDs
        replace hq := Lib.hid hq
        obtain ⟨P, hP⟩ : ∃ P, P = Sh.place l0 x := ⟨_, rfl⟩
        rw [← hP] at hqg hwl hPl
        replace hP := Lib.hid hP
        obtain ⟨V, hV⟩ : ∃ V, V = PAll.wayL l0 x := ⟨_, rfl⟩
        rw [← hV] at hqg hwl hwc
        replace hV := Lib.hid hV
        have hkk := Lib.hid (fun (W : World) (hW : Below W2.heap.size W2 W) => (⟨hW, k0 W hW, hbox.out.get hW i hlt⟩ : Below W2.heap.size W2 W ∧ W.cell? ⟨g5, 0, none⟩ = some (.slice (some ad0) n c0) ∧ W.cell? (ad0.add i) = some (.int .i64 (Sh.gi l0 i))))
        rw [← hx.out] at hkk
        have hsr := Lib.hid hBr.out.size
        have hwi : IntKind.i64.wrap ((i : Int) + 1) = (i : Int) + 1 := IntWalk.i64_in _ (by omega)
        clear k0 hx1 hin1
        go_wp2_with fail
        refine (hic.out _).mono ?_
        rintro e w3 ⟨rfl, rfl⟩
        go_wp2
        clear hwi
        go_region_held3 (fun W' => Below W2.heap.size W2 W' ∧ W'.cell? ⟨g5, 0, none⟩ = some (.slice (some ad0) n c0) ∧ W'.cell? (ad0.add i) = some (.int .i64 x))
         (first
          | exact hkk.out _ (by assumption)
          | exact hkk.out _ hBrd.out
          | fail)
         (first
          | (go_at_call 71; refine (hwc.out _ ?hl).mono ?_; (case hl => first | exact hBrd.out | assumption); rintro e w4 ⟨⟨Aw, cw, rfl, hcw, hCw⟩, hb4⟩; have hB4 : Below W2.heap.size W2 w4 := Below.trans hBrd.out (hb4.mono hsr.out); replace hcw := Lib.hid hcw; replace hCw := Lib.hid hCw; replace hb4 := Lib.hid hb4))
        replace hB4 := Lib.hid (show Below W2.heap.size W2 w4 from by assumption)
        obtain ⟨adw, rfl, hwP⟩ := at_int hCw.out (P : Int) (by omega) (by rw [hwl.out]; omega)
        rw [Int.toNat_natCast, hqg.out] at hwP
        have hVl : V.length = P + 1 := hwl.out
        rw [hVl]
        replace hVl := Lib.hid hVl
        obtain ⟨kw0, kw1, kw2⟩ := hkk.out w4 hB4.out
        have hwp : IntKind.i64.wrap (((P + 1 : Nat) : Int) - 1) = (P : Int) := by rw [IntWalk.i64_in _ (by omega)]; omega
        have hwp2 : IntKind.i64.wrap ((P : Int) + 1 - 1) = (P : Int) := by rw [IntWalk.i64_in _ (by omega)]; omega
        have hC84 := Lib.hid (Kd.C_below (Kd.C_drew hC8.out) hb4.out)
        have hBw4 := Lib.hid (hB2.out.trans (hB4.out.mono hB2.out.size))
        by_cases hqi : q = i
        case neg =>
         have hDn : Hid (D = none) := Lib.hid (by rw [hDs.out]; exact if_pos (.inl hqi))
         obtain rfl : R = none := by
          have h9 := hR.out
          rw [hDn.out] at h9
          exact h9
         have hqb : ((q : Int) != (i : Int)) = true := bne_iff_ne.mpr (by omega)
         clear hqi hDs
         go_wp2
         go_ret2
         exact ⟨ElGot.nil _, hBw4.out⟩
        case pos =>
         subst hqi
         have hqb : ((q : Int) != (q : Int)) = false := bne_self_eq_false _
         cases hct : out.contains x
         case true =>
          have hDn : Hid (D = none) := Lib.hid (by rw [hDs.out]; exact if_pos (.inr hct))
          obtain rfl : R = none := by
           have h9 := hR.out
           rw [hDn.out] at h9
           exact h9
          have hlc := Lib.hid (fun W hW => Listed_calls out x A8 c8 W hW hc8.out (by omega) hct)
          clear hDs hct
          go_wp2_with fail
          refine (hlc.out _ hC84.out).mono ?_
          rintro e w5 ⟨rfl, nq, rfl⟩
          go_wp2
          go_ret2
          exact ⟨ElGot.nil _, pw_below_drewN hBw4.out nq⟩
         case false =>
          have hD2 : Hid (D = Sh.hashD l0 (n - (q + 1)) (q + 1) (Sh.withF out x) (many + 1)) := Lib.hid (by rw [hDs.out]; exact if_neg (fun h => h.elim (fun h => h rfl) (fun h => by rw [hct] at h; cases h)))
          have hlc := Lib.hid (fun W hW => Listed_calls out x A8 c8 W hW hc8.out (by omega) hct)
          have hwi := Lib.hid (fun W hW => with_calls out x A8 c8 W hW hc8.out (by omega))
          have hwfl := Sh.withF_len out x
          clear hDs hct
          go_wp2_with fail
          refine (hlc.out _ hC84.out).mono ?_
          rintro e w5 ⟨rfl, nq, rfl⟩
          have hC85 := Lib.hid (Kd.C_drewN hC84.out nq)
          have hB5 := Lib.hid (pw_below_drewN hB4.out nq)
          have hs5 := Lib.hid hB5.out.size
          go_wp2_with fail
          refine (hwi.out _ hC85.out).mono ?_
          rintro e w6 ⟨⟨A9, c9, rfl, hc9, hC9⟩, hB6⟩
          have hBr6 := Lib.hid (hB5.out.trans (hB6.mono hs5.out))
          replace hc9 := Lib.hid hc9
          replace hC9 := Lib.hid hC9
          obtain ⟨O, hO⟩ : ∃ O, O = Sh.withF out x := ⟨_, rfl⟩
          rw [← hO] at hC9 hc9 hD2 hwfl ⊢
          replace hO := Lib.hid hO
          clear hB6
          go_wp2
          go_roundg (n - (q + 1))
          case measure => have := hg.out; omega
          case rel => exact ⟨q + 1, many + 1, O, A9, c9, by go_num, by omega, Lib.hid (by omega), rfl, hc9, hC9, by go_num, by omega, by omega, hD2, hBr6⟩
end Go.Proofs.YtbfedeedicnedaaGreat
end
