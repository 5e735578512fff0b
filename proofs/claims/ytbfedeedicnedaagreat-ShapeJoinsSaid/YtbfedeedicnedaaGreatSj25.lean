/-
  Texts of this claim: ShMk.
-/
import Derived.Test.YtbfedeedicnedaaGreatSj24
set_option linter.unusedVariables false
set_option linter.unusedSimpArgs false
set_option maxHeartbeats 8000000
set_option maxRecDepth 100000
section
namespace Go.Proofs.YtbfedeedicnedaaGreat.Sh
theorem there_mono {h : Hp} (e : Hp) {k : Int} (ht : there h k = true) : there (h ++ e) k = true := by
 rw [there_iff] at ht ⊢
 rw [List.length_append]
 omega
theorem nd_mono {h : Hp} (e : Hp) {k : Int} (ht : there h k = true) : nd (h ++ e) k = nd h k := by
 rw [there_iff] at ht
 unfold nd
 rw [List.getD_eq_getElem?_getD, List.getD_eq_getElem?_getD, List.getElem?_append_left (by omega)]
theorem page_mono {h : Hp} (e : Hp) {k : Int} {b : Nat} {l : List Int} (hp : page h k b = some l) : page (h ++ e) k b = some l := by
 unfold page at hp ⊢
 split at hp
 ·rename_i c
  have ht : there h k = true := by
   rw [Bool.and_eq_true] at c
   exact c.1
  rw [nd_mono e ht, there_mono e ht]
  rw [ht] at c
  rw [if_pos c]
  exact hp
 ·cases hp
theorem walkTrie_mono {h : Hp} (e : Hp) : ∀ (g : Nat) {r b : Int} {l : List Int}, walkTrie h g r b = some l → walkTrie (h ++ e) g r b = some l := by
 intro g
 induction g with
 | zero =>
  intro r b l hw
  unfold walkTrie at hw ⊢
  rw [Option.map_eq_some_iff] at hw ⊢
  obtain ⟨p, hp, he⟩ := hw
  exact ⟨p, page_mono e hp, he⟩
 | succ g ih =>
  intro r b l hw
  unfold walkTrie at hw ⊢
  split at hw
  ·rename_i c
   have ht : there h r = true := by
    rw [Bool.and_eq_true] at c
    exact c.1
   rw [nd_mono e ht, there_mono e ht]
   rw [ht] at c
   rw [if_pos c]
   rw [Option.bind_eq_some_iff] at hw ⊢
   obtain ⟨out, ho, hr⟩ := hw
   refine ⟨out, ?_, hr⟩
   have key : ∀ (ds : List Nat) (acc acc' : Option (List Int)) (o : List Int), (∀ x, acc = some x → acc' = some x) → ds.foldl (fun acc d => acc.bind fun out => if gi (nd h r).2 d = -1 then some out else (walkTrie h g (gi (nd h r).2 d) (4 * b + d)).map fun l => out ++ l) acc = some o →
     ds.foldl (fun acc d => acc.bind fun out => if gi (nd h r).2 d = -1 then some out else (walkTrie (h ++ e) g (gi (nd h r).2 d) (4 * b + d)).map fun l => out ++ l) acc' = some o := by
    intro ds
    induction ds with
    | nil => intro acc acc' o hx ho; exact hx o ho
    | cons d ds ih2 =>
     intro acc acc' o hx ho
     refine ih2 _ _ o ?_ ho
     intro x hx2
     rw [Option.bind_eq_some_iff] at hx2 ⊢
     obtain ⟨y, hy, h2⟩ := hx2
     refine ⟨y, hx y hy, ?_⟩
     split at h2
     ·rename_i c2; rw [if_pos c2]; exact h2
     ·rename_i c2
      rw [if_neg c2]
      rw [Option.map_eq_some_iff] at h2 ⊢
      obtain ⟨z, hz, he⟩ := h2
      exact ⟨z, ih hz, he⟩
   exact key _ _ _ _ (fun x hx => hx) ho
  ·cases hw
theorem nd_last (h : Hp) (n : Nd) : nd (h ++ [n]) h.length = n ∧ there (h ++ [n]) h.length = true := by
 constructor
 ·unfold nd
  rw [List.getD_eq_getElem?_getD]
  simp
 ·rw [there_iff, List.length_append, List.length_singleton]
  omega
theorem ones_rise (w b : Nat) : (ones w b).Pairwise (· < ·) ∧ ∀ y, y ∈ ones w b ↔ ∃ i : Nat, y = (i : Int) ∧ i < b ∧ w.testBit i = true := by
 unfold ones
 constructor
 ·rw [List.pairwise_map]
  refine (List.Pairwise.filter _ List.pairwise_lt_range).imp ?_
  intro a b hab
  exact Int.ofNat_lt.2 hab
 ·intro y
  rw [List.mem_map]
  constructor
  ·rintro ⟨i, hi, rfl⟩
   rw [List.mem_filter, List.mem_range] at hi
   exact ⟨i, rfl, hi.1, hi.2⟩
  ·rintro ⟨i, rfl, h1, h2⟩
   exact ⟨i, by rw [List.mem_filter, List.mem_range]; exact ⟨h1, h2⟩, rfl⟩
theorem wordT_bit (l : List Int) (i : Nat) : (wordT l).testBit i = true ↔ ∃ x ∈ l, (digT x 0).toNat = i := by
 unfold wordT
 suffices h : ∀ (l : List Int) (w : Nat), (l.foldl (fun w x => w ||| 2 ^ (digT x 0).toNat) w).testBit i = true ↔ w.testBit i = true ∨ ∃ x ∈ l, (digT x 0).toNat = i by
  rw [h l 0]
  simp
 intro l
 induction l with
 | nil => intro w; simp
 | cons x l ih =>
  intro w
  rw [List.foldl_cons, ih]
  rw [Nat.testBit_or, Nat.testBit_two_pow]
  simp only [Bool.or_eq_true, decide_eq_true_eq, List.mem_cons]
  constructor
  ·rintro ((h | h) | ⟨y, hy, h⟩)
   ·exact .inl h
   ·exact .inr ⟨x, .inl rfl, h⟩
   ·exact .inr ⟨y, .inr hy, h⟩
  ·rintro (h | ⟨y, rfl | hy, h⟩)
   ·exact .inl (.inl h)
   ·exact .inl (.inr h)
   ·exact .inr ⟨y, hy, h⟩
def Kid (h : Hp) (g : Nat) (r b : Int) (l : List Int) : Prop := (l = [] ∧ r = -1) ∨ (l ≠ [] ∧ r ≠ -1 ∧ walkTrie h g r b = some l)
theorem Kid.mono {h : Hp} (e : Hp) {g : Nat} {r b : Int} {l : List Int} (k : Kid h g r b l) : Kid (h ++ e) g r b l := by
 rcases k with k | ⟨h1, h2, h3⟩
 ·exact .inl k
 ·exact .inr ⟨h1, h2, walkTrie_mono e g h3⟩
theorem run_spec (g : Nat) (d : Int) : ∀ (l : List Int), l.Pairwise (fun x y => digT x g ≤ digT y g) → (∀ x ∈ l, d ≤ digT x g) → (∀ x ∈ l.take (run g d l), digT x g = d) ∧ (∀ x ∈ l.drop (run g d l), d + 1 ≤ digT x g) := by
 intro l
 induction l with
 | nil => intro _ _; exact ⟨fun x hx => (by cases hx), fun x hx => (by cases hx)⟩
 | cons x l ih =>
  intro hp hd
  rw [List.pairwise_cons] at hp
  have e : run g d (x :: l) = if digT x g = d then 1 + run g d l else 0 := rfl
  by_cases c : digT x g = d
  ·rw [if_pos c] at e
   have h1 := ih hp.2 (fun y hy => hd y (List.mem_cons_of_mem _ hy))
   rw [e, Nat.add_comm, List.take_succ_cons, List.drop_succ_cons]
   refine ⟨fun y hy => ?_, h1.2⟩
   rcases List.mem_cons.1 hy with rfl | hy
   ·exact c
   ·exact h1.1 y hy
  ·rw [if_neg c] at e
   rw [e]
   refine ⟨fun y hy => (by cases hy), fun y hy => ?_⟩
   rcases List.mem_cons.1 hy with rfl | hy
   ·have := hd _ (List.mem_cons_self); omega
   ·have := hd _ (List.mem_cons_self)
    have := hp.1 y hy
    omega
theorem pow4 (g : Nat) : (0 : Int) < ((4 ^ g : Nat) : Int) := by
 have := Nat.pow_pos (a := 4) (n := g) (by omega)
 omega
theorem digT_le {x y b : Int} {g : Nat} (hx : x / (4 ^ (g + 1) : Nat) = b) (hy : y / (4 ^ (g + 1) : Nat) = b) (h : x < y) : digT x g ≤ digT y g := by
 have hq : ∀ z : Int, z / (4 ^ (g + 1) : Nat) = z / (4 ^ g : Nat) / 4 := fun z => by
  rw [Int.ediv_ediv_of_nonneg (Int.le_of_lt (pow4 g))]
  congr 1
 rw [hq] at hx hy
 have hle : x / (4 ^ g : Nat) ≤ y / (4 ^ g : Nat) := Int.ediv_le_ediv (pow4 g) (Int.le_of_lt h)
 unfold digT
 omega
theorem digT_next {x b : Int} {g : Nat} (hx : x / (4 ^ (g + 1) : Nat) = b) : x / (4 ^ g : Nat) = 4 * b + digT x g := by
 have hq : x / (4 ^ (g + 1) : Nat) = x / (4 ^ g : Nat) / 4 := by
  rw [Int.ediv_ediv_of_nonneg (Int.le_of_lt (pow4 g))]
  congr 1
 rw [hq] at hx
 unfold digT
 omega
theorem step_ok {g : Nat} {b : Int} (ih : ∀ (h : Hp) (b : Int) (l : List Int), l.Pairwise (· < ·) → (∀ x ∈ l, x / (4 ^ (g + 1) : Nat) = b) → ∃ e, (buildT g h l).1 = h ++ e ∧ Kid (h ++ e) g (buildT g h l).2 b l)
  (s : Hp × List Int × List Int) (d : Int) (hp : s.2.2.Pairwise (· < ·)) (hb : ∀ x ∈ s.2.2, x / (4 ^ (g + 2) : Nat) = b) (hd : ∀ x ∈ s.2.2, d ≤ digT x (g + 1)) :
  ∃ e p r rest, s.2.2 = p ++ rest ∧ (stepT (buildT g) (g + 1) s d) = (s.1 ++ e, s.2.1 ++ [r], rest) ∧ Kid (s.1 ++ e) g r (4 * b + d) p ∧ (∀ x ∈ rest, d + 1 ≤ digT x (g + 1)) := by
 have hdig : s.2.2.Pairwise (fun x y => digT x (g + 1) ≤ digT y (g + 1)) := by
  refine List.Pairwise.imp_of_mem ?_ hp
  intro x y hx hy hlt
  exact digT_le (hb x hx) (hb y hy) hlt
 have hs := run_spec (g + 1) d s.2.2 hdig hd
 obtain ⟨e, he, hk⟩ := ih s.1 (4 * b + d) (s.2.2.take (run (g + 1) d s.2.2)) (hp.sublist (List.take_sublist _ _)) (fun x hx => by
  have h1 := digT_next (hb x (List.mem_of_mem_take hx))
  rw [hs.1 x hx] at h1
  exact h1)
 refine ⟨e, s.2.2.take (run (g + 1) d s.2.2), _, s.2.2.drop (run (g + 1) d s.2.2), (List.take_append_drop _ _).symm, ?_, hk, hs.2⟩
 unfold stepT
 rw [he]
theorem build_ok : ∀ (g : Nat) (h : Hp) (b : Int) (l : List Int), l.Pairwise (· < ·) → (∀ x ∈ l, x / (4 ^ (g + 1) : Nat) = b) → ∃ e, (buildT g h l).1 = h ++ e ∧ Kid (h ++ e) g (buildT g h l).2 b l := by
 intro g
 induction g with
 | zero =>
  intro h b l hp hb
  unfold buildT
  by_cases h0 : l.length = 0
  ·rw [if_pos h0]
   exact ⟨[], by simp, .inl ⟨List.length_eq_zero_iff.1 h0, rfl⟩⟩
  ·rw [if_neg h0]
   refine ⟨_, rfl, .inr ⟨fun e => h0 (by rw [e]; rfl), by show ((h.length : Nat) : Int) ≠ -1; omega, ?_⟩⟩
   have hw := word_lt l
   have hb' : ∀ x ∈ l, x = 4 * b + digT x 0 := fun x hx => by
    have := digT_next (g := 0) (hb x hx)
    simpa using this
   have hw0 : wordT l ≠ 0 := by
    intro e
    obtain ⟨x, hx⟩ : ∃ x, x ∈ l := by
     cases l with
     | nil => exact absurd rfl h0
     | cons x l => exact ⟨x, List.mem_cons_self⟩
    have := (wordT_bit l (digT x 0).toNat).2 ⟨x, hx, rfl⟩
    rw [e, Nat.zero_testBit] at this
    cases this
   obtain ⟨hn, ht⟩ := nd_last h ([(wordT l : Int)], [])
   have hpg : page (h ++ [([(wordT l : Int)], [])]) h.length 4 = some (ones (wordT l) 4) := by
    unfold page
    rw [hn, ht, if_pos]
    ·rfl
    ·have h1 : (1 : Int) ≤ (wordT l : Int) := by omega
     have h2 : (wordT l : Int) < ((2 ^ 4 : Nat) : Int) := by omega
     show (true && (true && (true && (decide ((1 : Int) ≤ (wordT l : Int)) && decide ((wordT l : Int) < ((2 ^ 4 : Nat) : Int)))))) = true
     rw [decide_eq_true h1, decide_eq_true h2]
     rfl
   show (page _ _ 4).map _ = _
   rw [hpg]
   show some _ = some l
   congr 1
   have hr := ones_rise (wordT l) 4
   refine rise_ext ?_ hp ?_
   ·rw [List.pairwise_map]
    exact hr.1.imp (fun h => by omega)
   ·intro y
    rw [List.mem_map]
    constructor
    ·rintro ⟨d, hd, rfl⟩
     obtain ⟨i, rfl, h1, h2⟩ := (hr.2 d).1 hd
     obtain ⟨x, hx, hxi⟩ := (wordT_bit l i).1 h2
     have h3 := hb' x hx
     have h4 := digT_lt x 0
     have : 4 * b + (i : Int) = x := by omega
     rw [this]
     exact hx
    ·intro hy
     have h4 := digT_lt y 0
     have h3 := hb' y hy
     exact ⟨digT y 0, (hr.2 _).2 ⟨(digT y 0).toNat, by omega, by omega, (wordT_bit l _).2 ⟨y, hy, rfl⟩⟩, by omega⟩
 | succ g ih =>
  intro h b l hp hb
  unfold buildT
  by_cases h0 : l.length = 0
  ·rw [if_pos h0]
   exact ⟨[], by simp, .inl ⟨List.length_eq_zero_iff.1 h0, rfl⟩⟩
  ·rw [if_neg h0]
   have hne : l ≠ [] := fun e => h0 (by rw [e]; rfl)
   obtain ⟨e0, p0, r0, l1, hl0, hs0, k0, hd1⟩ := step_ok (b := b) ih (h, [], l) 0 hp hb (fun x _ => (digT_lt x (g + 1)).1)
   have hb1 : ∀ x ∈ l1, x / (4 ^ (g + 2) : Nat) = b := fun x hx => hb x (by show x ∈ l; rw [show l = p0 ++ l1 from hl0]; exact List.mem_append_right _ hx)
   have hp1 : l1.Pairwise (· < ·) := by
    have := hp
    rw [show l = p0 ++ l1 from hl0] at this
    exact (List.pairwise_append.1 this).2.1
   obtain ⟨e1, p1, r1, l2, hl1, hs1, k1, hd2⟩ := step_ok (b := b) ih (h ++ e0, [] ++ [r0], l1) 1 hp1 hb1 hd1
   have hb2 : ∀ x ∈ l2, x / (4 ^ (g + 2) : Nat) = b := fun x hx => hb1 x (by rw [show l1 = p1 ++ l2 from hl1]; exact List.mem_append_right _ hx)
   have hp2 : l2.Pairwise (· < ·) := by
    have := hp1
    rw [show l1 = p1 ++ l2 from hl1] at this
    exact (List.pairwise_append.1 this).2.1
   obtain ⟨e2, p2, r2, l3, hl2, hs2, k2, hd3⟩ := step_ok (b := b) ih (h ++ e0 ++ e1, [] ++ [r0] ++ [r1], l2) 2 hp2 hb2 hd2
   have hb3 : ∀ x ∈ l3, x / (4 ^ (g + 2) : Nat) = b := fun x hx => hb2 x (by rw [show l2 = p2 ++ l3 from hl2]; exact List.mem_append_right _ hx)
   have hp3 : l3.Pairwise (· < ·) := by
    have := hp2
    rw [show l2 = p2 ++ l3 from hl2] at this
    exact (List.pairwise_append.1 this).2.1
   obtain ⟨e3, p3, r3, l4, hl3, hs3, k3, hd4⟩ := step_ok (b := b) ih (h ++ e0 ++ e1 ++ e2, [] ++ [r0] ++ [r1] ++ [r2], l3) 3 hp3 hb3 hd3
   have hl4 : l4 = [] := by
    cases l4 with
    | nil => rfl
    | cons x l4 => have := hd4 x (List.mem_cons_self); have := digT_lt x (g + 1); omega
   have hfold : [0, 1, 2, 3].foldl (stepT (buildT g) (g + 1)) (h, [], l) = (h ++ e0 ++ e1 ++ e2 ++ e3, [r0, r1, r2, r3], l4) := by
    simp only [List.foldl_cons, List.foldl_nil]
    rw [hs0, hs1, hs2, hs3]
    rfl
   rw [hfold]
   have hlist : l = p0 ++ (p1 ++ (p2 ++ p3)) := by
    have a0 : l = p0 ++ l1 := hl0
    have a1 : l1 = p1 ++ l2 := hl1
    have a2 : l2 = p2 ++ l3 := hl2
    have a3 : l3 = p3 ++ l4 := hl3
    rw [a0, a1, a2, a3, hl4, List.append_nil]
   refine ⟨e0 ++ e1 ++ e2 ++ e3 ++ [([], [r0, r1, r2, r3])], by simp [List.append_assoc], .inr ⟨hne, by show (((h ++ e0 ++ e1 ++ e2 ++ e3).length : Nat) : Int) ≠ -1; omega, ?_⟩⟩
   have hH : h ++ (e0 ++ e1 ++ e2 ++ e3 ++ [([], [r0, r1, r2, r3])]) = h ++ e0 ++ e1 ++ e2 ++ e3 ++ [([], [r0, r1, r2, r3])] := by simp [List.append_assoc]
   rw [hH]
   obtain ⟨hn, ht⟩ := nd_last (h ++ e0 ++ e1 ++ e2 ++ e3) ([], [r0, r1, r2, r3])
   have K0 := ((((k0.mono e1).mono e2).mono e3).mono [([], [r0, r1, r2, r3])])
   have K1 := (((k1.mono e2).mono e3).mono [([], [r0, r1, r2, r3])])
   have K2 := ((k2.mono e3).mono [([], [r0, r1, r2, r3])])
   have K3 := (k3.mono [([], [r0, r1, r2, r3])])
   obtain ⟨Z, hZ⟩ : ∃ Z, Z = h ++ e0 ++ e1 ++ e2 ++ e3 ++ [([], [r0, r1, r2, r3])] := ⟨_, rfl⟩
   have stepK : ∀ {d : Nat} {r : Int} {p out : List Int}, Kid Z g r (4 * b + d) p → (if r = -1 then some out else (walkTrie Z g r (4 * b + d)).map fun l => out ++ l) = some (out ++ p) := by
    intro d r p out k
    rcases k with ⟨rfl, rfl⟩ | ⟨_, h2, h3⟩
    ·rw [if_pos rfl, List.append_nil]
    ·rw [if_neg h2, h3]; rfl
   show walkTrie _ (g + 1) (((h ++ e0 ++ e1 ++ e2 ++ e3).length : Nat) : Int) b = some l
   rw [← hZ]
   unfold walkTrie
   rw [hZ, hn, ht, ← hZ]
   rw [← hZ] at hn ht
   rw [if_pos (show (true && ((([], [r0, r1, r2, r3]) : Nd).1.length == 0 && (([], [r0, r1, r2, r3]) : Nd).2.length == 4)) = true from rfl)]
   simp only [show List.range 4 = [0, 1, 2, 3] from rfl, List.foldl_cons, List.foldl_nil, Option.bind_some]
   have s0 : (if gi [r0, r1, r2, r3] 0 = -1 then some [] else (walkTrie Z g (gi [r0, r1, r2, r3] 0) (4 * b + (0 : Nat))).map fun l => [] ++ l) = some ([] ++ p0) := stepK (by rw [hZ]; exact K0)
   have s1 : ∀ out, (if gi [r0, r1, r2, r3] 1 = -1 then some out else (walkTrie Z g (gi [r0, r1, r2, r3] 1) (4 * b + (1 : Nat))).map fun l => out ++ l) = some (out ++ p1) := fun out => stepK (by rw [hZ]; exact K1)
   have s2 : ∀ out, (if gi [r0, r1, r2, r3] 2 = -1 then some out else (walkTrie Z g (gi [r0, r1, r2, r3] 2) (4 * b + (2 : Nat))).map fun l => out ++ l) = some (out ++ p2) := fun out => stepK (by rw [hZ]; exact K2)
   have s3 : ∀ out, (if gi [r0, r1, r2, r3] 3 = -1 then some out else (walkTrie Z g (gi [r0, r1, r2, r3] 3) (4 * b + (3 : Nat))).map fun l => out ++ l) = some (out ++ p3) := fun out => stepK (by rw [hZ]; exact K3)
   show Option.bind (Option.bind (Option.bind (Option.bind (if gi [r0, r1, r2, r3] 0 = -1 then some [] else (walkTrie Z g (gi [r0, r1, r2, r3] 0) (4 * b + (0 : Nat))).map fun l => [] ++ l) fun out => (if gi [r0, r1, r2, r3] 1 = -1 then some out else (walkTrie Z g (gi [r0, r1, r2, r3] 1) (4 * b + (1 : Nat))).map fun l => out ++ l)) fun out => (if gi [r0, r1, r2, r3] 2 = -1 then some out else (walkTrie Z g (gi [r0, r1, r2, r3] 2) (4 * b + (2 : Nat))).map fun l => out ++ l)) fun out => (if gi [r0, r1, r2, r3] 3 = -1 then some out else (walkTrie Z g (gi [r0, r1, r2, r3] 3) (4 * b + (3 : Nat))).map fun l => out ++ l)) (fun out => if out.length = 0 then none else some out) = some l
   rw [s0, Option.bind_some, s1, Option.bind_some, s2, Option.bind_some, s3, Option.bind_some]
   have hl' : [] ++ p0 ++ p1 ++ p2 ++ p3 = l := by rw [hlist]; simp [List.append_assoc]
   rw [hl', if_neg h0]
def Few2 (f : Hp → List Int → Hp × Int) (m c : Nat) : Prop := ∀ H l, ∃ e, (f H l).1 = H ++ e ∧ e.length ≤ m * l.length + c
theorem step_few2 {f : Hp → List Int → Hp × Int} {m c : Nat} (hf : Few2 f m c) (g : Nat) (s : Hp × List Int × List Int) (d : Int) : (∃ e, (stepT f g s d).1 = s.1 ++ e ∧ e.length + m * (stepT f g s d).2.2.length ≤ m * s.2.2.length + c) := by
 obtain ⟨e, he, hl⟩ := hf s.1 (s.2.2.take (run g d s.2.2))
 have hr := run_le g d s.2.2
 refine ⟨e, he, ?_⟩
 have h2 : (stepT f g s d).2.2.length = s.2.2.length - run g d s.2.2 := by show (s.2.2.drop _).length = _; rw [List.length_drop]
 rw [h2]
 rw [List.length_take, Nat.min_eq_left hr] at hl
 have : m * run g d s.2.2 + m * (s.2.2.length - run g d s.2.2) = m * s.2.2.length := by rw [← Nat.mul_add]; congr 1; omega
 omega
theorem fold_few2 {f : Hp → List Int → Hp × Int} {m c : Nat} (hf : Few2 f m c) (g : Nat) : ∀ (ds : List Int) (s : Hp × List Int × List Int), (∃ e, (ds.foldl (stepT f g) s).1 = s.1 ++ e ∧ e.length + m * (ds.foldl (stepT f g) s).2.2.length ≤ m * s.2.2.length + ds.length * c) := by
 intro ds
 induction ds with
 | nil => intro s; exact ⟨[], by simp, by simp⟩
 | cons d ds ih =>
  intro s
  obtain ⟨e1, h1, h2⟩ := step_few2 hf g s d
  obtain ⟨e2, k1, k2⟩ := ih (stepT f g s d)
  rw [List.foldl_cons]
  refine ⟨e1 ++ e2, by rw [k1, h1, List.append_assoc], ?_⟩
  rw [List.length_append, List.length_cons, Nat.succ_mul]
  omega
theorem build_few2 {g m c : Nat} (hf : Few2 (buildT g) m c) : Few2 (buildT (g + 1)) m (4 * c + 1) := by
 intro H l
 unfold buildT
 by_cases h : l.length = 0
 ·rw [if_pos h]; exact ⟨[], by simp, by simp⟩
 ·rw [if_neg h]
  obtain ⟨e, h1, h2⟩ := fold_few2 hf (g + 1) [0, 1, 2, 3] (H, [], l)
  refine ⟨e ++ [_], by rw [h1, List.append_assoc], ?_⟩
  rw [List.length_append, List.length_singleton]
  have h3 : e.length ≤ m * l.length + 4 * c := by
   have : ([0, 1, 2, 3] : List Int).length = 4 := rfl
   rw [this] at h2
   exact Nat.le_trans (Nat.le_add_right _ _) h2
  omega
theorem build_few0 : Few2 (buildT 0) 1 0 := by
 intro H l
 unfold buildT
 by_cases h : l.length = 0
 ·rw [if_pos h]; exact ⟨[], by simp, by simp⟩
 ·rw [if_neg h]; exact ⟨_, rfl, by simp; omega⟩
theorem build_few1 : Few2 (buildT 1) 2 0 := by
 intro H l
 unfold buildT
 by_cases h : l.length = 0
 ·rw [if_pos h]; exact ⟨[], by simp, by simp⟩
 ·rw [if_neg h]
  obtain ⟨e, h1, h2⟩ := fold_few2 build_few0 (0 + 1) [0, 1, 2, 3] (H, [], l)
  refine ⟨e ++ [_], by rw [h1, List.append_assoc], ?_⟩
  rw [List.length_append, List.length_singleton]
  have h3 : e.length ≤ 1 * l.length + 4 * 0 := by
   have : ([0, 1, 2, 3] : List Int).length = 4 := rfl
   rw [this] at h2
   exact Nat.le_trans (Nat.le_add_right _ _) h2
  omega
theorem build_few4 : Few2 (buildT 4) 2 21 := build_few2 (build_few2 (build_few2 build_few1))
def Pg (h : Hp) (k : Int) (w : Nat) : Prop := (w = 0 ∧ k = -1) ∨ (w ≠ 0 ∧ k ≠ -1 ∧ page h k 32 = some (ones w 32))
theorem Pg.mono {h : Hp} (e : Hp) {k : Int} {w : Nat} (p : Pg h k w) : Pg (h ++ e) k w := by
 rcases p with p | ⟨h1, h2, h3⟩
 ·exact .inl p
 ·exact .inr ⟨h1, h2, page_mono e h3⟩
theorem page_last (h : Hp) {w b : Nat} (hw : w ≠ 0) (hb : w < 2 ^ b) : page (h ++ [([(w : Int)], [])]) h.length b = some (ones w b) := by
 obtain ⟨hn, ht⟩ := nd_last h ([(w : Int)], [])
 unfold page
 rw [hn, ht, if_pos]
 ·rfl
 ·have h1 : (1 : Int) ≤ (w : Int) := by omega
  have h2 : (w : Int) < ((2 ^ b : Nat) : Int) := Int.ofNat_lt.2 hb
  show (true && (true && (true && (decide ((1 : Int) ≤ (w : Int)) && decide ((w : Int) < ((2 ^ b : Nat) : Int)))))) = true
  rw [decide_eq_true h1, decide_eq_true h2]
  rfl
theorem pageP_ok : ∀ (ws : List Nat) (i : Nat) (H : Hp) (ks : List Int), i + ws.length = ks.length → (∀ j, i ≤ j → j < ks.length → gi ks j = -1) → (∀ w ∈ ws, w < 2 ^ 32) →
  ∃ e, (pageP i H ks ws).1 = H ++ e ∧ e.length ≤ ws.length ∧ (pageP i H ks ws).2.length = ks.length ∧ (∀ j, j < i → gi (pageP i H ks ws).2 j = gi ks j) ∧ ∀ j, j < ws.length → Pg (H ++ e) (gi (pageP i H ks ws).2 (i + j)) (ws.getD j 0) := by
 intro ws
 induction ws with
 | nil =>
  intro i H ks hl hk hw
  exact ⟨[], by simp [pageP], by simp, rfl, fun _ _ => rfl, fun j hj => by simp at hj⟩
 | cons w ws ih =>
  intro i H ks hl hk hw
  rw [List.length_cons] at hl
  unfold pageP
  by_cases h0 : w = 0
  ·rw [if_pos h0]
   obtain ⟨e, h1, h2, h3, h4, h5⟩ := ih (i + 1) H ks (by omega) (fun j hj hj2 => hk j (by omega) hj2) (fun x hx => hw x (List.mem_cons_of_mem _ hx))
   refine ⟨e, h1, by rw [List.length_cons]; omega, h3, fun j hj => h4 j (by omega), fun j hj => ?_⟩
   cases j with
   | zero =>
    refine .inl ⟨h0, ?_⟩
    rw [show i + 0 = i from rfl, h4 i (by omega)]
    exact hk i (Nat.le_refl _) (by omega)
   | succ j =>
    have := h5 j (by rw [List.length_cons] at hj; omega)
    rw [show i + 1 + j = i + (j + 1) by omega] at this
    exact this
  ·rw [if_neg h0]
   have hset : ∀ j, gi (ks.set i (H.length : Int)) j = if j = i then (H.length : Int) else gi ks j := fun j => gi_set (by omega)
   obtain ⟨e, h1, h2, h3, h4, h5⟩ := ih (i + 1) (H ++ [([(w : Int)], [])]) (ks.set i H.length) (by rw [List.length_set]; omega) (fun j hj hj2 => by
    rw [List.length_set] at hj2
    rw [hset, if_neg (by omega)]
    exact hk j (by omega) hj2) (fun x hx => hw x (List.mem_cons_of_mem _ hx))
   rw [List.length_set] at h3
   refine ⟨([(w : Int)], []) :: e, by rw [h1, List.append_assoc]; rfl, by rw [List.length_cons, List.length_cons]; omega, h3, fun j hj => ?_, fun j hj => ?_⟩
   ·rw [h4 j (by omega), hset, if_neg (by omega)]
   ·have hH : H ++ ([(w : Int)], []) :: e = H ++ [([(w : Int)], [])] ++ e := by rw [List.append_assoc]; rfl
    rw [hH]
    cases j with
    | zero =>
     rw [show i + 0 = i from rfl, h4 i (by omega), hset, if_pos rfl]
     exact .inr ⟨h0, by omega, page_mono e (page_last H h0 (hw w (List.mem_cons_self)))⟩
    | succ j =>
     have := h5 j (by rw [List.length_cons] at hj; omega)
     rw [show i + 1 + j = i + (j + 1) by omega] at this
     exact this
def wordsOf : Nat → List Nat → List Int
 | _, [] => []
 | i, w :: ws => ((ones w 32).map fun b => 32 * (i : Int) + b) ++ wordsOf (i + 1) ws
theorem listPages_of {h : Hp} : ∀ (ws : List Nat) (i : Nat) (ks : List Int), ks.length = ws.length → (∀ j, j < ws.length → Pg h (gi ks j) (ws.getD j 0)) → listPagesF h i ks = some (wordsOf i ws) := by
 intro ws
 induction ws with
 | nil =>
  intro i ks hl _
  obtain rfl : ks = [] := List.length_eq_zero_iff.1 hl
  rfl
 | cons w ws ih =>
  intro i ks hl hp
  cases ks with
  | nil => simp at hl
  | cons k ks =>
   have h1 := ih (i + 1) ks (by simpa using hl) (fun j hj => hp (j + 1) (by rw [List.length_cons]; omega))
   unfold listPagesF wordsOf
   rcases hp 0 (by rw [List.length_cons]; omega) with ⟨hw, hk⟩ | ⟨hw, hk, hpg⟩
   ·have hk' : k = -1 := hk
    have hw' : w = 0 := hw
    rw [if_pos hk', h1, hw']
    have : ones 0 32 = [] := by decide
    rw [this]
    rfl
   ·have hk' : k ≠ -1 := hk
    have hpg' : page h k 32 = some (ones w 32) := hpg
    rw [if_neg hk', hpg', Option.bind_some, h1]
    rfl
theorem wordsOf_mem : ∀ (ws : List Nat) (i : Nat) (y : Int), y ∈ wordsOf i ws ↔ ∃ j b : Nat, j < ws.length ∧ b < 32 ∧ (ws.getD j 0).testBit b = true ∧ y = 32 * ((i + j : Nat) : Int) + b := by
 intro ws
 induction ws with
 | nil => intro i y; simp [wordsOf]
 | cons w ws ih =>
  intro i y
  unfold wordsOf
  rw [List.mem_append, List.mem_map, ih]
  constructor
  ·rintro (⟨d, hd, rfl⟩ | ⟨j, b, h1, h2, h3, rfl⟩)
   ·obtain ⟨b, rfl, h1, h2⟩ := ((ones_rise w 32).2 d).1 hd
    exact ⟨0, b, by simp, h1, h2, by simp⟩
   ·exact ⟨j + 1, b, by rw [List.length_cons]; omega, h2, h3, by omega⟩
  ·rintro ⟨j, b, h1, h2, h3, rfl⟩
   cases j with
   | zero => exact .inl ⟨(b : Int), ((ones_rise w 32).2 _).2 ⟨b, rfl, h2, h3⟩, by simp⟩
   | succ j => exact .inr ⟨j, b, by rw [List.length_cons] at h1; omega, h2, h3, by omega⟩
theorem wordsOf_rise : ∀ (ws : List Nat) (i : Nat), (wordsOf i ws).Pairwise (· < ·) := by
 intro ws
 induction ws with
 | nil => intro i; exact List.Pairwise.nil
 | cons w ws ih =>
  intro i
  unfold wordsOf
  rw [List.pairwise_append]
  refine ⟨?_, ih (i + 1), ?_⟩
  ·rw [List.pairwise_map]
   exact (ones_rise w 32).1.imp (fun h => by omega)
  ·intro a ha c hc
   obtain ⟨d, hd, rfl⟩ := List.mem_map.1 ha
   obtain ⟨b, rfl, h1, _⟩ := ((ones_rise w 32).2 d).1 hd
   obtain ⟨j, b2, _, _, _, rfl⟩ := (wordsOf_mem ws (i + 1) c).1 hc
   omega
theorem wordsP_bit (l : List Int) (j b : Nat) (hb : b < 32) (hx : ∀ x ∈ l, 0 ≤ x ∧ x ≤ 1023) (hj : j < 32) : ((wordsP l).getD j 0).testBit b = true ↔ 32 * (j : Int) + b ∈ l := by
 unfold wordsP
 suffices h : ∀ (l : List Int) (ws : List Nat), ws.length = 32 → (∀ x ∈ l, 0 ≤ x ∧ x ≤ 1023) → (((l.foldl (fun ws x => wordP ws x.toNat) ws).getD j 0).testBit b = true ↔ (ws.getD j 0).testBit b = true ∨ 32 * (j : Int) + b ∈ l) by
  rw [h l _ (by simp) hx]
  have : (List.replicate 32 0).getD j 0 = 0 := by
   rw [List.getD_eq_getElem?_getD, List.getElem?_replicate]
   split <;> rfl
  rw [this, Nat.zero_testBit]
  simp
 intro l
 induction l with
 | nil => intro ws _ _; simp
 | cons x l ih =>
  intro ws hl hx
  rw [List.foldl_cons, ih _ (by rw [wordP_len]; exact hl) (fun y hy => hx y (List.mem_cons_of_mem _ hy)), List.mem_cons]
  have hx0 := hx x (List.mem_cons_self)
  have key : ((wordP ws x.toNat).getD j 0).testBit b = true ↔ (ws.getD j 0).testBit b = true ∨ 32 * (j : Int) + b = x := by
   unfold wordP
   rw [List.getD_eq_getElem?_getD, List.getElem?_set]
   by_cases he : x.toNat / 32 = j
   ·rw [if_pos he, if_pos (by omega)]
    show (_ ||| _ : Nat).testBit b = true ↔ _
    rw [Nat.testBit_or, Nat.testBit_two_pow, he, Bool.or_eq_true, decide_eq_true_eq]
    constructor
    ·rintro (h | h)
     ·exact .inl h
     ·exact .inr (by omega)
    ·rintro (h | h)
     ·exact .inl h
     ·exact .inr (by omega)
   ·rw [if_neg he, ← List.getD_eq_getElem?_getD]
    constructor
    ·exact .inl
    ·rintro (h | h)
     ·exact h
     ·omega
  rw [key, or_assoc]
theorem layP_ok (H : Hp) {l : List Int} (hl : Els l) : ∃ e, (layP H l).1 = H ++ e ∧ e.length ≤ 33 ∧ listPages (layP H l).1 (layP H l).2 = some l := by
 obtain ⟨hwl, hwlt⟩ := words_ok l
 obtain ⟨e, h1, h2, h3, h4, h5⟩ := pageP_ok (wordsP l) 0 H (List.replicate 32 (-1)) (by rw [hwl]; simp) (fun j _ hj => by
  rw [List.length_replicate] at hj
  unfold gi
  rw [List.getD_eq_getElem?_getD, List.getElem?_replicate, if_pos hj]
  rfl) hwlt
 unfold layP
 rw [h1]
 obtain ⟨ks, hks⟩ : ∃ ks, ks = (pageP 0 H (List.replicate 32 (-1)) (wordsP l)).2 := ⟨_, rfl⟩
 rw [← hks] at h3 h5 ⊢
 rw [List.length_replicate] at h3
 refine ⟨e ++ [([], ks)], by rw [List.append_assoc], by rw [List.length_append, List.length_singleton]; omega, ?_⟩
 obtain ⟨hn, ht⟩ := nd_last (H ++ e) ([], ks)
 show listPages _ (((H ++ e).length : Nat) : Int) = _
 unfold listPages
 rw [hn, ht, if_pos (by show (true && (true && (ks.length == 32))) = true; rw [h3]; rfl)]
 show listPagesF _ 0 ks = _
 rw [listPages_of (wordsP l) 0 ks (by rw [h3, hwl]) (fun j hj => by
  have := (h5 j hj).mono [([], ks)]
  rw [Nat.zero_add] at this
  exact this)]
 congr 1
 refine rise_ext (wordsOf_rise _ _) hl.1 ?_
 intro y
 rw [wordsOf_mem]
 constructor
 ·rintro ⟨j, b, h6, h7, h8, rfl⟩
  rw [hwl] at h6
  rw [Nat.zero_add]
  exact (wordsP_bit l j b h7 hl.2 h6).1 h8
 ·intro hy
  have hy2 := hl.2 y hy
  refine ⟨y.toNat / 32, y.toNat % 32, by rw [hwl]; omega, by omega, (wordsP_bit l _ _ (by omega) hl.2 (by omega)).2 ?_, by omega⟩
  have : 32 * ((y.toNat / 32 : Nat) : Int) + ((y.toNat % 32 : Nat) : Int) = y := by omega
  rw [this]
  exact hy
theorem els_len {l : List Int} (hl : Els l) : l.length ≤ 1024 := by
 have h1 : (l.map Int.toNat).Nodup := by
  rw [List.nodup_iff_pairwise_ne, List.pairwise_map]
  refine List.Pairwise.imp_of_mem ?_ hl.1
  intro a b ha hb hab
  have := hl.2 a ha
  have := hl.2 b hb
  omega
 have h2 : (l.map Int.toNat) ⊆ List.range 1024 := by
  intro y hy
  obtain ⟨x, hx, rfl⟩ := List.mem_map.1 hy
  have := hl.2 x hx
  rw [List.mem_range]
  omega
 have h3 := h1.length_le_of_subset h2
 rw [List.length_map, List.length_range] at h3
 exact h3
theorem sizeH_ok (n : Nat) (hn : n ≤ 1024) : pow2 (sizeH 20 8 n) = true ∧ 2 * n ≤ sizeH 20 8 n := by
 have hcase : n ≤ 4 ∨ (4 < n ∧ n ≤ 8) ∨ (8 < n ∧ n ≤ 16) ∨ (16 < n ∧ n ≤ 32) ∨ (32 < n ∧ n ≤ 64) ∨ (64 < n ∧ n ≤ 128) ∨ (128 < n ∧ n ≤ 256) ∨ (256 < n ∧ n ≤ 512) ∨ (512 < n ∧ n ≤ 1024) := by omega
 have st : ∀ g c, c < 2 * n → sizeH (g + 1) c n = sizeH g (2 * c) n := fun g c h => by
  show (if c < 2 * n then _ else _) = _
  rw [if_pos h]
 have fi : ∀ g c, 2 * n ≤ c → sizeH (g + 1) c n = c := fun g c h => by
  show (if c < 2 * n then _ else _) = _
  rw [if_neg (by omega)]
 rcases hcase with h | ⟨h0, h⟩ | ⟨h0, h⟩ | ⟨h0, h⟩ | ⟨h0, h⟩ | ⟨h0, h⟩ | ⟨h0, h⟩ | ⟨h0, h⟩ | ⟨h0, h⟩
 ·rw [fi 19 8 (by omega)]; exact ⟨by decide, by omega⟩
 ·rw [st 19 8 (by omega), fi 18 16 (by omega)]; exact ⟨by decide, by omega⟩
 ·rw [st 19 8 (by omega), st 18 16 (by omega), fi 17 32 (by omega)]; exact ⟨by decide, by omega⟩
 ·rw [st 19 8 (by omega), st 18 16 (by omega), st 17 32 (by omega), fi 16 64 (by omega)]; exact ⟨by decide, by omega⟩
 ·rw [st 19 8 (by omega), st 18 16 (by omega), st 17 32 (by omega), st 16 64 (by omega), fi 15 128 (by omega)]; exact ⟨by decide, by omega⟩
 ·rw [st 19 8 (by omega), st 18 16 (by omega), st 17 32 (by omega), st 16 64 (by omega), st 15 128 (by omega), fi 14 256 (by omega)]; exact ⟨by decide, by omega⟩
 ·rw [st 19 8 (by omega), st 18 16 (by omega), st 17 32 (by omega), st 16 64 (by omega), st 15 128 (by omega), st 14 256 (by omega), fi 13 512 (by omega)]; exact ⟨by decide, by omega⟩
 ·rw [st 19 8 (by omega), st 18 16 (by omega), st 17 32 (by omega), st 16 64 (by omega), st 15 128 (by omega), st 14 256 (by omega), st 13 512 (by omega), fi 12 1024 (by omega)]; exact ⟨by decide, by omega⟩
 ·rw [st 19 8 (by omega), st 18 16 (by omega), st 17 32 (by omega), st 16 64 (by omega), st 15 128 (by omega), st 14 256 (by omega), st 13 512 (by omega), st 12 1024 (by omega), fi 11 2048 (by omega)]; exact ⟨by decide, by omega⟩
theorem layH_ok (H : Hp) {l : List Int} (hl : Els l) : listHash (H ++ [(layH l (sizeH 20 8 l.length), [])]) H.length = some l := by
 obtain ⟨hp, hn⟩ := sizeH_ok l.length (els_len hl)
 obtain ⟨T, hT⟩ := layH_of hl (sizeH 20 8 l.length) (by omega)
 obtain ⟨t, ht⟩ : ∃ t, t = layH l (sizeH 20 8 l.length) := ⟨_, rfl⟩
 rw [← ht] at T hT ⊢
 obtain ⟨hnd, hth⟩ := nd_last H (t, [])
 refine listHash_iff.2 ⟨hth, by rw [hnd], by
  rw [hnd]
  refine ⟨by rw [hT]; exact hp, fun y hy => ?_, by rw [T.many, hT]; exact hn, T.tab⟩
  by_cases he : y = -1
  ·exact .inl he
  ·obtain ⟨i, hi, hg⟩ := mem_gi.1 hy
   exact .inr (hl.2 y ((T.elem y).1 (mem_full.2 ⟨he, i, hi, hg⟩))), ?_⟩
 rw [hnd]
 refine rise_ext hl.1 (sort_rise T.tab.nodup) ?_
 intro y
 rw [(List.mergeSort_perm _ _).mem_iff, T.elem]
theorem lay_ok (H : Hp) {f : Int} (h1 : 1 ≤ f) (h5 : f ≤ 5) {l : List Int} (hl : Els l) : ∃ e, (layF f H l).1 = H ++ e ∧ e.length ≤ 2 * l.length + 80 ∧ list f (layF f H l).1 (layF f H l).2 = some l := by
 have hf : f = 1 ∨ f = 2 ∨ f = 3 ∨ f = 4 ∨ f = 5 := by omega
 rcases hf with rfl | rfl | rfl | rfl | rfl
 ·refine ⟨[(l, [])], rfl, by simp, ?_⟩
  obtain ⟨hnd, hth⟩ := nd_last H (l, [])
  show listArray (H ++ [(l, [])]) H.length = some l
  unfold listArray
  rw [hnd, hth, if_pos (by show (true && (true && rising l)) = true; rw [rising_iff.2 hl]; rfl)]
 ·obtain ⟨e, a, b, c⟩ := layP_ok H hl
  exact ⟨e, a, by omega, c⟩
 ·obtain ⟨⟨e, a, b⟩, T⟩ := layT_ok l.length H (-1) 1024 l (Nat.le_refl _) hl.1 (fun y hy => by have := hl.2 y hy; omega)
  exact ⟨e, a, by omega, listTree_iff.2 ⟨_, T⟩⟩
 ·obtain ⟨e, a, k⟩ := build_ok 4 H 0 l hl.1 (fun x hx => by have := hl.2 x hx; show x / (1024 : Int) = 0; omega)
  obtain ⟨e2, a2, b⟩ := build_few4 H l
  have : e2 = e := by rw [a] at a2; exact (List.append_cancel_left a2).symm
  subst this
  refine ⟨e2, a, by omega, ?_⟩
  show listTrie (buildT 4 H l).1 (buildT 4 H l).2 = some l
  unfold listTrie
  rw [a]
  rcases k with ⟨k1, k2⟩ | ⟨k1, k2, k3⟩
  ·rw [if_pos k2, k1]
  ·rw [if_neg k2]; exact k3
 ·exact ⟨_, rfl, by simp, layH_ok H hl⟩
end Go.Proofs.YtbfedeedicnedaaGreat.Sh
end
