/-
  Plain laws of reading: a blank or a comment put before a token; tokens that are as defined; numbers and a sign.
-/
import Derived.Test.YtkijoeihkajlcaaDoorMc

set_option linter.unusedVariables false
set_option linter.unusedSimpArgs false
namespace Go.Proofs.YtkijoeihkajlcaaDoor
open Go.RowKit Go.Shelf

/-- A piece as it is defined. -/
def Lx.Good : Lx.Piece → Prop
  | .word s => s ≠ [] ∧ s.all Lx.isLet = true ∧ (s.length ≤ 8 ∨ Lx.isKey s = true)
  | .num n => -1000000000 ≤ n ∧ n ≤ 1000000000
  | .str s => s.length ≤ 20 ∧ s.all Lx.isTxt = true
  | .sgn s => s ∈ Lx.signWords
/-- What may stand behind a piece. -/
def Lx.Ends : Lx.Piece → Lx.Bs → Prop
  | .word _, r => Lx.isLet (r.headD 0) = false
  | .num _, r => Lx.isDig (r.headD 0) = false
  | .str _, _ => True
  | .sgn _, r => r.headD 0 ≠ 61 ∧ r.headD 0 ≠ 46

theorem Lx.runL_app (p : UInt8 → Bool) : ∀ (s r : Lx.Bs), s.all p = true → p (r.headD 0) = false → Lx.runL p (s ++ r) = s.length
  | [], [], _, _ => rfl
  | [], c :: t, _, h => by
    have h' : p c = false := h
    simp [Lx.runL, h']
  | c :: s, r, hs, h => by
    simp only [List.all_cons, Bool.and_eq_true] at hs
    simp [Lx.runL, hs.1, Lx.runL_app p s r hs.2 h]

/-! ### numerals -/
theorem Lx.dig_of (d : Nat) (h : d < 10) : Lx.isDig (UInt8.ofNat (48 + d)) = true ∧ ((UInt8.ofNat (48 + d)).toNat : Int) = 48 + d := by
  have : ∀ d : Fin 10, Lx.isDig (UInt8.ofNat (48 + d.val)) = true ∧ ((UInt8.ofNat (48 + d.val)).toNat : Int) = 48 + d.val := by decide
  exact this ⟨d, h⟩
theorem Lx.dig_head (d : Nat) (h : d < 10) (h0 : d ≠ 0) : UInt8.ofNat (48 + d) ≠ 48 := by
  have : ∀ d : Fin 10, d.val ≠ 0 → UInt8.ofNat (48 + d.val) ≠ 48 := by decide
  exact this ⟨d, h⟩ h0
theorem Lx.dec_ne (u : Nat) : Lib.decDigits u ≠ [] := by
  have h := Lib.decDigits_length u
  have := Lib.nDigits_pos u
  intro h0
  rw [h0] at h
  simp at h
  omega
theorem Lx.dec_all (u : Nat) : (Lib.decDigits u).all Lx.isDig = true := by
  induction u using Nat.strongRecOn with
  | ind u ih =>
    rw [Lib.decDigits]
    split
    · rename_i h
      rw [List.all_cons, (Lx.dig_of u h).1]; rfl
    · rename_i h
      rw [List.all_append, ih (u / 10) (by omega), List.all_cons, (Lx.dig_of (u % 10) (by omega)).1]; rfl
theorem Lx.dec_fig (u : Nat) (hu : u ≤ 1000000000) : Lx.figure (Lib.decDigits u) = u := by
  induction u using Nat.strongRecOn with
  | ind u ih =>
    unfold Lx.figure at ih ⊢
    rw [Lib.decDigits]
    split
    · rename_i h
      simp [Lx.addUp, (Lx.dig_of u h).2]
      omega
    · rename_i h
      rw [List.foldl_append, ih (u / 10) (by omega) (by omega)]
      simp only [List.foldl_cons, List.foldl_nil, Lx.addUp, (Lx.dig_of (u % 10) (by omega)).2]
      rw [if_pos (by omega)]
      omega
theorem Lx.dec_head (u : Nat) (hu : u ≠ 0) : (Lib.decDigits u).headD 0 ≠ 48 := by
  induction u using Nat.strongRecOn with
  | ind u ih =>
    rw [Lib.decDigits]
    split
    · rename_i h
      simpa using Lx.dig_head u h hu
    · rename_i h
      have h1 := ih (u / 10) (by omega) (by omega)
      have h2 := Lx.dec_ne (u / 10)
      cases hd : Lib.decDigits (u / 10) with
      | nil => exact absurd hd h2
      | cons c t => rw [hd] at h1; exact h1
theorem Lx.dec_zero (u : Nat) (h : u = 0) : (Lib.decDigits u).length = 1 := by subst h; rw [Lib.decDigits]; rfl
theorem Lx.spelled_nat (N : Int) (h : ¬ N < 0) : Lx.spelled (.num N) = Lib.decDigits N.toNat := by
  show (if N < 0 then 126 :: Lib.itoa (-N) else Lib.itoa N) = _
  rw [if_neg h, Lib.itoa, if_neg h]
theorem Lx.spelled_neg (N : Int) (h : N < 0) : Lx.spelled (.num N) = 126 :: Lib.decDigits (-N).toNat := by
  show (if N < 0 then 126 :: Lib.itoa (-N) else Lib.itoa N) = _
  rw [if_pos h, Lib.itoa, if_neg (by omega)]
theorem Lx.dig_not (c : UInt8) (h : Lx.isDig c = true) : Lx.isLet c = false ∧ c ≠ 126 ∧ Lx.isBlank c = false ∧ c.toNat ≠ 35 ∧ c ≠ 34 := by
  have : ∀ c : UInt8, Lx.isDig c = true → Lx.isLet c = false ∧ c ≠ 126 ∧ Lx.isBlank c = false ∧ c.toNat ≠ 35 ∧ c ≠ 34 := by
    intro c h
    unfold Lx.isDig at h
    simp only [Bool.and_eq_true, decide_eq_true_eq] at h
    refine ⟨?_, ?_, ?_, ?_, ?_⟩
    · simp [Lx.isLet]; omega
    · rintro rfl; simp at h
    · simp [Lx.isBlank]; omega
    · omega
    · rintro rfl; simp at h
  exact this c h

/-! ### one piece -/
theorem Lx.letters_none (c : UInt8) (t : Lx.Bs) (h : Lx.isLet c = false) : Lx.letters (c :: t) = .none := by
  unfold Lx.letters
  rw [if_pos (by simp [Lx.runL, h])]
theorem Lx.back_word (s r : Lx.Bs) (hg : Lx.Good (.word s)) (he : Lx.Ends (.word s) r) : Lx.piece (s ++ r) = .got (.word s) s.length := by
  have hr := Lx.runL_app Lx.isLet s r hg.2.1 he
  have hl : Lx.letters (s ++ r) = .got (.word s) s.length := by
    unfold Lx.letters
    rw [hr, List.take_left, if_neg (by have := List.length_pos_iff.2 hg.1; omega), if_neg]
    rintro ⟨h1, h2⟩
    rcases hg.2.2 with h | h
    · omega
    · rw [h] at h2; cases h2
  unfold Lx.piece Lx.tried
  rw [hl]
  rfl
theorem Lx.digits_dec (t : Bool) (u : Nat) (hu : u ≤ 1000000000) (ht : t = true → u ≠ 0) (r : Lx.Bs) (he : Lx.isDig (r.headD 0) = false) :
    Lx.digits ((if t then [126] else []) ++ Lib.decDigits u ++ r) = .got (.num (if t then -(u : Int) else u)) ((Lib.decDigits u).length + (if t then 1 else 0)) := by
  have hall := Lx.dec_all u
  have hr := Lx.runL_app Lx.isDig (Lib.decDigits u) r hall he
  have hfig := Lx.dec_fig u hu
  have hne := Lx.dec_ne u
  have hhd : u ≠ 0 → (Lib.decDigits u).headD 0 ≠ 48 := Lx.dec_head u
  have h0 := Lx.dec_zero u
  obtain ⟨ds, hds⟩ : ∃ ds, ds = Lib.decDigits u := ⟨_, rfl⟩
  rw [← hds] at hall hr hfig hne hhd h0 ⊢
  clear hds
  have htil : Lx.tilde ((if t then [126] else []) ++ ds ++ r) = t := by
    cases t
    · cases ds with
      | nil => exact absurd rfl hne
      | cons c ds =>
        simp only [List.all_cons, Bool.and_eq_true] at hall
        have := (Lx.dig_not c hall.1).2.1
        simp [Lx.tilde, this]
    · rfl
  have haft : Lx.afterTilde ((if t then [126] else []) ++ ds ++ r) = ds ++ r := by
    unfold Lx.afterTilde
    rw [htil]
    cases t <;> rfl
  unfold Lx.digits
  rw [haft, htil, hr, List.take_left, hfig]
  have hlp := List.length_pos_iff.2 hne
  have hh2 : (ds ++ r).headD 0 = ds.headD 0 := by
    cases ds with
    | nil => exact absurd rfl hne
    | cons c ds => rfl
  rw [if_neg (by omega), if_neg]
  rw [hh2]
  rintro (⟨h1, h2⟩ | ⟨h1, h2⟩ | h1)
  · by_cases hu0 : u = 0
    · have := h0 hu0; omega
    · exact hhd hu0 h2
  · exact ht h2 (by omega)
  · omega
theorem Lx.back_num (N : Int) (r : Lx.Bs) (hg : Lx.Good (.num N)) (he : Lx.Ends (.num N) r) : Lx.piece (Lx.spelled (.num N) ++ r) = .got (.num N) (Lx.spelled (.num N)).length := by
  have hg1 : -1000000000 ≤ N ∧ N ≤ 1000000000 := hg
  by_cases h : N < 0
  · have hd := Lx.digits_dec true (-N).toNat (by omega) (by intro; omega) r he
    have e : (if true then [126] else []) ++ Lib.decDigits (-N).toNat ++ r = 126 :: (Lib.decDigits (-N).toNat ++ r) := rfl
    rw [e] at hd
    rw [Lx.spelled_neg N h, List.cons_append]
    unfold Lx.piece Lx.tried
    rw [Lx.letters_none _ _ (by decide), hd]
    simp only [Lx.orElse, if_true, List.length_cons]
    rw [show (-(((-N).toNat : Nat) : Int)) = N by omega]
  · have hd := Lx.digits_dec false N.toNat (by omega) (by intro h; cases h) r he
    have e : (if false then [126] else []) ++ Lib.decDigits N.toNat ++ r = Lib.decDigits N.toNat ++ r := rfl
    rw [e] at hd
    rw [Lx.spelled_nat N h]
    have hne := Lx.dec_ne N.toNat
    have hall := Lx.dec_all N.toNat
    have hlet : Lx.letters (Lib.decDigits N.toNat ++ r) = .none := by
      cases hds : Lib.decDigits N.toNat with
      | nil => exact absurd hds hne
      | cons c ds =>
        rw [hds] at hall
        simp only [List.all_cons, Bool.and_eq_true] at hall
        exact Lx.letters_none _ _ (Lx.dig_not c hall.1).1
    unfold Lx.piece Lx.tried
    rw [hlet, hd]
    simp only [Lx.orElse, Bool.false_eq_true, if_false, Nat.add_zero]
    rw [show ((N.toNat : Nat) : Int) = N by omega]
theorem Lx.back_str (s r : Lx.Bs) (hg : Lx.Good (.str s)) : Lx.piece (34 :: (s ++ [34]) ++ r) = .got (.str s) (34 :: (s ++ [34])).length := by
  have hr := Lx.runL_app Lx.isTxt s (34 :: r) hg.2 (show Lx.isTxt 34 = false by decide)
  have e : s ++ [34] ++ r = s ++ 34 :: r := by simp
  have hq : Lx.quoted (34 :: (s ++ [34]) ++ r) = .got (.str s) (34 :: (s ++ [34])).length := by
    have h20 := hg.1
    unfold Lx.quoted
    rw [List.cons_append, e]
    rw [if_neg (by simp), List.tail_cons, hr, List.drop_left, List.take_left, if_neg (by simp), if_neg (by omega)]
    simp
  have hd : Lx.digits (34 :: (s ++ [34]) ++ r) = .none := by
    unfold Lx.digits
    rw [if_pos]
    rfl
  unfold Lx.piece Lx.tried
  rw [List.cons_append] at hq hd ⊢
  rw [Lx.letters_none _ _ (by decide), hd, hq]
  rfl
theorem Lx.back_sgn (s r : Lx.Bs) (hg : Lx.Good (.sgn s)) (he : Lx.Ends (.sgn s) r) : Lx.piece (s ++ r) = .got (.sgn s) s.length := by
  have hs : s ∈ [[58, 61], [43, 61], [45, 61], [46, 46], [40], [41], [123], [125], [44], [59], [58], [61], [60], [43], [45], [42], [46]] := hg
  have h61 : r.headD 0 ≠ 61 := he.1
  have h46 : r.headD 0 ≠ 46 := he.2
  unfold Lx.piece Lx.tried
  cases r with
  | nil =>
    simp only [List.mem_cons, List.not_mem_nil, or_false] at hs
    rcases hs with rfl | rfl | rfl | rfl | rfl | rfl | rfl | rfl | rfl | rfl | rfl | rfl | rfl | rfl | rfl | rfl | rfl <;> rfl
  | cons c t =>
    have h61 : (61 == c) = false := by
      simp only [List.headD_cons] at h61
      simpa using fun h => h61 h.symm
    have h46 : (46 == c) = false := by
      simp only [List.headD_cons] at h46
      simpa using fun h => h46 h.symm
    simp only [List.mem_cons, List.not_mem_nil, or_false] at hs
    rcases hs with rfl | rfl | rfl | rfl | rfl | rfl | rfl | rfl | rfl | rfl | rfl | rfl | rfl | rfl | rfl | rfl | rfl <;>
      simp [Lx.letters, Lx.runL, Lx.isLet, Lx.orElse, Lx.digits, Lx.afterTilde, Lx.tilde, Lx.isDig, Lx.quoted, Lx.signed, Lx.signWords, Lx.signAt, List.isPrefixOf, h61, h46]
theorem Lx.back (p : Lx.Piece) (r : Lx.Bs) (hg : Lx.Good p) (he : Lx.Ends p r) : Lx.piece (Lx.spelled p ++ r) = .got p (Lx.spelled p).length := by
  cases p with
  | word s => exact Lx.back_word s r hg he
  | num N => exact Lx.back_num N r hg he
  | str s => exact Lx.back_str s r hg
  | sgn s => exact Lx.back_sgn s r hg he

/-- What begins a piece is neither a blank nor begins a comment. -/
theorem Lx.good_head (p : Lx.Piece) (hg : Lx.Good p) : Lx.spelled p ≠ [] ∧ Lx.isBlank ((Lx.spelled p).headD 0) = false ∧ ((Lx.spelled p).headD 0).toNat ≠ 35 := by
  have hlet : ∀ c : UInt8, Lx.isLet c = true → Lx.isBlank c = false ∧ c.toNat ≠ 35 := by
    intro c h
    unfold Lx.isLet at h
    simp only [Bool.and_eq_true, decide_eq_true_eq] at h
    refine ⟨?_, by omega⟩
    simp [Lx.isBlank]; omega
  cases p with
  | word s =>
    obtain ⟨h1, h2, _⟩ := hg
    cases s with
    | nil => exact absurd rfl h1
    | cons c t =>
      simp only [List.all_cons, Bool.and_eq_true] at h2
      exact ⟨by simp [Lx.spelled], hlet c h2.1⟩
  | num N =>
    by_cases h : N < 0
    · rw [Lx.spelled_neg N h]
      exact ⟨by simp, by rfl, show ((126 : UInt8)).toNat ≠ 35 by decide⟩
    · rw [Lx.spelled_nat N h]
      have hall := Lx.dec_all N.toNat
      refine ⟨Lx.dec_ne _, ?_⟩
      cases hd : Lib.decDigits N.toNat with
      | nil => exact absurd hd (Lx.dec_ne _)
      | cons c t =>
        rw [hd] at hall
        simp only [List.all_cons, Bool.and_eq_true] at hall
        have := Lx.dig_not c hall.1
        exact ⟨this.2.2.1, this.2.2.2.1⟩
  | str s => exact ⟨by simp [Lx.spelled], by rfl, by show ((34 : UInt8)).toNat ≠ 35; decide⟩
  | sgn s =>
    have hs : ∀ s ∈ Lx.signWords, s ≠ [] ∧ Lx.isBlank (s.headD 0) = false ∧ (s.headD 0).toNat ≠ 35 := by decide
    exact hs s hg
theorem Lx.skip_good (p : Lx.Piece) (hg : Lx.Good p) (r : Lx.Bs) : Lx.skipL (Lx.spelled p ++ r) = 0 := by
  obtain ⟨h1, h2, h3⟩ := Lx.good_head p hg
  cases hs : Lx.spelled p with
  | nil => exact absurd hs h1
  | cons c t =>
    rw [hs] at h2 h3
    simp only [List.headD_cons] at h2 h3
    simp [Lx.skipL, Lx.skipF, h2, h3]
/-- How long a word is. -/
theorem Lx.good_len (p : Lx.Piece) (hg : Lx.Good p) : 1 ≤ (Lx.spelled p).length ∧ (Lx.spelled p).length ≤ 22 := by
  refine ⟨by have := List.length_pos_iff.2 (Lx.good_head p hg).1; omega, ?_⟩
  have hd : ∀ u : Nat, u ≤ 1000000000 → (Lib.decDigits u).length ≤ 20 := by
    intro u hu
    rw [Lib.decDigits_length]
    exact Lib.nDigits_le20 u (by omega)
  cases p with
  | word s =>
    have hk : ∀ x ∈ Lx.keyWords, x.length ≤ 8 := by decide
    show s.length ≤ 22
    rcases hg.2.2 with h | h
    · omega
    · have := hk s (by unfold Lx.isKey at h; simpa using h)
      omega
  | num N =>
    have hg1 : -1000000000 ≤ N ∧ N ≤ 1000000000 := hg
    by_cases h : N < 0
    · rw [Lx.spelled_neg N h]
      have := hd (-N).toNat (by omega)
      simp; omega
    · rw [Lx.spelled_nat N h]
      have := hd N.toNat (by omega)
      omega
  | str s =>
    have h : s.length ≤ 20 := hg.1
    show (34 :: (s ++ [34])).length ≤ 22
    simp; omega
  | sgn s =>
    have h := sign_short s hg
    show s.length ≤ 22
    omega

/-! ### a text -/
/-- Pieces with their places: a blank between each two. -/
def Lx.placed : Nat → List Lx.Piece → List (Nat × Lx.Piece)
  | _, [] => []
  | a, p :: ps => (a, p) :: Lx.placed (a + (Lx.spelled p).length + 1) ps
theorem Lx.join_cons (a b : Lx.Bs) (l : List Lx.Bs) : Lx.joined (a :: b :: l) = a ++ 32 :: Lx.joined (b :: l) := by
  simp [Lx.joined, Lib.join, List.intercalate, List.intersperse]
theorem Lx.join_one (a : Lx.Bs) : Lx.joined [a] = a := by simp [Lx.joined, Lib.join, List.intercalate]
theorem Lx.ends_blank (p : Lx.Piece) (r : Lx.Bs) : Lx.Ends p (32 :: r) := by
  cases p with
  | word s => exact (by decide : Lx.isLet 32 = false)
  | num N => exact (by decide : Lx.isDig 32 = false)
  | str s => trivial
  | sgn s => exact (by decide : (32 : UInt8) ≠ 61 ∧ (32 : UInt8) ≠ 46)
theorem Lx.ends_nil (p : Lx.Piece) : Lx.Ends p [] := by
  cases p with
  | word s => exact (by decide : Lx.isLet 0 = false)
  | num N => exact (by decide : Lx.isDig 0 = false)
  | str s => trivial
  | sgn s => exact (by decide : (0 : UInt8) ≠ 61 ∧ (0 : UInt8) ≠ 46)
theorem Lx.readF_back : ∀ (ps : List Lx.Piece) (pos g : Nat), (∀ p ∈ ps, Lx.Good p) → (Lx.joined (ps.map Lx.spelled)).length < g →
    Lx.readF g pos (Lx.joined (ps.map Lx.spelled)) = (Lx.placed pos ps, none)
  | [], pos, g, _, hg => by
    cases g with
    | zero => omega
    | succ g => rfl
  | [p], pos, g, hp, hg => by
    cases g with
    | zero => omega
    | succ g =>
      have hgp := hp p (by simp)
      have hb := Lx.back p [] hgp (Lx.ends_nil p)
      rw [List.append_nil] at hb
      simp only [List.map_cons, List.map_nil, Lx.join_one] at hg ⊢
      have hln := Lx.good_len p hgp
      rw [readF_got (Lx.good_head p hgp).1 hb]
      have e1 : (Lx.spelled p).drop (Lx.spelled p).length = [] := by simp
      rw [e1]
      have e2 : Lx.skipL [] = 0 := rfl
      rw [e2, Nat.add_zero, e1]
      cases g with
      | zero => omega
      | succ g => rfl
  | p :: q :: ps, pos, g, hp, hg => by
    cases g with
    | zero => omega
    | succ g =>
      have hgp := hp p (by simp)
      have hgq := hp q (by simp)
      simp only [List.map_cons] at hg ⊢
      rw [Lx.join_cons] at hg ⊢
      have hb := Lx.back p (32 :: Lx.joined (Lx.spelled q :: ps.map Lx.spelled)) hgp (Lx.ends_blank p _)
      rw [readF_got (by simp) hb, List.drop_left]
      have hsk : Lx.skipL (32 :: Lx.joined (Lx.spelled q :: ps.map Lx.spelled)) = 1 := by
        have h0 : Lx.skipL (Lx.joined (Lx.spelled q :: ps.map Lx.spelled)) = 0 := by
          cases ps with
          | nil => rw [List.map_nil, Lx.join_one]; simpa using Lx.skip_good q hgq []
          | cons r rs => rw [List.map_cons, Lx.join_cons]; exact Lx.skip_good q hgq _
        unfold Lx.skipL at h0 ⊢
        rw [Lx.skipF, if_pos (by decide), h0]
      rw [hsk, List.drop_append]
      have e1 : (Lx.spelled p).drop ((Lx.spelled p).length + 1) = [] := by simp
      have e2 : (Lx.spelled p).length + 1 - (Lx.spelled p).length = 1 := by omega
      rw [e1, e2, List.nil_append, List.drop_one, List.tail_cons]
      have hr := Lx.readF_back (q :: ps) (pos + ((Lx.spelled p).length + 1)) g (fun x hx => hp x (by simp [hx])) (by simp at hg ⊢; omega)
      rw [List.map_cons] at hr
      rw [hr]
      simp [Lx.placed, Nat.add_assoc]
theorem Lx.skip_text (ps : List Lx.Piece) (hp : ∀ p ∈ ps, Lx.Good p) : Lx.skipL (Lx.joined (ps.map Lx.spelled)) = 0 := by
  cases ps with
  | nil => rfl
  | cons q ps =>
    have hgq := hp q (by simp)
    cases ps with
    | nil => rw [List.map_cons, List.map_nil, Lx.join_one]; simpa using Lx.skip_good q hgq []
    | cons r rs => rw [List.map_cons, List.map_cons, Lx.join_cons]; exact Lx.skip_good q hgq _
/-- The text of pieces is read as these pieces. -/
theorem Lx.readAll_back (ps : List Lx.Piece) (hp : ∀ p ∈ ps, Lx.Good p) : Lx.readAll (Lx.joined (ps.map Lx.spelled)) = (Lx.placed 0 ps, none) := by
  unfold Lx.readAll
  rw [Lx.skip_text ps hp, List.drop_zero]
  exact Lx.readF_back ps 0 _ hp (by omega)
theorem Lx.placed_map : ∀ (ps : List Lx.Piece) (a : Nat), (Lx.placed a ps).map Prod.snd = ps
  | [], _ => rfl
  | p :: ps, a => by simp [Lx.placed, Lx.placed_map ps]

/-! ### what is read is as defined -/
theorem Lx.runL_all2 (p : UInt8 → Bool) : ∀ (l : Lx.Bs), (l.take (Lx.runL p l)).all p = true
  | [] => rfl
  | c :: t => by
    unfold Lx.runL
    split
    · rename_i h
      simp [h, Lx.runL_all2 p t]
    · rfl
def Lx.Gives (t : Lx.Tried) : Prop := ∀ p n, t = .got p n → Lx.Good p ∧ 1 ≤ n
theorem Lx.gives_or {a b : Lx.Tried} (ha : Lx.Gives a) (hb : Lx.Gives b) : Lx.Gives (Lx.orElse a b) := by
  cases a with
  | none => exact hb
  | bad w => exact ha
  | got p n => exact ha
theorem Lx.fig_up : ∀ (l : Lx.Bs) (x : Int), l.all Lx.isDig = true → 0 ≤ x → 0 ≤ l.foldl Lx.addUp x
  | [], _, _, hx => hx
  | c :: t, x, hl, hx => by
    simp only [List.all_cons, Bool.and_eq_true] at hl
    have hc := hl.1
    unfold Lx.isDig at hc
    simp only [Bool.and_eq_true, decide_eq_true_eq] at hc
    refine Lx.fig_up t _ hl.2 ?_
    unfold Lx.addUp
    split <;> omega
theorem Lx.good_piece (l : Lx.Bs) (p : Lx.Piece) (n : Nat) (h : Lx.piece l = .got p n) : Lx.Good p ∧ 1 ≤ n := by
  have hlet : Lx.Gives (Lx.letters l) := by
    intro p n h
    have hall := Lx.runL_all2 Lx.isLet l
    have hle := Lx.runL_le Lx.isLet l
    unfold Lx.letters at h
    obtain ⟨m, hm⟩ : ∃ m, m = Lx.runL Lx.isLet l := ⟨_, rfl⟩
    rw [← hm] at h hall hle
    split at h
    · cases h
    · rename_i hm0
      split at h
      · cases h
      · rename_i hk
        simp only [Lx.Tried.got.injEq] at h
        obtain ⟨rfl, rfl⟩ := h
        clear hm
        refine ⟨⟨?_, hall, ?_⟩, by omega⟩
        · intro h0
          have h1 := congrArg List.length h0
          rw [List.length_take, List.length_nil] at h1
          omega
        · by_cases h8 : 8 < m
          · right
            cases hx : Lx.isKey (l.take m)
            · exact absurd ⟨h8, hx⟩ hk
            · rfl
          · left
            rw [List.length_take]
            omega
  have hdig : Lx.Gives (Lx.digits l) := by
    intro p n h
    have hall := Lx.runL_all2 Lx.isDig (Lx.afterTilde l)
    unfold Lx.digits at h
    obtain ⟨m, hm⟩ : ∃ m, m = Lx.runL Lx.isDig (Lx.afterTilde l) := ⟨_, rfl⟩
    rw [← hm] at h hall
    have hf0 : 0 ≤ Lx.figure ((Lx.afterTilde l).take m) := Lx.fig_up _ 0 hall (by omega)
    split at h
    · cases h
    · split at h
      · cases h
      · rename_i hm0 hbad
        have h9 : Lx.figure ((Lx.afterTilde l).take m) ≤ 1000000000 := by
          refine Int.not_lt.1 (fun hx => hbad (.inr (.inr hx)))
        simp only [Lx.Tried.got.injEq] at h
        obtain ⟨rfl, rfl⟩ := h
        refine ⟨?_, by omega⟩
        show _ ≤ _ ∧ _ ≤ _
        split <;> omega
  have hquo : Lx.Gives (Lx.quoted l) := by
    intro p n h
    have hall := Lx.runL_all2 Lx.isTxt l.tail
    have hle := Lx.runL_le Lx.isTxt l.tail
    unfold Lx.quoted at h
    obtain ⟨m, hm⟩ : ∃ m, m = Lx.runL Lx.isTxt l.tail := ⟨_, rfl⟩
    rw [← hm] at h hall hle
    split at h
    · cases h
    · split at h
      · cases h
      · split at h
        · cases h
        · simp only [Lx.Tried.got.injEq] at h
          obtain ⟨rfl, rfl⟩ := h
          refine ⟨⟨?_, hall⟩, by omega⟩
          rw [List.length_take]
          omega
  have hsgn : ∀ ws : List Lx.Bs, (∀ x ∈ ws, x ∈ Lx.signWords) → Lx.Gives (Lx.signAt l ws) := by
    intro ws
    induction ws with
    | nil => intro _ p n h; cases h
    | cons x ws ih =>
      intro hw p n h
      unfold Lx.signAt at h
      split at h
      · cases h
        refine ⟨hw x (by simp), ?_⟩
        have hs : ∀ x ∈ Lx.signWords, 1 ≤ x.length := by decide
        exact hs x (hw x (by simp))
      · exact ih (fun y hy => hw y (by simp [hy])) p n h
  have hf : Lx.Gives (Lx.tried l) := Lx.gives_or hlet (Lx.gives_or hdig (Lx.gives_or hquo (hsgn _ (fun _ h => h))))
  unfold Lx.piece at h
  cases ht : Lx.tried l with
  | none => rw [ht] at h; cases h
  | bad w => rw [ht] at h; cases h
  | got q m => rw [ht] at h; exact hf p n (ht.trans h)
theorem Lx.readF_good : ∀ (g pos : Nat) (l : Lx.Bs), ∀ x ∈ (Lx.readF g pos l).1, Lx.Good x.2
  | 0, _, _, x, h => by simp [Lx.readF] at h
  | g + 1, pos, l, x, h => by
    by_cases hl : l = []
    · rw [Lx.readF, if_pos hl] at h
      simp at h
    · cases hp : Lx.piece l with
      | none =>
        rw [Lx.readF, if_neg hl, hp] at h
        simp at h
      | bad w =>
        rw [readF_bad hl hp] at h
        simp at h
      | got p n =>
        rw [readF_got hl hp] at h
        simp only [List.mem_cons] at h
        rcases h with rfl | h
        · exact (Lx.good_piece l p n hp).1
        · exact Lx.readF_good g _ _ x h
theorem Lx.readAll_good (l : Lx.Bs) : ∀ x ∈ (Lx.readAll l).1, Lx.Good x.2 := Lx.readF_good _ _ _
end Go.Proofs.YtkijoeihkajlcaaDoor

set_option linter.unusedVariables false
set_option linter.unusedSimpArgs false
namespace Go.Proofs.YtkijoeihkajlcaaDoor
open Go.RowKit Go.Shelf

/-- The number that digits say, with no bound. -/
def valF (l : Lx.Bs) (X : Nat) : Nat := l.foldl (fun x c => 10 * x + (c.toNat - 48)) X
theorem valF_cons (c : UInt8) (l : Lx.Bs) (X : Nat) : valF (c :: l) X = valF l (10 * X + (c.toNat - 48)) := by
  unfold valF
  rw [List.foldl_cons]
theorem pow_step (X P d : Nat) : X * (P * 10) ≤ (10 * X + d) * P := by
  have h : X * (P * 10) = (10 * X) * P := by
    rw [Nat.mul_comm P 10, ← Nat.mul_assoc]
    rw [Nat.mul_comm X 10]
  rw [h]
  exact Nat.mul_le_mul_right P (Nat.le_add_right (10 * X) d)
theorem valF_pow (l : Lx.Bs) : ∀ X : Nat, X * 10 ^ l.length ≤ valF l X := by
  induction l with
  | nil => intro X; simp [valF]
  | cons c l ih =>
    intro X
    have h := ih (10 * X + (c.toNat - 48))
    rw [valF_cons, List.length_cons, Nat.pow_succ]
    exact Nat.le_trans (pow_step _ _ _) h
theorem valF_ge (l : Lx.Bs) (X : Nat) : X ≤ valF l X := Nat.le_trans (Nat.le_mul_of_pos_right _ (Nat.pow_pos (by omega))) (valF_pow l X)
theorem dig_bounds {c : UInt8} (h : Lx.isDig c = true) : 48 ≤ c.toNat ∧ c.toNat ≤ 57 := by simpa [Lx.isDig] using h
theorem addUp_stay : ∀ (l : Lx.Bs) (x : Int), 1000000000 < x → l.foldl Lx.addUp x = x
  | [], x, _ => rfl
  | c :: l, x, h => by rw [List.foldl_cons, Lx.addUp, if_neg (by omega)]; exact addUp_stay l x h
theorem fig_val : ∀ (l : Lx.Bs) (X : Nat), (∀ c ∈ l, Lx.isDig c = true) → (valF l X ≤ 1000000000 → l.foldl Lx.addUp (X : Int) = valF l X) ∧ (1000000000 < valF l X → 1000000000 < l.foldl Lx.addUp (X : Int))
  | [], X, _ => ⟨fun _ => rfl, fun h => by have h' : 1000000000 < X := h; simp only [List.foldl_nil]; omega⟩
  | c :: l, X, hd => by
    have hc := dig_bounds (hd c (by simp))
    have ih := fig_val l (10 * X + (c.toNat - 48)) (fun x hx => hd x (by simp [hx]))
    rw [valF_cons, List.foldl_cons]
    by_cases hX : X ≤ 1000000000
    · have he : Lx.addUp (X : Int) c = ((10 * X + (c.toNat - 48) : Nat) : Int) := by
        rw [Lx.addUp, if_pos (by omega)]
        omega
      rw [he]
      exact ih
    · have he : Lx.addUp (X : Int) c = X := by rw [Lx.addUp, if_neg (by omega)]
      have hg := valF_ge l (10 * X + (c.toNat - 48))
      refine ⟨fun h => by omega, fun _ => ?_⟩
      rw [he, addUp_stay l _ (by omega)]
      omega
theorem runL_mem (p : UInt8 → Bool) : ∀ (l : Lx.Bs), ∀ c ∈ l.take (Lx.runL p l), p c = true
  | [], c, h => by simp at h
  | x :: l, c, h => by
    unfold Lx.runL at h
    split at h
    · rename_i hx
      rw [List.take_succ_cons, List.mem_cons] at h
      rcases h with rfl | h
      · exact hx
      · exact runL_mem p l c h
    · simp at h

theorem runL_take_len (p : UInt8 → Bool) (l : Lx.Bs) : (l.take (Lx.runL p l)).length = Lx.runL p l := by
  have := Lx.runL_le p l
  rw [List.length_take]
  omega
theorem headD_take (l : Lx.Bs) (n : Nat) (h : 0 < n) : (l.take n).headD 0 = l.headD 0 := by
  cases l with
  | nil => simp
  | cons c l =>
    obtain ⟨m, rfl⟩ : ∃ m, n = m + 1 := ⟨n - 1, by omega⟩
    rfl

theorem valF_snoc (l : Lx.Bs) (c : UInt8) (X : Nat) : valF (l ++ [c]) X = 10 * valF l X + (c.toNat - 48) := by
  unfold valF
  rw [List.foldl_append, List.foldl_cons, List.foldl_nil]
theorem valF_pos (c : UInt8) (l : Lx.Bs) (h1 : Lx.isDig c = true) (h2 : c ≠ 48) : 1 ≤ valF (c :: l) 0 := by
  have hc := dig_bounds h1
  have hc2 : c.toNat ≠ 48 := fun h => h2 (UInt8.toNat_inj.1 h)
  rw [valF_cons]
  have h := valF_ge l (10 * 0 + (c.toNat - 48))
  omega
theorem dec_val : ∀ (n : Nat) (ds : Lx.Bs), ds.length = n → 0 < n → (∀ c ∈ ds, Lx.isDig c = true) → (n = 1 ∨ ds.headD 0 ≠ 48) → Lib.decDigits (valF ds 0) = ds := by
  intro n
  induction n with
  | zero => intro ds _ h; omega
  | succ n ih =>
    intro ds hl _ hd hz
    have hne : ds ≠ [] := by rintro rfl; simp at hl
    obtain ⟨init, c, rfl⟩ : ∃ init c, ds = init ++ [c] := ⟨ds.dropLast, ds.getLast hne, (List.dropLast_concat_getLast hne).symm⟩
    have hcd := dig_bounds (hd c (by simp))
    have hil : init.length = n := by simp at hl; exact hl
    have hof : UInt8.ofNat (48 + (c.toNat - 48)) = c := by
      rw [show 48 + (c.toNat - 48) = c.toNat by omega]
      simp
    rw [valF_snoc]
    by_cases hn : n = 0
    · have : init = [] := List.length_eq_zero_iff.1 (by omega)
      subst this
      have hv0 : valF [] 0 = 0 := rfl
      rw [hv0, Lib.decDigits_one (by omega)]
      simp only [Nat.mul_zero, Nat.zero_add, List.nil_append, hof]
    · have hi0 : init ≠ [] := by rintro rfl; simp at hil; omega
      obtain ⟨a, l, rfl⟩ : ∃ a l, init = a :: l := List.exists_cons_of_ne_nil hi0
      have ha : a ≠ 48 := by
        rcases hz with h | h
        · omega
        · simpa using h
      have hvp := valF_pos a l (hd a (by simp)) ha
      have hih := ih (a :: l) hil (by omega) (fun x hx => hd x (List.mem_append_left _ hx)) (.inr (by simpa using ha))
      obtain ⟨V, hV⟩ : ∃ V, V = valF (a :: l) 0 := ⟨_, rfl⟩
      rw [← hV] at hvp hih ⊢
      rw [Lib.decDigits, dif_neg (by omega)]
      have e1 : (10 * V + (c.toNat - 48)) / 10 = V := by omega
      have e2 : (10 * V + (c.toNat - 48)) % 10 = c.toNat - 48 := by omega
      rw [e1, e2, hih, hof]

/-- A try that takes something takes its word, and what it takes is as defined. -/
def Says (l : Lx.Bs) (t : Lx.Tried) : Prop := ∀ p n, t = .got p n → Lx.spelled p = l.take n ∧ (∀ N, p = .num N → -1000000000 ≤ N ∧ N ≤ 1000000000)
theorem says_or {l : Lx.Bs} {a b : Lx.Tried} (ha : Says l a) (hb : Says l b) : Says l (Lx.orElse a b) := by
  cases a with
  | none => exact hb
  | bad w => exact ha
  | got p n => exact ha
theorem says_letters (l : Lx.Bs) : Says l (Lx.letters l) := by
  intro p n h
  unfold Lx.letters at h
  split at h
  · cases h
  · split at h
    · cases h
    · cases h
      exact ⟨rfl, fun N h => by cases h⟩
theorem says_signAt (l : Lx.Bs) : ∀ ws : List Lx.Bs, Says l (Lx.signAt l ws)
  | [] => by intro p n h; cases h
  | x :: ws => by
    intro p n h
    unfold Lx.signAt at h
    split at h
    · rename_i hp
      cases h
      exact ⟨List.prefix_iff_eq_take.1 (List.isPrefixOf_iff_prefix.1 hp), fun N h => by cases h⟩
    · exact says_signAt l ws p n h
theorem says_quoted (l : Lx.Bs) : Says l (Lx.quoted l) := by
  intro p n h
  unfold Lx.quoted at h
  split at h
  · cases h
  · rename_i hq
    split at h
    · cases h
    · rename_i hno
      split at h
      · cases h
      · obtain ⟨m, hm⟩ : ∃ m, m = Lx.runL Lx.isTxt l.tail := ⟨_, rfl⟩
        rw [← hm] at h hno
        have h' := h
        simp only [Lx.Tried.got.injEq] at h'
        obtain ⟨rfl, rfl⟩ := h'
        refine ⟨?_, fun N h => by cases h⟩
        cases l with
        | nil => simp at hq
        | cons c t =>
          have hc : c = 34 := by simpa using hq
          subst hc
          simp only [List.tail_cons] at hno ⊢
          have hlt : m < t.length := by
            refine Nat.lt_of_not_le (fun hx => hno (.inl hx))
          have hx : t[m] = 34 := by
            have : ¬ (t.drop m).headD 0 ≠ 34 := fun hx => hno (.inr hx)
            rw [List.drop_eq_getElem_cons hlt] at this
            simpa [List.getElem?_eq_getElem hlt] using this
          show 34 :: (t.take m ++ [34]) = (34 :: t).take (m + 1 + 1)
          rw [List.take_succ_cons, List.take_succ_eq_append_getElem hlt, hx]
theorem spelled_num (n : Int) : Lx.spelled (.num n) = if n < 0 then 126 :: Lib.itoa (-n) else Lib.itoa n := rfl
theorem says_digits (l : Lx.Bs) : Says l (Lx.digits l) := by
  intro p n h
  unfold Lx.digits at h
  obtain ⟨d, hd⟩ : ∃ d, d = Lx.afterTilde l := ⟨_, rfl⟩
  rw [← hd] at h
  split at h
  · cases h
  · rename_i hm0
    split at h
    · cases h
    · rename_i hbad
      obtain ⟨m, hm⟩ : ∃ m, m = Lx.runL Lx.isDig d := ⟨_, rfl⟩
      have hma := runL_mem Lx.isDig d
      have hml := runL_take_len Lx.isDig d
      rw [← hm] at h hm0 hbad hma hml
      simp only [Lx.Tried.got.injEq] at h
      obtain ⟨rfl, rfl⟩ := h
      obtain ⟨ds, hds⟩ : ∃ ds, ds = d.take m := ⟨_, rfl⟩
      have hh : ds.headD 0 = d.headD 0 := by rw [hds]; exact headD_take d m (by omega)
      rw [← hds] at hbad hma hml ⊢
      have hfv := fig_val ds 0 hma
      have hle : valF ds 0 ≤ 1000000000 := by
        refine Nat.le_of_not_lt (fun hx => hbad (.inr (.inr ?_)))
        exact hfv.2 hx
      have hfig : Lx.figure ds = (valF ds 0 : Nat) := hfv.1 hle
      have hdec : Lib.decDigits (valF ds 0) = ds := dec_val m ds hml (by omega) hma (by
        by_cases h1 : m = 1
        · exact .inl h1
        · right
          intro h48
          exact hbad (.inl ⟨by omega, by rw [← hh]; exact h48⟩))
      obtain ⟨V, hV⟩ : ∃ V, V = valF ds 0 := ⟨_, rfl⟩
      rw [← hV] at hle hfig hdec
      rw [hfig] at hbad ⊢
      cases ht : Lx.tilde l
      · have hdl : d = l := by rw [hd, Lx.afterTilde, if_neg (by rw [ht]; simp)]
        simp only [Bool.false_eq_true, if_false, Nat.add_zero]
        refine ⟨?_, fun N h => by cases h; omega⟩
        rw [spelled_num, if_neg (by omega)]
        unfold Lib.itoa
        rw [if_neg (by omega), Int.toNat_natCast, hdec, hds, hdl]
      · have hV0 : V ≠ 0 := by
          intro h0
          exact hbad (.inr (.inl ⟨by rw [h0]; rfl, ht⟩))
        simp only [if_true]
        refine ⟨?_, fun N h => by cases h; omega⟩
        rw [spelled_num, if_pos (by omega)]
        unfold Lib.itoa
        rw [if_neg (by omega)]
        have e : (-(-(V : Int))).toNat = V := by omega
        rw [e, hdec, hds]
        cases l with
        | nil => simp [Lx.tilde] at ht
        | cons c t =>
          have hc : c = 126 := by simpa [Lx.tilde] using ht
          subst hc
          have hdl : d = t := by rw [hd, Lx.afterTilde, if_pos ht]; rfl
          rw [hdl, List.take_succ_cons]
theorem got_says (l : Lx.Bs) (p : Lx.Piece) (n : Nat) (h : Lx.piece l = .got p n) : Lx.spelled p = l.take n ∧ (∀ N, p = .num N → -1000000000 ≤ N ∧ N ≤ 1000000000) := by
  have hf : Says l (Lx.tried l) := says_or (says_letters l) (says_or (says_digits l) (says_or (says_quoted l) (says_signAt l _)))
  unfold Lx.piece at h
  cases ht : Lx.tried l with
  | none => rw [ht] at h; cases h
  | bad w => rw [ht] at h; cases h
  | got q m => rw [ht] at h; exact hf p n (ht.trans h)

theorem nd_le : ∀ (k U : Nat), 1 ≤ k → U < 10 ^ k → Lib.nDigits U ≤ k
  | 0, _, h, _ => by omega
  | k + 1, U, _, h => by
    by_cases hs : U < 10
    · rw [Lib.nDigits_small hs]; omega
    · rw [Lib.nDigits_big hs]
      rw [Nat.pow_succ] at h
      have hk : 1 ≤ k := by
        rcases Nat.eq_zero_or_pos k with rfl | hp
        · simp at h; omega
        · exact hp
      have := nd_le k (U / 10) hk (by omega)
      omega
theorem got_size (l : Lx.Bs) (p : Lx.Piece) (n : Nat) (h : Lx.piece l = .got p n) : (Lx.spelled p).length = n := by
  rw [(got_says l p n h).1, List.length_take]
  have := (got_len l p n h).2
  omega

/-- Where pieces stand. -/
theorem Lx.readF_at : ∀ (g pos : Nat) (l : Lx.Bs), ∀ x ∈ (Lx.readF g pos l).1, pos ≤ x.1 ∧ x.1 + (Lx.spelled x.2).length ≤ pos + l.length
  | 0, pos, l, x, h => by simp [Lx.readF] at h
  | g + 1, pos, l, x, h => by
    by_cases hl : l = []
    · rw [Lx.readF, if_pos hl] at h
      simp at h
    · cases hp : Lx.piece l with
      | none =>
        rw [Lx.readF, if_neg hl, hp] at h
        simp at h
      | bad w =>
        rw [readF_bad hl hp] at h
        simp at h
      | got p n =>
        have hsz := got_size l p n hp
        have hfit := got_len l p n hp
        rw [readF_got hl hp] at h
        simp only [List.mem_cons] at h
        rcases h with rfl | h
        · simp only
          omega
        · obtain ⟨m, hm⟩ : ∃ m, m = n + Lx.skipL (l.drop n) := ⟨_, rfl⟩
          rw [← hm] at h
          have ih := Lx.readF_at g _ _ x h
          rw [List.length_drop] at ih
          have hsk := skipF_le (l.drop n) false
          rw [List.length_drop] at hsk
          have : m ≤ l.length := by
            rw [hm]
            show n + Lx.skipF false (l.drop n) ≤ _
            omega
          omega
/-- How long the words are together. -/
theorem Lx.readF_sum : ∀ (g pos : Nat) (l : Lx.Bs), ((Lx.readF g pos l).1.map fun x => (Lx.spelled x.2).length).sum ≤ l.length
  | 0, pos, l => by simp [Lx.readF]
  | g + 1, pos, l => by
    by_cases hl : l = []
    · rw [Lx.readF, if_pos hl]
      simp
    · cases hp : Lx.piece l with
      | none =>
        rw [Lx.readF, if_neg hl, hp]
        simp
      | bad w =>
        rw [readF_bad hl hp]
        simp
      | got p n =>
        have hsz := got_size l p n hp
        have hfit := got_len l p n hp
        rw [readF_got hl hp]
        simp only [List.map_cons, List.sum_cons]
        have ih := Lx.readF_sum g (pos + (n + Lx.skipL (l.drop n))) (l.drop (n + Lx.skipL (l.drop n)))
        rw [List.length_drop] at ih
        omega
theorem Lx.count_sum : ∀ (ps : List (Nat × Lx.Piece)), (∀ x ∈ ps, Lx.Good x.2) → ps.length ≤ (ps.map fun x => (Lx.spelled x.2).length).sum ∧ (ps.map fun x => (Lx.spelled x.2).length + 1).sum = (ps.map fun x => (Lx.spelled x.2).length).sum + ps.length
  | [], _ => by simp
  | x :: ps, h => by
    have ih := Lx.count_sum ps (fun y hy => h y (by simp [hy]))
    have := Lx.good_len x.2 (h x (by simp))
    simp only [List.map_cons, List.sum_cons, List.length_cons]
    omega
theorem Lx.readAll_fits (l : Lx.Bs) (ps : List (Nat × Lx.Piece)) (er : Option (Nat × Int)) (h : Lx.readAll l = (ps, er)) :
    (∀ x ∈ ps, Lx.Good x.2 ∧ x.1 + (Lx.spelled x.2).length ≤ l.length) ∧ ps.length ≤ l.length ∧ (ps.map fun x => (Lx.spelled x.2).length).sum ≤ l.length ∧ (ps.map fun x => (Lx.spelled x.2).length + 1).sum ≤ 2 * l.length := by
  have hg := Lx.readAll_good l
  have ha := Lx.readF_at (l.length + 1) (Lx.skipL l) (l.drop (Lx.skipL l))
  have hs := Lx.readF_sum (l.length + 1) (Lx.skipL l) (l.drop (Lx.skipL l))
  have hk : Lx.skipL l ≤ l.length := skipF_le l false
  rw [show Lx.readF (l.length + 1) (Lx.skipL l) (l.drop (Lx.skipL l)) = Lx.readAll l from rfl, h, List.length_drop] at ha hs
  rw [h] at hg
  simp only at hg ha hs
  have hc := Lx.count_sum ps hg
  refine ⟨fun x hx => ⟨hg x hx, ?_⟩, by omega, by omega, by omega⟩
  have := ha x hx
  omega
end Go.Proofs.YtkijoeihkajlcaaDoor

set_option linter.unusedVariables false
set_option linter.unusedSimpArgs false
namespace Go.Proofs.YtkijoeihkajlcaaDoor
open Go.RowKit Go.Shelf

theorem Lx.key_len (s : Lx.Bs) (h : Lx.isKey s = true) : s.length ≤ 8 := by
  have hk : ∀ x ∈ Lx.keyWords, x.length ≤ 8 := by decide
  exact hk s (by unfold Lx.isKey at h; simpa using h)
theorem Lx.key_good (s : Lx.Bs) (h : Lx.isKey s = true) : s ≠ [] ∧ s.all Lx.isLet = true := by
  have hk : ∀ x ∈ Lx.keyWords, x ≠ [] ∧ x.all Lx.isLet = true := by decide
  exact hk s (by unfold Lx.isKey at h; simpa using h)
theorem Lx.word_len (s : Lx.Bs) (h : Lx.Good (.word s)) : s.length ≤ 8 := h.2.2.elim id (Lx.key_len s)
/-- The token of a piece that is as defined is as defined. -/
theorem Lx.pieceOf_good (a : Nat) (p : Lx.Piece) (hg : Lx.Good p) (ha : a ≤ 4000) : Lx.pieceOf (tokS (a, p)) = some p := by
  have hz : ¬ ((a : Int) < 0 ∨ 4000 < (a : Int)) := by omega
  cases p with
  | word s =>
    have hg' : s ≠ [] ∧ s.all Lx.isLet = true ∧ (s.length ≤ 8 ∨ Lx.isKey s = true) := hg
    have h8 := Lx.word_len s hg
    have h1 := List.length_pos_iff.2 hg'.1
    unfold Lx.pieceOf
    simp only [tokS, tokK, tokT, tokN, bsOf]
    by_cases hk : Lx.isKey s = true
    · simp only [hk, if_true]
      rw [if_neg (by simp; omega)]
      simp
    · have hn : Lx.isName s = true := by
        unfold Lx.isName
        have hk' : Lx.isKey s = false := by simpa using hk
        rw [hg'.2.1, hk']
        simp
        omega
      simp only [hk, Bool.false_eq_true, if_false]
      rw [if_neg (by simp; omega)]
      simp [hn]
  | num N =>
    have hg' : -1000000000 ≤ N ∧ N ≤ 1000000000 := hg
    unfold Lx.pieceOf
    simp only [tokS, tokK, tokT, tokN, bsOf]
    rw [if_neg (by simp; omega)]
    simp [hg']
  | str s =>
    have hg' : s.length ≤ 20 ∧ s.all Lx.isTxt = true := hg
    unfold Lx.pieceOf
    simp only [tokS, tokK, tokT, tokN, bsOf]
    rw [if_neg (by simp; omega)]
    have hz : (⟨s.toArray⟩ : ByteArray).size = s.length := rfl
    simp [hg'.2, hz, hg'.1]
  | sgn s =>
    have hg' : s ∈ Lx.signWords := hg
    unfold Lx.pieceOf
    simp only [tokS, tokK, tokT, tokN, bsOf]
    rw [if_neg (by simp; omega)]
    simp [hg']
theorem Lx.word_good (a : Nat) (p : Lx.Piece) (hg : Lx.Good p) (ha : a ≤ 4000) : Lx.word (tokS (a, p)) = (Lx.spelled p, 0) := by
  unfold Lx.word
  rw [Lx.pieceOf_good a p hg ha]
theorem Lx.words_good : ∀ ps : List (Nat × Lx.Piece), (∀ x ∈ ps, Lx.Good x.2 ∧ x.1 ≤ 4000) → Lx.words (ps.map tokS) = some (ps.map fun x => Lx.spelled x.2)
  | [], _ => rfl
  | x :: ps, h => by
    have hx := h x (by simp)
    have hw : Lx.word (tokS x) = (Lx.spelled x.2, 0) := Lx.word_good x.1 x.2 hx.1 hx.2
    simp only [List.map_cons, Lx.words, hw, if_true, Lx.words_good ps (fun y hy => h y (by simp [hy])), Option.map_some]
theorem Lx.text_good (ps : List (Nat × Lx.Piece)) (h : ∀ x ∈ ps, Lx.Good x.2 ∧ x.1 ≤ 4000) : Lx.text (ps.map tokS) = (Lx.joined (ps.map fun x => Lx.spelled x.2), 0) := by
  unfold Lx.text
  rw [Lx.words_good ps h]
theorem Lx.long_good : ∀ (ps : List (Nat × Lx.Piece)), (∀ x ∈ ps, Lx.Good x.2 ∧ x.1 ≤ 4000) → Lx.long (ps.map tokS) = (ps.map fun x => (Lx.spelled x.2).length + 1).sum
  | [], _ => rfl
  | x :: ps, h => by
    have hx := h x (by simp)
    have hw : Lx.word (tokS x) = (Lx.spelled x.2, 0) := Lx.word_good x.1 x.2 hx.1 hx.2
    have ih := Lx.long_good ps (fun y hy => h y (by simp [hy]))
    unfold Lx.long at ih ⊢
    simp only [List.map_cons, List.sum_cons, hw]
    rw [ih]
theorem Lx.size_good (a : Nat) (p : Lx.Piece) (hg : Lx.Good p) : (tokS (a, p)).f1.size ≤ 20 := by
  cases p with
  | word s =>
    have := Lx.word_len s hg
    show s.length ≤ 20
    omega
  | num N => show 0 ≤ 20; omega
  | str s => exact hg.1
  | sgn s =>
    have := sign_short s hg
    show s.length ≤ 20
    omega
theorem Lx.joined_le : ∀ (ps : List (Nat × Lx.Piece)), (Lx.joined (ps.map fun x => Lx.spelled x.2)).length ≤ (ps.map fun x => (Lx.spelled x.2).length + 1).sum
  | [] => by simp [Lx.joined, Lib.join, List.intercalate]
  | [x] => by simp [Lx.join_one]
  | x :: y :: ps => by
    have ih := Lx.joined_le (y :: ps)
    simp only [List.map_cons, List.sum_cons] at ih ⊢
    rw [Lx.join_cons, List.length_append, List.length_cons]
    omega
theorem Lx.good_ok (p : Lx.Piece) (hg : Lx.Good p) : PieceOk p := by
  cases p with
  | word s =>
    have := Lx.word_len s hg
    show s.length ≤ 4000
    omega
  | num N => exact hg
  | str s =>
    have : s.length ≤ 20 := hg.1
    show s.length ≤ 4000
    omega
  | sgn s =>
    have := sign_short s hg
    show s.length ≤ 4000
    omega
/-- What Strip's contract asks of a source. -/
def Lx.Fits (l : Lx.Bs) : Prop := (Lx.toks l).1.length ≤ 4000 ∧ (∀ t ∈ (Lx.toks l).1.map tokS, t.f1.size ≤ 4000) ∧ Lx.long ((Lx.toks l).1.map tokS) ≤ 4000
theorem Lx.fits_of (l : Lx.Bs) (hl : l.length ≤ 2000) (ps : List (Nat × Lx.Piece)) (h : Lx.readAll l = (ps, none)) : Lx.toks l = (ps, 0) ∧ Lx.Fits l ∧ Lx.strip l = (Lx.joined (ps.map fun x => Lx.spelled x.2), 0) := by
  have ht : Lx.toks l = (ps, 0) := by
    unfold Lx.toks
    rw [if_neg (by omega), h]
  obtain ⟨h1, h2, h3, h4⟩ := Lx.readAll_fits l ps none h
  have hg : ∀ x ∈ ps, Lx.Good x.2 ∧ x.1 ≤ 4000 := fun x hx => ⟨(h1 x hx).1, by have := (h1 x hx).2; omega⟩
  refine ⟨ht, ⟨?_, ?_, ?_⟩, ?_⟩
  · rw [ht]; simp only; omega
  · rw [ht]
    intro t hm
    obtain ⟨x, hx, rfl⟩ := List.mem_map.1 hm
    have := Lx.size_good x.1 x.2 (h1 x hx).1
    show (tokS (x.1, x.2)).f1.size ≤ 4000
    omega
  · rw [ht]
    simp only
    rw [Lx.long_good ps hg]
    omega
  · unfold Lx.strip
    rw [ht]
    simp only [if_true]
    exact Lx.text_good ps hg
theorem Lx.fits_bad (l : Lx.Bs) (h : (Lx.toks l).1 = []) : Lx.Fits l := by
  unfold Lx.Fits
  rw [h]
  refine ⟨by simp, by simp, ?_⟩
  show 0 ≤ 4000
  omega
/-- What was stripped is the same when it is stripped again. -/
theorem Lx.strip_twice (l : Lx.Bs) (hl : l.length ≤ 400) (ps : List (Nat × Lx.Piece)) (h : Lx.readAll l = (ps, none)) (s : Lx.Bs) (hs : s = Lx.joined (ps.map fun x => Lx.spelled x.2)) :
    s.length ≤ 800 ∧ Lx.Fits s ∧ Lx.strip s = (s, 0) := by
  obtain ⟨h1, h2, h3, h4⟩ := Lx.readAll_fits l ps none h
  have hle := Lx.joined_le ps
  rw [← hs] at hle
  have hmap : (ps.map fun x => Lx.spelled x.2) = (ps.map Prod.snd).map Lx.spelled := by rw [List.map_map]; rfl
  have hb := Lx.readAll_back (ps.map Prod.snd) (by
    intro p hp
    obtain ⟨x, hx, rfl⟩ := List.mem_map.1 hp
    exact (h1 x hx).1)
  rw [← hmap, ← hs] at hb
  obtain ⟨_, hf, hst⟩ := Lx.fits_of s (by omega) _ hb
  refine ⟨by omega, hf, ?_⟩
  rw [hst]
  have : (Lx.placed 0 (ps.map Prod.snd)).map (fun x => Lx.spelled x.2) = (ps.map Prod.snd).map Lx.spelled := by
    rw [show (fun x : Nat × Lx.Piece => Lx.spelled x.2) = Lx.spelled ∘ Prod.snd from rfl, ← List.map_map, Lx.placed_map]
  rw [this, ← hmap, ← hs]
end Go.Proofs.YtkijoeihkajlcaaDoor

set_option linter.unusedVariables false
set_option linter.unusedSimpArgs false
namespace Go.Proofs.YtkijoeihkajlcaaDoor
open Go.RowKit Go.Shelf

/-! ### how many rounds, and places -/
theorem Lx.skip_le (l : Lx.Bs) : Lx.skipL l ≤ l.length := skipF_le l false
theorem Lx.readF_fuel : ∀ (g h pos : Nat) (l : Lx.Bs), l.length < g → l.length < h → Lx.readF g pos l = Lx.readF h pos l
  | 0, _, _, _, h1, _ => by omega
  | _, 0, _, _, _, h2 => by omega
  | g + 1, h + 1, pos, l, h1, h2 => by
    by_cases hl : l = []
    · rw [Lx.readF, if_pos hl, Lx.readF, if_pos hl]
    · cases hp : Lx.piece l with
      | none => rw [Lx.readF, if_neg hl, hp, Lx.readF, if_neg hl, hp]
      | bad w => rw [readF_bad hl hp, readF_bad hl hp]
      | got p n =>
        have hfit := got_len l p n hp
        rw [readF_got hl hp, readF_got hl hp, Lx.readF_fuel g h _ _ (by rw [List.length_drop]; omega) (by rw [List.length_drop]; omega)]
def Lx.shift (d : Nat) (r : List (Nat × Lx.Piece) × Option (Nat × Int)) : List (Nat × Lx.Piece) × Option (Nat × Int) :=
  (r.1.map fun x => (x.1 + d, x.2), r.2.map fun x => (x.1 + d, x.2))
theorem Lx.readF_shift (d : Nat) : ∀ (g pos : Nat) (l : Lx.Bs), Lx.readF g (pos + d) l = Lx.shift d (Lx.readF g pos l)
  | 0, _, _ => rfl
  | g + 1, pos, l => by
    by_cases hl : l = []
    · rw [Lx.readF, if_pos hl, Lx.readF, if_pos hl]
      rfl
    · cases hp : Lx.piece l with
      | none =>
        rw [Lx.readF, if_neg hl, hp, Lx.readF, if_neg hl, hp]
        rfl
      | bad w =>
        rw [readF_bad hl hp, readF_bad hl hp]
        rfl
      | got p n =>
        rw [readF_got hl hp, readF_got hl hp]
        have e : pos + d + (n + Lx.skipL (l.drop n)) = pos + (n + Lx.skipL (l.drop n)) + d := by omega
        rw [e, Lx.readF_shift d g]
        rfl
/-- Reading from a place on that may be in blanks. -/
def Lx.readS (pos : Nat) (l : Lx.Bs) : List (Nat × Lx.Piece) × Option (Nat × Int) := Lx.readF (l.length + 1) (pos + Lx.skipL l) (l.drop (Lx.skipL l))
theorem Lx.readAll_S (l : Lx.Bs) : Lx.readAll l = Lx.readS 0 l := by unfold Lx.readAll Lx.readS; rw [Nat.zero_add]
theorem Lx.readS_shift (d pos : Nat) (l : Lx.Bs) : Lx.readS (pos + d) l = Lx.shift d (Lx.readS pos l) := by
  unfold Lx.readS
  rw [show pos + d + Lx.skipL l = pos + Lx.skipL l + d by omega, Lx.readF_shift]
theorem Lx.readS_nil {pos : Nat} {l : Lx.Bs} (h : Lx.skipL l = l.length) : Lx.readS pos l = ([], none) := by
  unfold Lx.readS
  rw [h, List.drop_length, Lx.readF, if_pos rfl]
theorem Lx.drop_ne {l : Lx.Bs} {n : Nat} (h : n < l.length) : l.drop n ≠ [] := by
  intro h0
  have := congrArg List.length h0
  rw [List.length_drop, List.length_nil] at this
  omega
theorem Lx.readS_got {pos : Nat} {l : Lx.Bs} {p : Lx.Piece} {n : Nat} (h : Lx.skipL l < l.length) (hp : Lx.piece (l.drop (Lx.skipL l)) = .got p n) :
    Lx.readS pos l = ((pos + Lx.skipL l, p) :: (Lx.readS (pos + Lx.skipL l + n) (l.drop (Lx.skipL l + n))).1, (Lx.readS (pos + Lx.skipL l + n) (l.drop (Lx.skipL l + n))).2) := by
  have hfit := got_len _ p n hp
  rw [List.length_drop] at hfit
  unfold Lx.readS
  rw [readF_got (Lx.drop_ne h) hp]
  have e1 : (l.drop (Lx.skipL l)).drop n = l.drop (Lx.skipL l + n) := by rw [List.drop_drop]
  rw [e1]
  obtain ⟨r, hr⟩ : ∃ r, r = l.drop (Lx.skipL l + n) := ⟨_, rfl⟩
  have hrl : r.length = l.length - (Lx.skipL l + n) := by rw [hr, List.length_drop]
  have e2 : (l.drop (Lx.skipL l)).drop (n + Lx.skipL r) = r.drop (Lx.skipL r) := by rw [hr, List.drop_drop, List.drop_drop, Nat.add_assoc]
  rw [← hr, e2, show pos + Lx.skipL l + (n + Lx.skipL r) = pos + Lx.skipL l + n + Lx.skipL r by omega]
  rw [Lx.readF_fuel l.length (r.length + 1) _ _ (by rw [List.length_drop]; omega) (by rw [List.length_drop]; omega)]
theorem Lx.readS_bad {pos : Nat} {l : Lx.Bs} {w : Int} (h : Lx.skipL l < l.length) (hp : Lx.piece (l.drop (Lx.skipL l)) = .bad w) :
    Lx.readS pos l = ([], some (pos + Lx.skipL l, w)) := by
  unfold Lx.readS
  rw [readF_bad (Lx.drop_ne h) hp]
theorem Lx.piece_ne (l : Lx.Bs) : Lx.piece l ≠ .none := by
  unfold Lx.piece
  split
  · intro h; cases h
  · rename_i h; exact h

/-! ### a line feed between two sources -/
theorem Lx.runL_nl (p : UInt8 → Bool) (h : p 10 = false) (r : Lx.Bs) : ∀ l : Lx.Bs, Lx.runL p (l ++ 10 :: r) = Lx.runL p l
  | [] => by simp [Lx.runL, h]
  | c :: l => by simp only [List.cons_append, Lx.runL, Lx.runL_nl p h r l]
theorem Lx.pre_nl (r : Lx.Bs) : ∀ (x l : Lx.Bs), (∀ c ∈ x, c ≠ 10) → x.isPrefixOf (l ++ 10 :: r) = x.isPrefixOf l
  | [], _, _ => by simp
  | a :: x, [], h => by
    have : (a == (10 : UInt8)) = false := by simpa using h a (by simp)
    simp [List.isPrefixOf, this]
  | a :: x, c :: l, h => by
    simp only [List.cons_append, List.isPrefixOf, Lx.pre_nl r x l (fun c hc => h c (by simp [hc]))]
theorem Lx.letters_nl (l r : Lx.Bs) : Lx.letters (l ++ 10 :: r) = Lx.letters l := by
  unfold Lx.letters
  rw [Lx.runL_nl Lx.isLet (by decide), List.take_append_of_le_length (Lx.runL_le _ _)]
theorem Lx.headD_app {l : Lx.Bs} (h : l ≠ []) (r : Lx.Bs) : (l ++ r).headD 0 = l.headD 0 := by
  cases l with
  | nil => exact absurd rfl h
  | cons c t => rfl
theorem Lx.after_app {l : Lx.Bs} (h : l ≠ []) (r : Lx.Bs) : Lx.afterTilde (l ++ r) = Lx.afterTilde l ++ r := by
  cases l with
  | nil => exact absurd rfl h
  | cons c t =>
    have hun : ∀ t : Lx.Bs, Lx.afterTilde (c :: t) = if (c == 126) = true then t else c :: t := fun t => rfl
    rw [List.cons_append, hun, hun]
    by_cases hc : (c == 126) = true
    · rw [if_pos hc, if_pos hc]
    · rw [if_neg hc, if_neg hc, List.cons_append]
theorem Lx.digits_nl {l : Lx.Bs} (h : l ≠ []) (r : Lx.Bs) : Lx.digits (l ++ 10 :: r) = Lx.digits l := by
  unfold Lx.digits
  have ht : Lx.tilde (l ++ 10 :: r) = Lx.tilde l := by unfold Lx.tilde; rw [Lx.headD_app h]
  rw [Lx.after_app h, Lx.runL_nl Lx.isDig (by decide), List.take_append_of_le_length (Lx.runL_le _ _), ht]
  by_cases h0 : Lx.runL Lx.isDig (Lx.afterTilde l) = 0
  · rw [if_pos h0, if_pos h0]
  · have hne : Lx.afterTilde l ≠ [] := by
      intro hx
      rw [hx] at h0
      exact h0 rfl
    rw [Lx.headD_app hne]
theorem Lx.quoted_nl {l : Lx.Bs} (h : l ≠ []) (r : Lx.Bs) : Lx.quoted (l ++ 10 :: r) = Lx.quoted l := by
  cases l with
  | nil => exact absurd rfl h
  | cons c t =>
    have hun : ∀ t : Lx.Bs, Lx.quoted (c :: t) = if c ≠ 34 then .none else if t.length ≤ Lx.runL Lx.isTxt t ∨ (t.drop (Lx.runL Lx.isTxt t)).headD 0 ≠ 34 then .bad 2 else if 20 < Lx.runL Lx.isTxt t then .bad 4 else .got (.str (t.take (Lx.runL Lx.isTxt t))) (Lx.runL Lx.isTxt t + 2) := fun t => rfl
    rw [List.cons_append, hun, hun]
    rw [Lx.runL_nl Lx.isTxt (by decide), List.take_append_of_le_length (Lx.runL_le _ _), List.drop_append_of_le_length (Lx.runL_le _ _)]
    have hle := Lx.runL_le Lx.isTxt t
    obtain ⟨m, hm⟩ : ∃ m, m = Lx.runL Lx.isTxt t := ⟨_, rfl⟩
    rw [← hm] at hle ⊢
    by_cases hc : c ≠ 34
    · rw [if_pos hc, if_pos hc]
    · rw [if_neg hc, if_neg hc]
      by_cases hfull : m = t.length
      · have e : t.drop m = [] := by rw [hfull]; exact List.drop_length
        rw [if_pos (by right; rw [e]; exact (by decide : (10 : UInt8) ≠ 34)), if_pos (by left; omega)]
      · have hne := Lx.drop_ne (l := t) (n := m) (by omega)
        rw [Lx.headD_app hne]
        have e : ((t ++ 10 :: r).length ≤ m ∨ (t.drop m).headD 0 ≠ 34) ↔ (t.length ≤ m ∨ (t.drop m).headD 0 ≠ 34) := by
          have h1 : ¬ (t ++ 10 :: r).length ≤ m := by rw [List.length_append, List.length_cons]; omega
          have h2 : ¬ t.length ≤ m := by omega
          simp only [h1, h2, false_or]
        simp only [e]
theorem Lx.signAt_nl (l r : Lx.Bs) : ∀ ws : List Lx.Bs, (∀ x ∈ ws, ∀ c ∈ x, c ≠ 10) → Lx.signAt (l ++ 10 :: r) ws = Lx.signAt l ws
  | [], _ => rfl
  | x :: ws, h => by
    unfold Lx.signAt
    rw [Lx.pre_nl r x l (h x (by simp)), Lx.signAt_nl l r ws (fun y hy => h y (by simp [hy]))]
theorem Lx.piece_nl {l : Lx.Bs} (h : l ≠ []) (r : Lx.Bs) : Lx.piece (l ++ 10 :: r) = Lx.piece l := by
  have e : Lx.tried (l ++ 10 :: r) = Lx.tried l := by
    unfold Lx.tried Lx.signed
    rw [Lx.letters_nl, Lx.digits_nl h, Lx.quoted_nl h, Lx.signAt_nl l r _ (by decide)]
  unfold Lx.piece
  rw [e]
theorem Lx.skipF_nl (r : Lx.Bs) : ∀ (l : Lx.Bs) (b : Bool), Lx.skipF b (l ++ 10 :: r) = if Lx.skipF b l = l.length then l.length + 1 + Lx.skipL r else Lx.skipF b l
  | [], b => by
    cases b
    · simp only [List.nil_append, Lx.skipF, show Lx.isBlank 10 = true by decide, if_true]
      unfold Lx.skipL
      simp
      omega
    · simp only [List.nil_append, Lx.skipF, show Lx.notNl 10 = false by decide, Bool.false_eq_true, if_false]
      unfold Lx.skipL
      simp
      omega
  | c :: l, b => by
    have h1 := Lx.skipF_nl r l false
    have h2 := Lx.skipF_nl r l true
    cases b
    · simp only [List.cons_append, Lx.skipF, h1, h2]
      split
      · by_cases he : Lx.skipF false l = l.length
        · rw [if_pos he, if_pos (by simp [he])]
          simp; omega
        · rw [if_neg he, if_neg (by simp [he])]
      · split
        · by_cases he : Lx.skipF true l = l.length
          · rw [if_pos he, if_pos (by simp [he])]
            simp; omega
          · rw [if_neg he, if_neg (by simp [he])]
        · rw [if_neg (by simp)]
    · simp only [List.cons_append, Lx.skipF, h1, h2]
      split
      · by_cases he : Lx.skipF true l = l.length
        · rw [if_pos he, if_pos (by simp [he])]
          simp; omega
        · rw [if_neg he, if_neg (by simp [he])]
      · by_cases he : Lx.skipF false l = l.length
        · rw [if_pos he, if_pos (by simp [he])]
          simp; omega
        · rw [if_neg he, if_neg (by simp [he])]
/-- A source of two sources with a line feed between them. -/
theorem Lx.readS_nl (r : Lx.Bs) : ∀ (k : Nat) (l : Lx.Bs) (pos : Nat), l.length < k → Lx.readS pos (l ++ 10 :: r) =
    match Lx.readS pos l with
    | (ps, some e) => (ps, some e)
    | (ps, none) => (ps ++ (Lx.readS (pos + l.length + 1) r).1, (Lx.readS (pos + l.length + 1) r).2)
  | 0, _, _, h => by omega
  | k + 1, l, pos, hk => by
    have hsk : Lx.skipL (l ++ 10 :: r) = if Lx.skipL l = l.length then l.length + 1 + Lx.skipL r else Lx.skipL l := Lx.skipF_nl r l false
    have hle := Lx.skip_le l
    by_cases h : Lx.skipL l = l.length
    · rw [if_pos h] at hsk
      rw [Lx.readS_nil h]
      have hrl := Lx.skip_le r
      simp only [List.nil_append]
      unfold Lx.readS
      rw [hsk]
      have e : (l ++ 10 :: r).drop (l.length + 1 + Lx.skipL r) = r.drop (Lx.skipL r) := by
        rw [List.drop_append]
        have e1 : l.drop (l.length + 1 + Lx.skipL r) = [] := List.drop_of_length_le (by omega)
        rw [e1, List.nil_append, show l.length + 1 + Lx.skipL r - l.length = Lx.skipL r + 1 by omega, List.drop_succ_cons]
      rw [e, show pos + (l.length + 1 + Lx.skipL r) = pos + l.length + 1 + Lx.skipL r by omega]
      exact Lx.readF_fuel _ _ _ _ (by rw [List.length_drop, List.length_append, List.length_cons]; omega) (by rw [List.length_drop]; omega)
    · rw [if_neg h] at hsk
      have hlt : Lx.skipL l < l.length := by omega
      have hd : (l ++ 10 :: r).drop (Lx.skipL l) = l.drop (Lx.skipL l) ++ 10 :: r := List.drop_append_of_le_length hle
      have hpc := Lx.piece_nl (Lx.drop_ne hlt) r
      have hlt2 : Lx.skipL (l ++ 10 :: r) < (l ++ 10 :: r).length := by rw [hsk, List.length_append, List.length_cons]; omega
      cases hp : Lx.piece (l.drop (Lx.skipL l)) with
      | none => exact absurd hp (Lx.piece_ne _)
      | bad w =>
        rw [Lx.readS_bad hlt hp, Lx.readS_bad hlt2 (by rw [hsk, hd, hpc, hp]), hsk]
      | got p n =>
        have hfit := got_len _ p n hp
        rw [List.length_drop] at hfit
        rw [Lx.readS_got hlt hp, Lx.readS_got hlt2 (by rw [hsk, hd, hpc, hp]), hsk]
        have hd2 : (l ++ 10 :: r).drop (Lx.skipL l + n) = l.drop (Lx.skipL l + n) ++ 10 :: r := List.drop_append_of_le_length (by omega)
        rw [hd2, Lx.readS_nl r k (l.drop (Lx.skipL l + n)) (pos + Lx.skipL l + n) (by rw [List.length_drop]; omega)]
        have e : pos + Lx.skipL l + n + (l.drop (Lx.skipL l + n)).length + 1 = pos + l.length + 1 := by rw [List.length_drop]; omega
        rw [e]
        obtain ⟨ps, er, hr⟩ : ∃ ps er, Lx.readS (pos + Lx.skipL l + n) (l.drop (Lx.skipL l + n)) = (ps, er) := ⟨_, _, rfl⟩
        rw [hr]
        cases er with
        | none => rfl
        | some e => rfl
theorem Lx.readAll_nl (l r : Lx.Bs) : Lx.readAll (l ++ 10 :: r) =
    match Lx.readAll l with
    | (ps, some e) => (ps, some e)
    | (ps, none) => (ps ++ (Lx.shift (l.length + 1) (Lx.readAll r)).1, (Lx.shift (l.length + 1) (Lx.readAll r)).2) := by
  rw [Lx.readAll_S, Lx.readAll_S l, Lx.readAll_S r, Lx.readS_nl r _ l 0 (Nat.lt_succ_self _)]
  have e : Lx.readS (0 + l.length + 1) r = Lx.shift (l.length + 1) (Lx.readS 0 r) := by
    rw [show 0 + l.length + 1 = 0 + (l.length + 1) by omega]
    exact Lx.readS_shift _ _ _
  rw [e]

/-! ### what stands between tokens -/
theorem Lx.skipF_take : ∀ (l : Lx.Bs) (b : Bool), Lx.skipF b (l.take (Lx.skipF b l)) = Lx.skipF b l
  | [], b => by cases b <;> rfl
  | c :: l, b => by
    have h1 := Lx.skipF_take l false
    have h2 := Lx.skipF_take l true
    cases b
    · by_cases hb : Lx.isBlank c = true
      · simp [Lx.skipF, hb, h1]
      · by_cases hc : c.toNat = 35
        · simp [Lx.skipF, hb, hc, h2]
        · simp [Lx.skipF, hb, hc]
    · by_cases hb : Lx.notNl c = true
      · simp [Lx.skipF, hb, h2]
      · simp [Lx.skipF, hb, h1]
/-- Each piece stands there; between them are blanks and comments alone. -/
def Lx.Covers (l : Lx.Bs) : Nat → List (Nat × Lx.Piece) → Prop
  | fr, [] => fr ≤ l.length ∧ Lx.skipL (l.drop fr) = l.length - fr
  | fr, (a, p) :: ps => fr ≤ a ∧ a + (Lx.spelled p).length ≤ l.length ∧ (l.drop a).take (Lx.spelled p).length = Lx.spelled p ∧ Lx.skipL ((l.drop fr).take (a - fr)) = a - fr ∧ Lx.Covers l (a + (Lx.spelled p).length) ps
theorem Lx.readS_covers (l : Lx.Bs) : ∀ (k fr : Nat) (ps : List (Nat × Lx.Piece)), fr ≤ l.length → l.length - fr < k → Lx.readS fr (l.drop fr) = (ps, none) → Lx.Covers l fr ps
  | 0, _, _, _, h, _ => by omega
  | k + 1, fr, ps, hfr, hk, h => by
    obtain ⟨m, hm⟩ : ∃ m, m = Lx.skipL (l.drop fr) := ⟨_, rfl⟩
    have hle := Lx.skip_le (l.drop fr)
    rw [List.length_drop, ← hm] at hle
    by_cases hfull : m = l.length - fr
    · rw [Lx.readS_nil (by rw [← hm, hfull, List.length_drop])] at h
      cases h
      exact ⟨hfr, by rw [← hm]; exact hfull⟩
    · have hlt : Lx.skipL (l.drop fr) < (l.drop fr).length := by rw [← hm, List.length_drop]; omega
      cases hp : Lx.piece ((l.drop fr).drop (Lx.skipL (l.drop fr))) with
      | none => exact absurd hp (Lx.piece_ne _)
      | bad w =>
        rw [Lx.readS_bad hlt hp] at h
        cases h
      | got p n =>
        have hfit := got_len _ p n hp
        have hsz := got_size _ p n hp
        have hsay := (got_says _ p n hp).1
        rw [Lx.readS_got hlt hp] at h
        rw [← hm, List.drop_drop] at hsay hfit h
        rw [List.length_drop] at hfit
        have e : fr + m + n = fr + (m + n) := by omega
        rw [e] at h
        obtain ⟨qs, er, hr⟩ : ∃ qs er, Lx.readS (fr + (m + n)) (l.drop (fr + (m + n))) = (qs, er) := ⟨_, _, rfl⟩
        rw [hr] at h
        simp only [Prod.mk.injEq] at h
        obtain ⟨h1, rfl⟩ := h
        subst h1
        refine ⟨by omega, by omega, ?_, ?_, ?_⟩
        · rw [hsz]
          exact hsay.symm
        · rw [show fr + m - fr = m by omega, hm]
          exact Lx.skipF_take _ _
        · rw [hsz, e]
          exact Lx.readS_covers l k _ qs (by omega) (by omega) hr
theorem Lx.readAll_covers (l : Lx.Bs) (ps : List (Nat × Lx.Piece)) (h : Lx.readAll l = (ps, none)) : Lx.Covers l 0 ps := by
  rw [Lx.readAll_S] at h
  exact Lx.readS_covers l (l.length + 1) 0 ps (Nat.zero_le _) (by omega) (by rw [List.drop_zero]; exact h)
end Go.Proofs.YtkijoeihkajlcaaDoor

set_option linter.unusedVariables false
set_option linter.unusedSimpArgs false
namespace Go.Proofs.YtkijoeihkajlcaaDoor
open Go.RowKit Go.Shelf

theorem Lx.runL_near (p : UInt8 → Bool) (y z : Lx.Bs) (hz : p (z.headD 0) = false) : ∀ u : Lx.Bs, Lx.runL p (u ++ y) ≤ u.length → Lx.runL p (u ++ z) = Lx.runL p (u ++ y)
  | [], h => by
    have h0 : Lx.runL p y = 0 := by simpa using h
    have h1 : Lx.runL p z = 0 := by
      cases z with
      | nil => rfl
      | cons c t =>
        have hc : p c = false := hz
        simp [Lx.runL, hc]
    rw [List.nil_append, List.nil_append, h0, h1]
  | c :: u, h => by
    simp only [List.cons_append, Lx.runL] at h ⊢
    split
    · rename_i hc
      rw [if_pos hc] at h
      rw [Lx.runL_near p y z hz u (by simpa using h)]
    · rfl
theorem Lx.runL_far (p : UInt8 → Bool) (y z : Lx.Bs) : ∀ u : Lx.Bs, Lx.runL p (u ++ y) < u.length → Lx.runL p (u ++ z) = Lx.runL p (u ++ y)
  | [], h => by simp at h
  | c :: u, h => by
    simp only [List.cons_append, Lx.runL] at h ⊢
    split
    · rename_i hc
      rw [if_pos hc] at h
      rw [Lx.runL_far p y z u (by simpa using h)]
    · rfl
theorem Lx.pre_stop (c0 : UInt8) (r : Lx.Bs) : ∀ (x l : Lx.Bs), (∀ c ∈ x, c ≠ c0) → x.isPrefixOf (l ++ c0 :: r) = x.isPrefixOf l
  | [], _, _ => by simp
  | a :: x, [], h => by
    have : (a == c0) = false := by simpa using h a (by simp)
    simp [List.isPrefixOf, this]
  | a :: x, c :: l, h => by
    simp only [List.cons_append, List.isPrefixOf, Lx.pre_stop c0 r x l (fun c hc => h c (by simp [hc]))]
theorem Lx.pre_near (y : Lx.Bs) : ∀ (x u : Lx.Bs), x.length ≤ u.length → x.isPrefixOf (u ++ y) = x.isPrefixOf u
  | [], _, _ => by simp
  | a :: x, [], h => by simp at h
  | a :: x, c :: u, h => by
    simp only [List.cons_append, List.isPrefixOf, Lx.pre_near y x u (by simpa using h)]
theorem Lx.pre_app (y : Lx.Bs) (x u : Lx.Bs) (h : x.isPrefixOf u = true) : x.isPrefixOf (u ++ y) = true := by
  rw [List.isPrefixOf_iff_prefix] at h ⊢
  exact h.trans (List.prefix_append u y)
theorem Lx.signAt_near (u y r : Lx.Bs) (c0 : UInt8) (p : Lx.Piece) (k : Nat) (hk : k ≤ u.length) : ∀ ws : List Lx.Bs, (∀ x ∈ ws, ∀ c ∈ x, c ≠ c0) →
    Lx.signAt (u ++ y) ws = .got p k → Lx.signAt (u ++ c0 :: r) ws = .got p k
  | [], _, h => by cases h
  | x :: ws, hx, h => by
    unfold Lx.signAt at h ⊢
    rw [Lx.pre_stop c0 r x u (hx x (by simp))]
    split at h
    · rename_i hp
      have hl : x.length = k := by
        simp only [Lx.Tried.got.injEq] at h
        exact h.2
      rw [← Lx.pre_near y x u (by omega), if_pos hp]
      exact h
    · rename_i hp
      rw [if_neg (fun hq => hp (Lx.pre_app y x u hq))]
      exact Lx.signAt_near u y r c0 p k hk ws (fun z hz => hx z (by simp [hz])) h
/-- A piece that lies ahead of a place is the same whatever stands there, if it begins with a blank or a comment. -/
theorem Lx.piece_near (u y r : Lx.Bs) (c0 : UInt8) (hc0 : c0 = 32 ∨ c0 = 35) (hu : u ≠ []) (p : Lx.Piece) (k : Nat) (h : Lx.piece (u ++ y) = .got p k) (hk : k ≤ u.length) : Lx.piece (u ++ c0 :: r) = .got p k := by
  have hlet0 : Lx.isLet ((c0 :: r).headD 0) = false := by rcases hc0 with rfl | rfl <;> first | exact (by decide : Lx.isLet 32 = false) | exact (by decide : Lx.isLet 35 = false)
  have hdig0 : Lx.isDig ((c0 :: r).headD 0) = false := by rcases hc0 with rfl | rfl <;> first | exact (by decide : Lx.isDig 32 = false) | exact (by decide : Lx.isDig 35 = false)
  have hsg : ∀ x ∈ Lx.signWords, ∀ c ∈ x, c ≠ c0 := by rcases hc0 with rfl | rfl <;> decide
  obtain ⟨z, hz⟩ : ∃ z, z = c0 :: r := ⟨_, rfl⟩
  have hz2 := hz
  rw [← hz] at hlet0 hdig0 ⊢
  have htil : Lx.tilde (u ++ z) = Lx.tilde (u ++ y) := by unfold Lx.tilde; rw [Lx.headD_app hu, Lx.headD_app hu]
  -- nothing begins here: neither there
  have hlN : Lx.letters (u ++ y) = .none → Lx.letters (u ++ z) = .none := by
    cases u with
    | nil => exact absurd rfl hu
    | cons c t =>
      intro h
      refine Lx.letters_none c (t ++ z) ?_
      cases hc : Lx.isLet c
      · rfl
      · unfold Lx.letters at h
        split at h
        · rename_i h0
          simp [Lx.runL, hc] at h0
        · split at h <;> cases h
  have hlG : ∀ q n, Lx.letters (u ++ y) = .got q n → n ≤ u.length → Lx.letters (u ++ z) = .got q n := by
    intro q n h hn
    unfold Lx.letters at h ⊢
    split at h
    · cases h
    · rename_i h0
      split at h
      · cases h
      · rename_i hk
        have hn2 : Lx.runL Lx.isLet (u ++ y) = n := by
          simp only [Lx.Tried.got.injEq] at h
          exact h.2
        have hr := Lx.runL_near Lx.isLet y z hlet0 u (by omega)
        have ht : (u ++ z).take (Lx.runL Lx.isLet (u ++ y)) = (u ++ y).take (Lx.runL Lx.isLet (u ++ y)) := by rw [List.take_append_of_le_length (by omega), List.take_append_of_le_length (by omega)]
        rw [hr, ht, if_neg h0, if_neg hk]
        exact h
  have haf : ∀ x, Lx.afterTilde (u ++ x) = Lx.afterTilde u ++ x := fun x => Lx.after_app hu x
  have hdN : Lx.digits (u ++ y) = .none → Lx.digits (u ++ z) = .none := by
    intro h
    unfold Lx.digits at h ⊢
    rw [haf] at h ⊢
    split at h
    · rename_i h0
      rw [if_pos]
      rw [Lx.runL_near Lx.isDig y z hdig0 _ (by omega)]
      exact h0
    · split at h <;> cases h
  have hdG : ∀ q n, Lx.digits (u ++ y) = .got q n → n ≤ u.length → Lx.digits (u ++ z) = .got q n := by
    intro q n h hn
    unfold Lx.digits at h ⊢
    rw [haf, htil] at *
    split at h
    · cases h
    · rename_i h0
      split at h
      · cases h
      · rename_i hb
        have hn2 : Lx.runL Lx.isDig (Lx.afterTilde u ++ y) + (if Lx.tilde (u ++ y) = true then 1 else 0) = n := by
          simp only [Lx.Tried.got.injEq] at h
          exact h.2
        have hal : (Lx.afterTilde u).length + (if Lx.tilde (u ++ y) = true then 1 else 0) = u.length := by
          have ht : Lx.tilde (u ++ y) = Lx.tilde u := by unfold Lx.tilde; rw [Lx.headD_app hu]
          rw [ht]
          unfold Lx.afterTilde
          have := List.length_pos_iff.2 hu
          split
          · rw [List.length_tail]; omega
          · omega
        have hle : Lx.runL Lx.isDig (Lx.afterTilde u ++ y) ≤ (Lx.afterTilde u).length := by omega
        have hr := Lx.runL_near Lx.isDig y z hdig0 _ hle
        have ht : (Lx.afterTilde u ++ z).take (Lx.runL Lx.isDig (Lx.afterTilde u ++ y)) = (Lx.afterTilde u ++ y).take (Lx.runL Lx.isDig (Lx.afterTilde u ++ y)) := by rw [List.take_append_of_le_length hle, List.take_append_of_le_length hle]
        have hne : Lx.afterTilde u ≠ [] := by
          intro h1
          have := congrArg List.length h1
          rw [List.length_nil] at this
          omega
        have hh : (Lx.afterTilde u ++ z).headD 0 = (Lx.afterTilde u ++ y).headD 0 := by rw [Lx.headD_app hne, Lx.headD_app hne]
        rw [hr, ht, hh, if_neg h0, if_neg hb]
        exact h
  have hqN : Lx.quoted (u ++ y) = .none → Lx.quoted (u ++ z) = .none := by
    intro h
    unfold Lx.quoted at h ⊢
    rw [Lx.headD_app hu] at h ⊢
    split at h
    · rename_i h0
      rw [if_pos h0]
    · split at h
      · cases h
      · split at h <;> cases h
  have hqG : ∀ q n, Lx.quoted (u ++ y) = .got q n → n ≤ u.length → Lx.quoted (u ++ z) = .got q n := by
    cases u with
    | nil => exact absurd rfl hu
    | cons c t =>
      intro q n h hn
      have hun : ∀ t : Lx.Bs, Lx.quoted (c :: t) = if c ≠ 34 then .none else if t.length ≤ Lx.runL Lx.isTxt t ∨ (t.drop (Lx.runL Lx.isTxt t)).headD 0 ≠ 34 then .bad 2 else if 20 < Lx.runL Lx.isTxt t then .bad 4 else .got (.str (t.take (Lx.runL Lx.isTxt t))) (Lx.runL Lx.isTxt t + 2) := fun t => rfl
      rw [List.cons_append, hun] at h ⊢
      split at h
      · cases h
      · rename_i h34
        split at h
        · cases h
        · rename_i hb
          split at h
          · cases h
          · rename_i h20
            have hn2 : Lx.runL Lx.isTxt (t ++ y) + 2 = n := by
              simp only [Lx.Tried.got.injEq] at h
              exact h.2
            rw [List.length_cons] at hn
            have hlt : Lx.runL Lx.isTxt (t ++ y) < t.length := by omega
            have hr := Lx.runL_far Lx.isTxt y z t hlt
            have ht : (t ++ z).take (Lx.runL Lx.isTxt (t ++ y)) = (t ++ y).take (Lx.runL Lx.isTxt (t ++ y)) := by rw [List.take_append_of_le_length (by omega), List.take_append_of_le_length (by omega)]
            have hd : ((t ++ z).drop (Lx.runL Lx.isTxt (t ++ y))).headD 0 = ((t ++ y).drop (Lx.runL Lx.isTxt (t ++ y))).headD 0 := by
              rw [List.drop_append_of_le_length (by omega), List.drop_append_of_le_length (by omega), Lx.headD_app (Lx.drop_ne hlt), Lx.headD_app (Lx.drop_ne hlt)]
            rw [hr, ht, hd, if_neg h34, if_neg, if_neg h20]
            · exact h
            · rintro (h1 | h1)
              · rw [List.length_append] at h1
                omega
              · exact hb (.inr h1)
  have ht : Lx.tried (u ++ y) = .got p k := by
    unfold Lx.piece at h
    cases ht : Lx.tried (u ++ y) with
    | none => rw [ht] at h; cases h
    | bad w => rw [ht] at h; cases h
    | got q m => rw [ht] at h; exact h
  have ht2 : Lx.tried (u ++ z) = .got p k := by
    unfold Lx.tried at ht ⊢
    cases h1 : Lx.letters (u ++ y) with
    | bad w => rw [h1] at ht; cases ht
    | got q m =>
      rw [h1] at ht
      have h' : Lx.Tried.got q m = .got p k := ht
      simp only [Lx.Tried.got.injEq] at h'
      obtain ⟨rfl, rfl⟩ := h'
      rw [hlG q m h1 hk]
      rfl
    | none =>
      rw [h1] at ht
      rw [hlN h1]
      simp only [Lx.orElse] at ht ⊢
      cases h2 : Lx.digits (u ++ y) with
      | bad w => rw [h2] at ht; cases ht
      | got q m =>
        rw [h2] at ht
        have h' : Lx.Tried.got q m = .got p k := ht
        simp only [Lx.Tried.got.injEq] at h'
        obtain ⟨rfl, rfl⟩ := h'
        rw [hdG q m h2 hk]
      | none =>
        rw [h2] at ht
        rw [hdN h2]
        simp only [Lx.orElse] at ht ⊢
        cases h3 : Lx.quoted (u ++ y) with
        | bad w => rw [h3] at ht; cases ht
        | got q m =>
          rw [h3] at ht
          have h' : Lx.Tried.got q m = .got p k := ht
          simp only [Lx.Tried.got.injEq] at h'
          obtain ⟨rfl, rfl⟩ := h'
          rw [hqG q m h3 hk]
        | none =>
          rw [h3] at ht
          rw [hqN h3]
          simp only [Lx.orElse] at ht ⊢
          rw [hz2]
          exact Lx.signAt_near u y r c0 p k hk _ hsg ht
  unfold Lx.piece
  rw [ht2]
theorem Lx.skipF_stay (v z : Lx.Bs) : ∀ (u : Lx.Bs) (b : Bool), Lx.skipF b (u ++ v) < u.length → Lx.skipF b (u ++ z) = Lx.skipF b (u ++ v)
  | [], _, h => by simp at h
  | c :: u, b, h => by
    have h1 := Lx.skipF_stay v z u false
    have h2 := Lx.skipF_stay v z u true
    cases b
    · simp only [List.cons_append, Lx.skipF, List.length_cons] at h ⊢
      by_cases hb : Lx.isBlank c = true
      · simp only [hb, if_true] at h ⊢
        rw [h1 (by omega)]
      · by_cases hc : c.toNat = 35
        · simp only [hb, hc, if_true, Bool.false_eq_true, if_false] at h ⊢
          rw [h2 (by omega)]
        · simp only [hb, hc, Bool.false_eq_true, if_false] at h ⊢
    · simp only [List.cons_append, Lx.skipF, List.length_cons] at h ⊢
      by_cases hb : Lx.notNl c = true
      · simp only [hb, if_true] at h ⊢
        rw [h2 (by omega)]
      · simp only [hb, Bool.false_eq_true, if_false] at h ⊢
        rw [h1 (by omega)]
theorem Lx.skipF_end (v x : Lx.Bs) (hv : v ≠ []) : ∀ (u : Lx.Bs) (b : Bool), Lx.skipF b (u ++ v) = u.length → Lx.skipF b (u ++ x) = u.length + Lx.skipF false x
  | [], b, h => by
    cases b
    · simp
    · exfalso
      cases v with
      | nil => exact hv rfl
      | cons c t =>
        simp only [List.nil_append, Lx.skipF, List.length_nil] at h
        split at h <;> omega
  | c :: u, b, h => by
    have h1 := Lx.skipF_end v x hv u false
    have h2 := Lx.skipF_end v x hv u true
    cases b
    · simp only [List.cons_append, Lx.skipF, List.length_cons] at h ⊢
      by_cases hb : Lx.isBlank c = true
      · simp only [hb, if_true] at h ⊢
        rw [h1 (by omega)]
        omega
      · by_cases hc : c.toNat = 35
        · simp only [hb, hc, if_true, Bool.false_eq_true, if_false] at h ⊢
          rw [h2 (by omega)]
          omega
        · simp only [hb, hc, Bool.false_eq_true, if_false] at h
          omega
    · simp only [List.cons_append, Lx.skipF, List.length_cons] at h ⊢
      by_cases hb : Lx.notNl c = true
      · simp only [hb, if_true] at h ⊢
        rw [h2 (by omega)]
        omega
      · simp only [hb, Bool.false_eq_true, if_false] at h ⊢
        rw [h1 (by omega)]
        omega
theorem Lx.readS_at (pos : Nat) (l : Lx.Bs) : ∀ x ∈ (Lx.readS pos l).1, pos ≤ x.1 := by
  intro x hx
  have := (Lx.readF_at _ _ _ x hx).1
  omega
/-- A blank or a comment put before a token. -/
theorem Lx.readS_gap (v w' : Lx.Bs) (c0 : UInt8) (hc0 : c0 = 32 ∨ c0 = 35) (hgap : ∀ x, Lx.skipL ((c0 :: w') ++ x) = (w'.length + 1) + Lx.skipL x) :
    ∀ (k : Nat) (u : Lx.Bs) (pos n : Nat) (ps : List (Nat × Lx.Piece)) (p : Lx.Piece), u.length < k → Lx.readS pos (u ++ v) = (ps, none) → ps[n]? = some (pos + u.length, p) →
      Lx.readS pos (u ++ ((c0 :: w') ++ v)) = (ps.take n ++ (ps.drop n).map (fun x => (x.1 + (w'.length + 1), x.2)), none)
  | 0, _, _, _, _, _, h, _, _ => by omega
  | k + 1, u, pos, n, ps, p, hk, h, hn => by
    obtain ⟨m, hm⟩ : ∃ m, m = Lx.skipL (u ++ v) := ⟨_, rfl⟩
    by_cases hfull : m = (u ++ v).length
    · rw [Lx.readS_nil (by rw [← hm, hfull])] at h
      simp only [Prod.mk.injEq] at h
      rw [← h.1] at hn
      simp at hn
    · have hle := Lx.skip_le (u ++ v)
      rw [← hm] at hle
      have hlt : Lx.skipL (u ++ v) < (u ++ v).length := by omega
      cases hp : Lx.piece ((u ++ v).drop (Lx.skipL (u ++ v))) with
      | none => exact absurd hp (Lx.piece_ne _)
      | bad w =>
        rw [Lx.readS_bad hlt hp] at h
        cases h
      | got q j =>
        have hfit := got_len _ q j hp
        have hS := h
        rw [Lx.readS_got hlt hp, ← hm] at h
        rw [← hm] at hp
        obtain ⟨rs, er, hr⟩ : ∃ rs er, Lx.readS (pos + m + j) ((u ++ v).drop (m + j)) = (rs, er) := ⟨_, _, rfl⟩
        rw [hr] at h
        simp only [Prod.mk.injEq] at h
        obtain ⟨hps, rfl⟩ := h
        have hat := Lx.readS_at (pos + m + j) ((u ++ v).drop (m + j))
        rw [hr] at hat
        simp only at hat
        cases n with
        | zero =>
          rw [← hps] at hn
          simp only [List.getElem?_cons_zero, Option.some.injEq, Prod.mk.injEq] at hn
          have hmu : m = u.length := by omega
          have hv : v ≠ [] := by
            rintro rfl
            rw [List.append_nil] at hfull hle
            omega
          have hend := fun x => Lx.skipF_end v x hv u false (by show Lx.skipL (u ++ v) = _; rw [← hm]; exact hmu)
          have hv0 : Lx.skipL v = 0 := by
            have := hend v
            rw [show Lx.skipF false (u ++ v) = m from hm.symm] at this
            unfold Lx.skipL
            omega
          have hx : Lx.skipL (u ++ ((c0 :: w') ++ v)) = u.length + (w'.length + 1) := by
            have := hend ((c0 :: w') ++ v)
            rw [show Lx.skipF false ((c0 :: w') ++ v) = Lx.skipL ((c0 :: w') ++ v) from rfl, hgap v, hv0] at this
            exact this
          have e : pos + (u.length + (w'.length + 1)) = pos + u.length + (w'.length + 1) := by omega
          have ed : (u ++ ((c0 :: w') ++ v)).drop (u.length + (w'.length + 1)) = v := by
            rw [← List.append_assoc]
            exact List.drop_left' (by simp)
          have hS2 : Lx.readF ((u ++ v).length + 1) (pos + u.length) v = (ps, none) := by
            have h' := hS
            unfold Lx.readS at h'
            rw [← hm, hmu, List.drop_left] at h'
            exact h'
          unfold Lx.readS
          rw [hx, ed, e, Lx.readF_shift, Lx.readF_fuel _ ((u ++ v).length + 1) _ _ (by simp; omega) (by simp; omega), hS2]
          simp [Lx.shift]
        | succ n =>
          rw [← hps, List.getElem?_cons_succ] at hn
          have hge := hat _ (List.mem_of_getElem? hn)
          simp only at hge
          have hmj : m + j ≤ u.length := by omega
          have hst : Lx.skipL (u ++ ((c0 :: w') ++ v)) = m := by
            rw [hm]
            exact Lx.skipF_stay v _ u false (by show Lx.skipL (u ++ v) < _; omega)
          have hdu : ∀ x, (u ++ x).drop m = u.drop m ++ x := fun x => List.drop_append_of_le_length (by omega)
          have hdu2 : ∀ x, (u ++ x).drop (m + j) = u.drop (m + j) ++ x := fun x => List.drop_append_of_le_length (by omega)
          rw [hdu] at hp
          have hnear := Lx.piece_near (u.drop m) v (w' ++ v) c0 hc0 (Lx.drop_ne (by omega)) q j hp (by rw [List.length_drop]; omega)
          have hlt2 : Lx.skipL (u ++ ((c0 :: w') ++ v)) < (u ++ ((c0 :: w') ++ v)).length := by rw [hst, List.length_append]; omega
          rw [Lx.readS_got hlt2 (by rw [hst, hdu]; exact hnear), hst, hdu2]
          rw [hdu2] at hr
          have ih := Lx.readS_gap v w' c0 hc0 hgap k (u.drop (m + j)) (pos + m + j) n rs p (by rw [List.length_drop]; omega) hr (by rw [hn, List.length_drop]; congr 2; omega)
          rw [ih, ← hps]
          simp
/-- Before the token with a number stands a blank, or a comment of a line. -/
theorem Lx.readAll_gap (l : Lx.Bs) (ps : List (Nat × Lx.Piece)) (n a : Nat) (p : Lx.Piece) (h : Lx.readAll l = (ps, none)) (hn : ps[n]? = some (a, p)) (hal : a ≤ l.length) (w' : Lx.Bs) (c0 : UInt8) (hc0 : c0 = 32 ∨ c0 = 35)
    (hgap : ∀ x, Lx.skipL ((c0 :: w') ++ x) = (w'.length + 1) + Lx.skipL x) :
    Lx.readAll (l.take a ++ ((c0 :: w') ++ l.drop a)) = (ps.take n ++ (ps.drop n).map (fun x => (x.1 + (w'.length + 1), x.2)), none) := by
  rw [Lx.readAll_S] at h ⊢
  have hlen : (l.take a).length = a := by rw [List.length_take]; omega
  refine Lx.readS_gap (l.drop a) w' c0 hc0 hgap (a + 1) (l.take a) 0 n ps p (by omega) (by rw [List.take_append_drop]; exact h) ?_
  rw [hn, hlen, Nat.zero_add]
theorem Lx.gap_blank (x : Lx.Bs) : Lx.skipL ((32 :: []) ++ x) = (([] : Lx.Bs).length + 1) + Lx.skipL x := by
  unfold Lx.skipL
  simp only [List.cons_append, List.nil_append, Lx.skipF]
  rw [if_pos (by decide)]
  simp
  omega
theorem Lx.skip_comment (x : Lx.Bs) : ∀ c : Lx.Bs, (∀ b ∈ c, b ≠ 10) → Lx.skipF true (c ++ 10 :: x) = c.length + 1 + Lx.skipF false x
  | [], _ => by
    simp only [List.nil_append, Lx.skipF]
    rw [if_neg (by decide)]
    simp
    omega
  | b :: c, h => by
    have hb : Lx.notNl b = true := by
      have h1 := h b (by simp)
      unfold Lx.notNl
      simp only [decide_eq_true_eq]
      intro h2
      exact h1 (UInt8.toNat_inj.1 h2)
    simp only [List.cons_append, Lx.skipF, hb, if_true, List.length_cons]
    rw [Lx.skip_comment x c (fun z hz => h z (by simp [hz]))]
    omega
theorem Lx.gap_comment (c : Lx.Bs) (h : ∀ b ∈ c, b ≠ 10) (x : Lx.Bs) : Lx.skipL ((35 :: (c ++ [10])) ++ x) = ((c ++ [10]).length + 1) + Lx.skipL x := by
  unfold Lx.skipL
  have e : (35 :: (c ++ [10])) ++ x = 35 :: (c ++ 10 :: x) := by simp
  rw [e]
  simp only [Lx.skipF]
  rw [if_neg (by decide), if_pos (by decide), Lx.skip_comment x c h]
  simp
  omega

/-! ### tokens that are as defined -/
theorem Lx.name_all {s : Lx.Bs} (h : Lx.isName s = true) : s ≠ [] ∧ s.all Lx.isLet = true ∧ s.length ≤ 8 ∧ Lx.isKey s = false := by
  unfold Lx.isName at h
  simp only [Bool.and_eq_true, decide_eq_true_eq, Bool.not_eq_true'] at h
  obtain ⟨h1, h2, h3, h4⟩ := h
  exact ⟨by rintro rfl; simp at h1, h3, h2, h4⟩
theorem Lx.piece_tok (t : Tk) (p : Lx.Piece) (h : Lx.pieceOf t = some p) : Lx.Good p ∧ t.f0 = tokK p ∧ t.f1 = tokT p ∧ t.f2 = tokN p ∧ 0 ≤ t.f3 ∧ t.f3 ≤ 4000 := by
  obtain ⟨k, s, n, a⟩ := t
  unfold Lx.pieceOf at h
  simp only at h ⊢
  have hbs : bsOf s.data.toList = s := by apply ByteArray.ext; simp [bsOf]
  split at h
  · cases h
  · rename_i hc
    split at h
    · rename_i h0
      split at h
      · rename_i hn
        simp only [Option.some.injEq] at h
        subst h
        have hna := Lx.name_all hn
        refine ⟨⟨hna.1, hna.2.1, .inl hna.2.2.1⟩, ?_, ?_, ?_, by omega, by omega⟩
        · simp only [tokK, hna.2.2.2, Bool.false_eq_true, if_false]; exact h0
        · simp only [tokT]; exact hbs.symm
        · simp only [tokN]; omega
      · cases h
    · split at h
      · rename_i h0
        split at h
        · rename_i hn
          simp only [Option.some.injEq] at h
          subst h
          have hkg := Lx.key_good _ hn
          refine ⟨⟨hkg.1, hkg.2, .inr hn⟩, ?_, ?_, ?_, by omega, by omega⟩
          · simp only [tokK, hn, if_true]; exact h0
          · simp only [tokT]; exact hbs.symm
          · simp only [tokN]; omega
        · cases h
      · split at h
        · rename_i h0
          split at h
          · rename_i hn
            simp only [Option.some.injEq] at h
            subst h
            refine ⟨hn.2, ?_, ?_, ?_, by omega, by omega⟩
            · simp only [tokK]; exact h0
            · simp only [tokT]; exact hn.1
            · simp only [tokN]
          · cases h
        · split at h
          · rename_i h0
            split at h
            · rename_i hn
              simp only [Option.some.injEq] at h
              subst h
              refine ⟨⟨by have := hn.1; simp; omega, hn.2⟩, ?_, ?_, ?_, by omega, by omega⟩
              · simp only [tokK]; exact h0
              · simp only [tokT]; exact hbs.symm
              · simp only [tokN]; omega
            · cases h
          · split at h
            · rename_i h0
              split at h
              · rename_i hn
                simp only [Option.some.injEq] at h
                subst h
                refine ⟨hn, ?_, ?_, ?_, by omega, by omega⟩
                · simp only [tokK]; exact h0
                · simp only [tokT]; exact hbs.symm
                · simp only [tokN]; omega
              · cases h
            · cases h
/-- The pieces of tokens that are as defined. -/
theorem Lx.words_some : ∀ (ts : List Tk), (∀ t ∈ ts, (Lx.pieceOf t).isSome = true) → ∃ qs : List Lx.Piece, qs.length = ts.length ∧ (∀ q ∈ qs, Lx.Good q) ∧ Lx.words ts = some (qs.map Lx.spelled) ∧ Lx.long ts = (qs.map fun q => (Lx.spelled q).length + 1).sum ∧ ts.map (fun t => (t.f0, t.f1, t.f2)) = qs.map (fun q => (tokK q, tokT q, tokN q)) ∧ ts.map (fun t => Lx.word t) = qs.map (fun q => (Lx.spelled q, 0))
  | [], _ => ⟨[], rfl, by simp, rfl, rfl, rfl, rfl⟩
  | t :: ts, h => by
    obtain ⟨qs, h1, h2, h3, h4, h5, h6⟩ := Lx.words_some ts (fun x hx => h x (by simp [hx]))
    obtain ⟨q, hq⟩ := Option.isSome_iff_exists.1 (h t (by simp))
    have ht := Lx.piece_tok t q hq
    have hw : Lx.word t = (Lx.spelled q, 0) := by unfold Lx.word; rw [hq]
    refine ⟨q :: qs, by simp [h1], ?_, ?_, ?_, ?_, ?_⟩
    · intro x hx
      rcases List.mem_cons.1 hx with rfl | hx
      · exact ht.1
      · exact h2 x hx
    · simp only [Lx.words, hw, if_true, h3, Option.map_some, List.map_cons]
    · unfold Lx.long at h4 ⊢
      simp only [List.map_cons, List.sum_cons, h4, hw]
    · simp only [List.map_cons, h5, ht.2.1, ht.2.2.1, ht.2.2.2.1]
    · simp only [List.map_cons, h6, hw]

/-! ### numbers and a sign -/
theorem Lx.read_one (p : Lx.Piece) (hg : Lx.Good p) : Lx.readAll (Lx.spelled p) = ([(0, p)], none) := by
  have := Lx.readAll_back [p] (by intro q hq; simp at hq; subst hq; exact hg)
  simpa [Lx.join_one, Lx.placed] using this
theorem Lx.num_head (N : Int) (hg : Lx.Good (.num N)) : (Lx.spelled (.num N)).headD 0 ≠ 61 ∧ (Lx.spelled (.num N)).headD 0 ≠ 46 := by
  by_cases h : N < 0
  · rw [Lx.spelled_neg N h]
    exact (by decide : (126 : UInt8) ≠ 61 ∧ (126 : UInt8) ≠ 46)
  · rw [Lx.spelled_nat N h]
    have hall := Lx.dec_all N.toNat
    cases hd : Lib.decDigits N.toNat with
    | nil => exact absurd hd (Lx.dec_ne _)
    | cons c t =>
      rw [hd] at hall
      simp only [List.all_cons, Bool.and_eq_true] at hall
      refine ⟨?_, ?_⟩
      · intro h1
        have h2 : c = 61 := h1
        rw [h2] at hall
        exact absurd hall.1 (by decide)
      · intro h1
        have h2 : c = 46 := h1
        rw [h2] at hall
        exact absurd hall.1 (by decide)
theorem Lx.read_minus (a b : Int) (ha : Lx.Good (.num a)) (hb : Lx.Good (.num b)) :
    Lx.readAll (Lx.spelled (.num a) ++ 45 :: Lx.spelled (.num b)) = ([(0, .num a), ((Lx.spelled (.num a)).length, .sgn [45]), ((Lx.spelled (.num a)).length + 1, .num b)], none) := by
  have h1 := Lx.back (.num a) (45 :: Lx.spelled (.num b)) ha (show Lx.isDig 45 = false by decide)
  have hs : Lx.Good (.sgn [45]) := (by decide : [45] ∈ Lx.signWords)
  have h2 := Lx.back (.sgn [45]) (Lx.spelled (.num b)) hs (Lx.num_head b hb)
  have hk1 := Lx.skip_good (.num a) ha (45 :: Lx.spelled (.num b))
  have hk2 := Lx.skip_good (.sgn [45]) hs (Lx.spelled (.num b))
  have hone := Lx.read_one (.num b) hb
  have hl1 := (Lx.good_len (.num a) ha).1
  obtain ⟨s, hs'⟩ : ∃ s, s = Lx.spelled (.num a) := ⟨_, rfl⟩
  obtain ⟨t, ht'⟩ : ∃ t, t = Lx.spelled (.num b) := ⟨_, rfl⟩
  rw [← hs', ← ht'] at h1 hk1
  rw [← ht'] at h2 hk2 hone
  rw [← hs'] at hl1
  rw [← hs', ← ht']
  have e45 : Lx.spelled (.sgn [45]) ++ t = 45 :: t := rfl
  have l45 : (Lx.spelled (.sgn [45])).length = 1 := rfl
  rw [e45] at h2 hk2
  rw [l45] at h2
  rw [Lx.readAll_S] at hone ⊢
  rw [Lx.readS_got (by rw [hk1, List.length_append, List.length_cons]; omega) (by rw [hk1, List.drop_zero]; exact h1), hk1]
  have hd : (s ++ 45 :: t).drop (0 + s.length) = 45 :: t := by rw [Nat.zero_add, List.drop_left]
  rw [hd, Lx.readS_got (by rw [hk2]; simp) (by rw [hk2, List.drop_zero]; exact h2), hk2]
  have hd2 : (45 :: t).drop (0 + 1) = t := rfl
  have e : 0 + 0 + s.length + 0 + 1 = 0 + (s.length + 1) := by omega
  rw [hd2, e, Lx.readS_shift, hone]
  simp [Lx.shift]
theorem Lx.num_inj (a b : Int) (ha : Lx.Good (.num a)) (hb : Lx.Good (.num b)) (h : Lx.spelled (.num a) = Lx.spelled (.num b)) : a = b := by
  have h1 := Lx.read_one (.num a) ha
  have h2 := Lx.read_one (.num b) hb
  rw [h, h2] at h1
  simp at h1
  exact h1.symm
end Go.Proofs.YtkijoeihkajlcaaDoor
