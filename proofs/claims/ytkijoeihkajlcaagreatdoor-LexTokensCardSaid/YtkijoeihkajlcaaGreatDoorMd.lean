/-
  The law LexTokens answers true.
-/
import Derived.Test.YtkijoeihkajlcaaGreatDoorMc
import Derived.Test.YtkijoeihkajlcaaGreatDoorRLexTokens2
import Derived.Test.YtkijoeihkajlcaaGreatDoorRLexTokens5
import Derived.Test.YtkijoeihkajlcaaGreatDoorRLexTokens7

set_option linter.unusedVariables false
set_option linter.unusedSimpArgs false
namespace Go.Proofs.YtkijoeihkajlcaaGreatDoor.PLexTokens
open Go.RowKit Go.Shelf
open Go.Proofs.YtkijoeihkajlcaaGreatDoorW.PrintWords

theorem bt_nat (s : ByteArray) (i : Nat) (h : i < s.size) : bt s (i : Int) = (s[i].toNat : Int) := by
  rw [← bt_at s i (by simpa using h)]
  rfl
theorem wrap_nat (n : Nat) (h : n < 9223372036854775807) : wrap64 ((n : Int)) = n := by unfold wrap64; omega
theorem wrap_succ (n : Nat) (h : n < 9223372036854775807) : wrap64 ((n : Int) + 1) = ((n + 1 : Nat) : Int) := by unfold wrap64; omega

theorem Ev.ite_pos {α : Type} {c : Prop} [Decidable c] {g f : Nat → Option α} {r : α} (hc : c) (h : Ev g r) : Ev (fun n => if c then g n else f n) r := by simpa [hc] using h
theorem Ev.ite_neg {α : Type} {c : Prop} [Decidable c] {g f : Nat → Option α} {r : α} (hc : ¬ c) (h : Ev f r) : Ev (fun n => if c then g n else f n) r := by simpa [hc] using h

theorem blank_f (c : UInt8) : swardref02_blank.f (c.toNat : Int) = some (Lx.isBlank c) := by
  unfold swardref02_blank.f Lx.isBlank
  split
  · rename_i h; have : c.toNat = 32 := by omega
    simp [this]
  · split
    · rename_i h1 h; have : c.toNat = 9 := by omega
      simp [this]
    · rename_i h1 h2
      have a : (c.toNat == 32) = false := by simp; omega
      have b : (c.toNat == 9) = false := by simp; omega
      rw [a, b, Bool.false_or, Bool.false_or]
      congr 1
      rw [Bool.eq_iff_iff, beq_iff_eq, beq_iff_eq]
      omega

theorem Ev.succ {α : Type} {g : Nat → Option α} {r : α} (h : Ev (fun k => g (k + 1)) r) : Ev g r := Ev.step (fun _ => rfl) h
theorem ev_skip (s : ByteArray) (hs : s.size ≤ 4000) : ∀ (n i : Nat), i ≤ s.size → s.size - i = n →
    Ev (fun k => swardref02_skip.l0 k s i) ((i + Lx.skipF false (s.data.toList.drop i) : Nat) : Int) ∧ Ev (fun k => swardref02_skip.l1 k s i) ((i + Lx.skipF true (s.data.toList.drop i) : Nat) : Int) := by
  intro n
  induction n with
  | zero =>
    intro i hi hn
    have he : s.data.toList.drop i = [] := List.drop_of_length_le (by simp; omega)
    have h1 : ¬ ((i : Int) < (s.size : Int)) := by omega
    have h0 : Ev (fun k => swardref02_skip.l0 k s i) ((i + Lx.skipF false (s.data.toList.drop i) : Nat) : Int) := by
      rw [he]
      refine Ev.succ (Ev.succ ?_)
      simp only [swardref02_skip.l0, swardref02_skip.j1, h1, if_false, Bool.false_eq_true]
      exact Ev.now _
    refine ⟨h0, Ev.succ ?_⟩
    simp only [swardref02_skip.l1, h1, if_false]
    rw [he] at h0 ⊢
    exact h0
  | succ n ih =>
    intro i hi hn
    have hlt : i < s.size := by omega
    obtain ⟨ih0, ih1⟩ := ih (i + 1) (by omega) (by omega)
    have hd := drop_cons s i hlt
    rw [hd]
    have hb := bt_nat s i hlt
    have hw := wrap_succ i (by omega)
    have h1 : (i : Int) < (s.size : Int) := by omega
    have h2 : (0 : Int) ≤ (i : Int) := by omega
    have h0 : Ev (fun k => swardref02_skip.l0 k s i) ((i + Lx.skipF false (s[i] :: s.data.toList.drop (i + 1)) : Nat) : Int) := by
      by_cases hbl : Lx.isBlank s[i] = true
      · have hn35 : ¬ ((s[i].toNat : Int) = 35) := by
          intro h
          have : s[i].toNat = 35 := by omega
          simp [Lx.isBlank, this] at hbl
        refine Ev.succ (Ev.succ ?_)
        simp only [swardref02_skip.l0, swardref02_skip.j1, h1, h2, if_true, hb, blank_f, Option.bind_some, hbl, hn35, if_false, hw]
        simp only [Lx.skipF, hbl, if_true]
        rw [show i + (Lx.skipF false (s.data.toList.drop (i + 1)) + 1) = i + 1 + Lx.skipF false (s.data.toList.drop (i + 1)) by omega]
        exact ih0
      · by_cases h35 : s[i].toNat = 35
        · have e35 : ((s[i].toNat : Int) == 35) = true := by simp; omega
          have f35 : (s[i].toNat : Int) = 35 := by omega
          have f10 : ¬ (35 : Int) = 10 := by omega
          refine Ev.succ (Ev.succ (Ev.succ ?_))
          simp only [swardref02_skip.l0, swardref02_skip.j1, swardref02_skip.l1, h1, h2, if_true, hb, blank_f, Option.bind_some, hbl, e35, f35, if_false, Bool.false_eq_true, f10, hw, beq_self_eq_true]
          simp only [Lx.skipF, hbl, if_false, Bool.false_eq_true, h35, if_true]
          rw [show i + (Lx.skipF true (s.data.toList.drop (i + 1)) + 1) = i + 1 + Lx.skipF true (s.data.toList.drop (i + 1)) by omega]
          exact ih1
        · have e35 : ((s[i].toNat : Int) == 35) = false := by simp; omega
          refine Ev.succ (Ev.succ ?_)
          simp only [swardref02_skip.l0, swardref02_skip.j1, h1, h2, if_true, hb, blank_f, Option.bind_some, hbl, e35, if_false, Bool.false_eq_true]
          simp only [Lx.skipF, hbl, if_false, Bool.false_eq_true, h35, Nat.add_zero]
          exact Ev.now _
    refine ⟨h0, ?_⟩
    by_cases h10 : s[i].toNat = 10
    · have f10 : (s[i].toNat : Int) = 10 := by omega
      refine Ev.succ ?_
      simp only [swardref02_skip.l1, h1, h2, if_true, hb, f10]
      have : Lx.skipF true (s[i] :: s.data.toList.drop (i + 1)) = Lx.skipF false (s[i] :: s.data.toList.drop (i + 1)) := by
        simp [Lx.skipF, Lx.notNl, Lx.isBlank, h10]
      rw [this]
      exact h0
    · have f10 : ¬ ((s[i].toNat : Int) = 10) := by omega
      refine Ev.succ ?_
      simp only [swardref02_skip.l1, h1, h2, if_true, hb, f10, if_false, hw]
      have : Lx.skipF true (s[i] :: s.data.toList.drop (i + 1)) = Lx.skipF true (s.data.toList.drop (i + 1)) + 1 := by
        simp [Lx.skipF, Lx.notNl, h10]
      rw [this, show i + (Lx.skipF true (s.data.toList.drop (i + 1)) + 1) = i + 1 + Lx.skipF true (s.data.toList.drop (i + 1)) by omega]
      exact ih1

theorem ev_skip_f (s : ByteArray) (hs : s.size ≤ 4000) (i : Nat) (hi : i ≤ s.size) : Ev (fun k => swardref02_skip.f k s i) ((i + Lx.skipL (s.data.toList.drop i) : Nat) : Int) := (ev_skip s hs _ i hi rfl).1

theorem letter_f (c : UInt8) : swardref02_letter.f (c.toNat : Int) = some (Lx.isLet c) := by
  unfold swardref02_letter.f Lx.isLet
  split
  · rename_i h
    have a : decide (97 ≤ c.toNat) = true := decide_eq_true (by omega)
    rw [a, Bool.true_and]
    congr 1
    rw [decide_eq_decide]
    omega
  · rename_i h
    have a : decide (97 ≤ c.toNat) = false := decide_eq_false (by omega)
    rw [a, Bool.false_and]
theorem cipher_f (c : UInt8) : swardref02_cipher.f (c.toNat : Int) = some (Lx.isDig c) := by
  unfold swardref02_cipher.f Lx.isDig
  split
  · rename_i h
    have a : decide (48 ≤ c.toNat) = true := decide_eq_true (by omega)
    rw [a, Bool.true_and]
    congr 1
    rw [decide_eq_decide]
    omega
  · rename_i h
    have a : decide (48 ≤ c.toNat) = false := decide_eq_false (by omega)
    rw [a, Bool.false_and]

theorem ev_letters (s : ByteArray) (hs : s.size ≤ 4000) : ∀ (n i m : Nat), i + m ≤ s.size → s.size - (i + m) = n →
    Ev (fun k => swardref02_letters.l0 k s i m) ((m + Lx.runL Lx.isLet (s.data.toList.drop (i + m)) : Nat) : Int) := by
  intro n
  induction n with
  | zero =>
    intro i m hi hn
    have he : s.data.toList.drop (i + m) = [] := List.drop_of_length_le (by simp; omega)
    rw [he]
    have hw : wrap64 ((i : Int) + m) = ((i + m : Nat) : Int) := by unfold wrap64; omega
    have h1 : ¬ (((i + m : Nat) : Int) < (s.size : Int)) := by omega
    refine Ev.succ ?_
    simp only [swardref02_letters.l0, hw, h1, if_false]
    exact Ev.now _
  | succ n ih =>
    intro i m hi hn
    have hlt : i + m < s.size := by omega
    have ih0 := ih i (m + 1) (by omega) (by omega)
    have hd := drop_cons s (i + m) hlt
    rw [hd]
    have hb := bt_nat s (i + m) hlt
    have hw : wrap64 ((i : Int) + m) = ((i + m : Nat) : Int) := by unfold wrap64; omega
    have hw1 : wrap64 ((m : Int) + 1) = ((m + 1 : Nat) : Int) := by unfold wrap64; omega
    have h1 : ((i + m : Nat) : Int) < (s.size : Int) := by omega
    have h2 : (0 : Int) ≤ ((i + m : Nat) : Int) := by omega
    refine Ev.succ ?_
    by_cases hl : Lx.isLet s[i + m] = true
    · simp only [swardref02_letters.l0, hw, h1, h2, if_true, hb, letter_f, Option.bind_some, hl, hw1]
      simp only [Lx.runL, hl, if_true]
      rw [show m + (Lx.runL Lx.isLet (s.data.toList.drop (i + m + 1)) + 1) = m + 1 + Lx.runL Lx.isLet (s.data.toList.drop (i + (m + 1))) by rw [show i + (m + 1) = i + m + 1 by omega]; omega]
      exact ih0
    · simp only [swardref02_letters.l0, hw, h1, h2, if_true, hb, letter_f, Option.bind_some, hl, if_false, Bool.false_eq_true]
      simp only [Lx.runL, hl, if_false, Bool.false_eq_true, Nat.add_zero]
      exact Ev.now _
theorem ev_ciphers (s : ByteArray) (hs : s.size ≤ 4000) : ∀ (n i m : Nat), i + m ≤ s.size → s.size - (i + m) = n →
    Ev (fun k => swardref02_ciphers.l0 k s i m) ((m + Lx.runL Lx.isDig (s.data.toList.drop (i + m)) : Nat) : Int) := by
  intro n
  induction n with
  | zero =>
    intro i m hi hn
    have he : s.data.toList.drop (i + m) = [] := List.drop_of_length_le (by simp; omega)
    rw [he]
    have hw : wrap64 ((i : Int) + m) = ((i + m : Nat) : Int) := by unfold wrap64; omega
    have h1 : ¬ (((i + m : Nat) : Int) < (s.size : Int)) := by omega
    refine Ev.succ ?_
    simp only [swardref02_ciphers.l0, hw, h1, if_false]
    exact Ev.now _
  | succ n ih =>
    intro i m hi hn
    have hlt : i + m < s.size := by omega
    have ih0 := ih i (m + 1) (by omega) (by omega)
    have hd := drop_cons s (i + m) hlt
    rw [hd]
    have hb := bt_nat s (i + m) hlt
    have hw : wrap64 ((i : Int) + m) = ((i + m : Nat) : Int) := by unfold wrap64; omega
    have hw1 : wrap64 ((m : Int) + 1) = ((m + 1 : Nat) : Int) := by unfold wrap64; omega
    have h1 : ((i + m : Nat) : Int) < (s.size : Int) := by omega
    have h2 : (0 : Int) ≤ ((i + m : Nat) : Int) := by omega
    refine Ev.succ ?_
    by_cases hl : Lx.isDig s[i + m] = true
    · simp only [swardref02_ciphers.l0, hw, h1, h2, if_true, hb, cipher_f, Option.bind_some, hl, hw1]
      simp only [Lx.runL, hl, if_true]
      rw [show m + (Lx.runL Lx.isDig (s.data.toList.drop (i + m + 1)) + 1) = m + 1 + Lx.runL Lx.isDig (s.data.toList.drop (i + (m + 1))) by rw [show i + (m + 1) = i + m + 1 by omega]; omega]
      exact ih0
    · simp only [swardref02_ciphers.l0, hw, h1, h2, if_true, hb, cipher_f, Option.bind_some, hl, if_false, Bool.false_eq_true]
      simp only [Lx.runL, hl, if_false, Bool.false_eq_true, Nat.add_zero]
      exact Ev.now _
end Go.Proofs.YtkijoeihkajlcaaGreatDoor.PLexTokens

set_option linter.unusedVariables false
set_option linter.unusedSimpArgs false
namespace Go.Proofs.YtkijoeihkajlcaaGreatDoor.PLexTokens
open Go.RowKit Go.Shelf
open Go.Proofs.YtkijoeihkajlcaaGreatDoorW.PrintWords

theorem quoted_f (c : UInt8) : swardref02_quoted.f (c.toNat : Int) = some (Lx.isTxt c) := by
  unfold swardref02_quoted.f Lx.isTxt
  by_cases h1 : 32 ≤ c.toNat
  · have a1 : decide (32 ≤ c.toNat) = true := decide_eq_true h1
    rw [if_pos (by omega), a1, Bool.true_and]
    by_cases h2 : c.toNat ≤ 126
    · have a2 : decide (c.toNat ≤ 126) = true := decide_eq_true h2
      rw [if_pos (by omega), a2, Bool.true_and]
      by_cases h3 : c.toNat = 34
      · rw [if_pos (by omega)]
        simp [h3]
      · have a3 : decide (c.toNat ≠ 34) = true := decide_eq_true h3
        rw [if_neg (by omega), a3, Bool.true_and]
        congr 1
        rw [Bool.eq_iff_iff, bne_iff_ne, decide_eq_true_iff]
        omega
    · have a2 : decide (c.toNat ≤ 126) = false := decide_eq_false h2
      rw [if_neg (by omega), a2, Bool.false_and]
  · have a1 : decide (32 ≤ c.toNat) = false := decide_eq_false h1
    rw [if_neg (by omega), a1, Bool.false_and]

theorem ev_stuff (s : ByteArray) (hs : s.size ≤ 4000) : ∀ (n i m : Nat), i + m ≤ s.size → s.size - (i + m) = n →
    Ev (fun k => swardref02_stuff.l0 k s i m) ((m + Lx.runL Lx.isTxt (s.data.toList.drop (i + m)) : Nat) : Int) := by
  intro n
  induction n with
  | zero =>
    intro i m hi hn
    have he : s.data.toList.drop (i + m) = [] := List.drop_of_length_le (by simp; omega)
    rw [he]
    have hw : wrap64 ((i : Int) + m) = ((i + m : Nat) : Int) := by unfold wrap64; omega
    have h1 : ¬ (((i + m : Nat) : Int) < (s.size : Int)) := by omega
    refine Ev.succ ?_
    simp only [swardref02_stuff.l0, hw, h1, if_false]
    exact Ev.now _
  | succ n ih =>
    intro i m hi hn
    have hlt : i + m < s.size := by omega
    have ih0 := ih i (m + 1) (by omega) (by omega)
    have hd := drop_cons s (i + m) hlt
    rw [hd]
    have hb := bt_nat s (i + m) hlt
    have hw : wrap64 ((i : Int) + m) = ((i + m : Nat) : Int) := by unfold wrap64; omega
    have hw1 : wrap64 ((m : Int) + 1) = ((m + 1 : Nat) : Int) := by unfold wrap64; omega
    have h1 : ((i + m : Nat) : Int) < (s.size : Int) := by omega
    have h2 : (0 : Int) ≤ ((i + m : Nat) : Int) := by omega
    refine Ev.succ ?_
    by_cases hl : Lx.isTxt s[i + m] = true
    · simp only [swardref02_stuff.l0, hw, h1, h2, if_true, hb, quoted_f, Option.bind_some, hl, hw1]
      simp only [Lx.runL, hl, if_true]
      rw [show m + (Lx.runL Lx.isTxt (s.data.toList.drop (i + m + 1)) + 1) = m + 1 + Lx.runL Lx.isTxt (s.data.toList.drop (i + (m + 1))) by rw [show i + (m + 1) = i + m + 1 by omega]; omega]
      exact ih0
    · simp only [swardref02_stuff.l0, hw, h1, h2, if_true, hb, quoted_f, Option.bind_some, hl, if_false, Bool.false_eq_true]
      simp only [Lx.runL, hl, if_false, Bool.false_eq_true, Nat.add_zero]
      exact Ev.now _

def memB (xs : List ByteArray) (s : ByteArray) : Bool := xs.any fun x => decide (x.data.toList = s.data.toList)
theorem ev_among (xs : List ByteArray) (hx : xs.length ≤ 4000) (s : ByteArray) : ∀ (n i : Nat), i ≤ xs.length → xs.length - i = n →
    Ev (fun k => swardref02_among.l0 k xs s i) (memB (xs.drop i) s) := by
  intro n
  induction n with
  | zero =>
    intro i hi hn
    have he : xs.drop i = [] := List.drop_of_length_le (by omega)
    have h1 : ¬ ((i : Int) < (xs.length : Int)) := by omega
    refine Ev.succ ?_
    simp only [swardref02_among.l0, h1, if_false, he]
    exact Ev.now _
  | succ n ih =>
    intro i hi hn
    have hlt : i < xs.length := by omega
    have ih0 := ih (i + 1) (by omega) (by omega)
    have hw := wrap_succ i (by omega)
    have h1 : (i : Int) < (xs.length : Int) := by omega
    have h2 : (0 : Int) ≤ (i : Int) := by omega
    have hr : rdOf ByteArray.empty xs (i : Int) = xs[i] := by simp [rdOf, List.getD_eq_getElem?_getD, List.getElem?_eq_getElem hlt]
    rw [List.drop_eq_getElem_cons hlt]
    unfold memB at ih0 ⊢
    rw [List.any_cons]
    refine Ev.succ ?_
    by_cases he : xs[i].toList = s.toList
    · have hes : xs[i].data.toList = s.data.toList := by rw [← bs_toList, he, bs_toList]
      simp only [swardref02_among.l0, h1, h2, if_true, hr, he]
      rw [decide_eq_true hes, Bool.true_or]
      exact Ev.now _
    · have hne : ¬ xs[i].data.toList = s.data.toList := fun h => he (by rw [bs_toList, bs_toList, h])
      simp only [swardref02_among.l0, h1, h2, if_true, hr, he, if_false, hw]
      rw [decide_eq_false hne, Bool.false_or]
      exact ih0

theorem memB_map (ls : List Lx.Bs) (s : ByteArray) : memB (ls.map bsOf) s = ls.contains s.data.toList := by
  unfold memB
  induction ls with
  | nil => rfl
  | cons l ls ih =>
    rw [List.map_cons, List.any_cons, ih, List.contains_cons]
    congr 1
    rw [Bool.eq_iff_iff, decide_eq_true_iff, beq_iff_eq]
    show l = _ ↔ _
    exact eq_comm
theorem keys_eq : swardref02_Keys.f = some (Lx.keyWords.map bsOf) := rfl
theorem ev_Key (s : ByteArray) : Ev (fun k => swardref02_Key.f k s) (Lx.isKey s.data.toList) := by
  have ha := ev_among (Lx.keyWords.map bsOf) (by decide) s _ 0 (Nat.zero_le _) rfl
  rw [List.drop_zero, memB_map] at ha
  refine Ev.congr (fun k => ?_) ha
  unfold swardref02_Key.f
  rw [keys_eq]
  show Option.bind (swardref02_among.l0 k (Lx.keyWords.map bsOf) s 0) (fun t => some t) = swardref02_among.l0 k (Lx.keyWords.map bsOf) s 0
  cases swardref02_among.l0 k (Lx.keyWords.map bsOf) s 0 <;> rfl

/-- What the document's token says of a try. -/
def tokR (i : Nat) : Lx.Tried → Int × ByteArray × Int × Int × Int
  | .none => (0, ⟨#[]⟩, 0, i, 1)
  | .bad why => (0, ⟨#[]⟩, 0, i, why)
  | .got p _ => ((tokS (i, p)).f0, (tokS (i, p)).f1, (tokS (i, p)).f2, i, 0)

theorem ext_eq (s : ByteArray) (a n b : Nat) (h : b = a + n) : s.extract a b = bsOf ((s.data.toList.drop a).take n) := by
  have := extract_eq s a n b h
  unfold strV at this
  injection this

theorem ev_worded (s : ByteArray) (hs : s.size ≤ 4000) (i : Nat) (hi : i < s.size) (hl : Lx.isLet s[i] = true) :
    Ev (fun k => swardref02_worded.f k s i) (tokR i (Lx.letters (s.data.toList.drop i))) := by
  have hr := ev_letters s hs _ i 0 (by omega) rfl
  simp only [Nat.add_zero, Nat.zero_add] at hr
  obtain ⟨m, hm⟩ : ∃ m, m = Lx.runL Lx.isLet (s.data.toList.drop i) := ⟨_, rfl⟩
  rw [← hm] at hr
  have hle := Lx.runL_le Lx.isLet (s.data.toList.drop i)
  rw [← hm] at hle
  have hlen : (s.data.toList.drop i).length = s.size - i := by simp
  have hpos : 0 < m := by
    rw [hm, drop_cons s i hi]
    simp [Lx.runL, hl]
  have hex := ext_eq s i m (i + m) rfl
  have hw : wrap64 ((i : Int) + m) = ((i + m : Nat) : Int) := by unfold wrap64; omega
  have h1 : (0 : Int) ≤ (i : Int) := by omega
  have h2 : (i : Int) ≤ ((i + m : Nat) : Int) := by omega
  have h3 : ((i + m : Nat) : Int) ≤ (s.size : Int) := by omega
  have hK := ev_Key (bsOf ((s.data.toList.drop i).take m))
  have hbd : (bsOf ((s.data.toList.drop i).take m)).data.toList = (s.data.toList.drop i).take m := by simp [bsOf]
  rw [hbd] at hK
  have hsz : (bsOf ((s.data.toList.drop i).take m)).size = m := by rw [bsOf_size, List.length_take]; omega
  unfold Lx.letters
  rw [← hm, if_neg (by omega)]
  have hgo : Ev (fun k => (swardref02_letters.l0 k s i 0).bind fun t152 => if 0 ≤ (i : Int) then (if (i : Int) ≤ wrap64 (i + t152) then (if wrap64 (i + t152) ≤ (s.size : Int) then ((swardref02_Key.f k (s.extract (i : Int).toNat (wrap64 (i + t152)).toNat)).bind fun t153 => if t153 = true then some (2, s.extract (i : Int).toNat (wrap64 (i + t152)).toNat, 0, (i : Int), 0) else if ((s.extract (i : Int).toNat (wrap64 (i + t152)).toNat).size : Int) > 8 then some (0, ⟨#[]⟩, 0, (i : Int), 4) else some (1, s.extract (i : Int).toNat (wrap64 (i + t152)).toNat, 0, (i : Int), 0)) else none) else none) else none)
      (tokR i (if 8 < m ∧ Lx.isKey ((s.data.toList.drop i).take m) = false then .bad 4 else .got (.word ((s.data.toList.drop i).take m)) m)) := by
    refine Ev.bind hr ?_
    simp only [hw, h1, h2, h3, if_true, Int.toNat_natCast, hex]
    refine Ev.bind hK ?_
    rw [hsz]
    cases hk : Lx.isKey ((s.data.toList.drop i).take m)
    · by_cases h8 : 8 < m
      · have h8i : (m : Int) > 8 := by omega
        simp only [h8, h8i, if_true, Bool.false_eq_true, if_false, and_self, tokR]
        exact Ev.now _
      · have h8i : ¬ ((m : Int) > 8) := by omega
        simp only [h8, h8i, Bool.false_eq_true, if_false, false_and, tokR, tokS, tokK, tokT, tokN, hk]
        exact Ev.now _
    · simp only [if_true, Bool.true_eq_false, and_false, if_false, tokR, tokS, tokK, tokT, tokN, hk]
      exact Ev.now _
  exact hgo
end Go.Proofs.YtkijoeihkajlcaaGreatDoor.PLexTokens

set_option linter.unusedVariables false
set_option linter.unusedSimpArgs false
namespace Go.Proofs.YtkijoeihkajlcaaGreatDoor.PLexTokens
open Go.RowKit Go.Shelf
open Go.Proofs.YtkijoeihkajlcaaGreatDoorW.PrintWords

theorem ev_stringed (s : ByteArray) (hs : s.size ≤ 4000) (i : Nat) (hi : i < s.size) (hq : s[i] = 34) :
    Ev (fun k => swardref02_stringed.f k s i) (tokR i (Lx.quoted (s.data.toList.drop i))) := by
  have hr := ev_stuff s hs _ (i + 1) 0 (by omega) rfl
  simp only [Nat.add_zero, Nat.zero_add] at hr
  obtain ⟨m, hm⟩ : ∃ m, m = Lx.runL Lx.isTxt (s.data.toList.drop (i + 1)) := ⟨_, rfl⟩
  rw [← hm] at hr
  have hle := Lx.runL_le Lx.isTxt (s.data.toList.drop (i + 1))
  rw [← hm] at hle
  have hlen : (s.data.toList.drop (i + 1)).length = s.size - (i + 1) := by simp
  have hw1 : wrap64 ((i : Int) + 1) = ((i + 1 : Nat) : Int) := by unfold wrap64; omega
  have hw2 : wrap64 (((i + 1 : Nat) : Int) + m) = ((i + 1 + m : Nat) : Int) := by unfold wrap64; omega
  have hex := ext_eq s (i + 1) m (i + 1 + m) rfl
  have hgo : Ev (fun k => swardref02_stuff.f k s (wrap64 ((i : Int) + 1))) (m : Int) := by
    rw [hw1]
    exact hr
  unfold swardref02_stringed.f Lx.quoted
  rw [drop_tail, drop_headD s i hi, ← hm, if_neg (by rw [hq]; simp)]
  refine Ev.bind hgo ?_
  simp only [hw1, hw2]
  by_cases h1 : s.size ≤ i + 1 + m
  · have a1 : ((i + 1 + m : Nat) : Int) ≥ (s.size : Int) := by omega
    rw [if_pos (.inl (by omega))]
    simp only [a1, if_true]
    refine Ev.succ ?_
    simp only [swardref02_stringed.j0, if_true, tokR]
    exact Ev.now _
  · have a1 : ¬ (((i + 1 + m : Nat) : Int) ≥ (s.size : Int)) := by omega
    have a2 : (0 : Int) ≤ ((i + 1 + m : Nat) : Int) := by omega
    have a3 : ((i + 1 + m : Nat) : Int) < (s.size : Int) := by omega
    have hb := bt_nat s (i + 1 + m) (by omega)
    have hdd : ((s.data.toList.drop (i + 1)).drop m).headD 0 = s[i + 1 + m] := by
      rw [List.drop_drop]
      exact drop_headD s (i + 1 + m) (by omega)
    simp only [a1, a2, a3, if_true, if_false, hb]
    rw [hdd]
    by_cases h2 : s[i + 1 + m] = 34
    · have b1 : ((s[i + 1 + m].toNat : Int) != 34) = false := by rw [h2]; rfl
      rw [if_neg (fun h => h.elim (fun h => by omega) (fun h => h h2))]
      rw [b1]
      refine Ev.succ ?_
      by_cases h3 : 20 < m
      · have b3 : (m : Int) > 20 := by omega
        simp only [swardref02_stringed.j0, b3, if_true, if_false, Bool.false_eq_true, h3, tokR]
        exact Ev.now _
      · have b3 : ¬ ((m : Int) > 20) := by omega
        have c1 : (0 : Int) ≤ ((i + 1 : Nat) : Int) := by omega
        have c2 : ((i + 1 : Nat) : Int) ≤ ((i + 1 + m : Nat) : Int) := by omega
        have c3 : ((i + 1 + m : Nat) : Int) ≤ (s.size : Int) := by omega
        simp only [swardref02_stringed.j0, b3, if_true, if_false, Bool.false_eq_true, h3, hw1, hw2, c1, c2, c3, Int.toNat_natCast, hex, tokR, tokS, tokK, tokT, tokN]
        exact Ev.now _
    · have b1 : ((s[i + 1 + m].toNat : Int) != 34) = true := by
        rw [bne_iff_ne]
        intro h
        apply h2
        apply UInt8.toNat_inj.1
        show _ = 34
        omega
      rw [if_pos (.inr h2)]
      rw [b1]
      refine Ev.succ ?_
      simp only [swardref02_stringed.j0, if_true, tokR]
      exact Ev.now _

/-- What stands first of a list of signs, as bytes; none: no byte. -/
def signB (l : Lx.Bs) : List Lx.Bs → ByteArray
  | [] => ⟨#[]⟩
  | w :: ws => if w.isPrefixOf l then bsOf w else signB l ws
theorem signAt_B (l : Lx.Bs) : ∀ ws : List Lx.Bs, (∀ x ∈ ws, x ≠ []) → Lx.signAt l ws = if (signB l ws).toList = [] then .none else .got (.sgn (signB l ws).data.toList) (signB l ws).size
  | [], _ => by rw [show signB l [] = ⟨#[]⟩ from rfl, if_pos (by rw [bs_toList])]; rfl
  | w :: ws, h => by
    unfold Lx.signAt signB
    split
    · have hw : w ≠ [] := h w (by simp)
      rw [if_neg (by rw [bs_toList]; simpa [bsOf] using hw), bsOf_size]
      simp [bsOf]
    · exact signAt_B l ws (fun y hy => h y (by simp [hy]))
theorem ev_sign (s : ByteArray) (hs : s.size ≤ 4000) (i : Nat) (hi : i < s.size) (ws : List Lx.Bs) (hws : ws.length ≤ 100) (h2 : ∀ x ∈ ws, x.length ≤ 2) : ∀ (n j : Nat), j ≤ ws.length → ws.length - j = n →
    Ev (fun k => swardref02_sign.l0 k s i (ws.map bsOf) j) (signB (s.data.toList.drop i) (ws.drop j)) := by
  intro n
  induction n with
  | zero =>
    intro j hj hn
    have he : ws.drop j = [] := List.drop_of_length_le (by omega)
    have h1 : ¬ ((j : Int) < ((ws.map bsOf).length : Int)) := by simp; omega
    refine Ev.succ ?_
    simp only [swardref02_sign.l0, h1, if_false, he, signB]
    exact Ev.now _
  | succ n ih =>
    intro j hj hn
    have hlt : j < ws.length := by omega
    have ih0 := ih (j + 1) (by omega) (by omega)
    have hw := wrap_succ j (by omega)
    have a1 : (j : Int) < ((ws.map bsOf).length : Int) := by simp; omega
    have a2 : (0 : Int) ≤ (j : Int) := by omega
    have hr : rdOf ByteArray.empty (ws.map bsOf) (j : Int) = bsOf ws[j] := by simp [rdOf, List.getD_eq_getElem?_getD, List.getElem?_eq_getElem hlt]
    have hl2 := h2 _ (List.getElem_mem hlt)
    have hwz : wrap64 ((i : Int) + ((bsOf ws[j]).size : Int)) = ((i + ws[j].length : Nat) : Int) := by rw [bsOf_size]; unfold wrap64; omega
    have a4 : (0 : Int) ≤ (i : Int) := by omega
    have a5 : (i : Int) ≤ ((i + ws[j].length : Nat) : Int) := by omega
    rw [List.drop_eq_getElem_cons hlt]
    have hlen : (s.data.toList.drop i).length = s.size - i := by simp
    refine Ev.succ ?_
    by_cases hfit : i + ws[j].length ≤ s.size
    · have a3 : ((i + ws[j].length : Nat) : Int) ≤ (s.size : Int) := by omega
      have hex := ext_eq s i ws[j].length _ rfl
      have hpre : ws[j].isPrefixOf (s.data.toList.drop i) = true ↔ (s.data.toList.drop i).take ws[j].length = ws[j] := by
        rw [List.isPrefixOf_iff_prefix, List.prefix_iff_eq_take]
        exact eq_comm
      by_cases he : (s.data.toList.drop i).take ws[j].length = ws[j]
      · have e1 : (bsOf ((s.data.toList.drop i).take ws[j].length)).toList = (bsOf ws[j]).toList := by rw [he]
        simp only [swardref02_sign.l0, a1, a2, if_true, hr, hwz, a3, a4, a5, Int.toNat_natCast, hex, e1, signB, hpre.2 he]
        exact Ev.now _
      · have e1 : ¬ ((bsOf ((s.data.toList.drop i).take ws[j].length)).toList = (bsOf ws[j]).toList) := by
          intro h
          apply he
          simpa [bs_toList, bsOf] using h
        have e2 : ws[j].isPrefixOf (s.data.toList.drop i) = false := by
          rw [Bool.eq_false_iff]
          exact fun h => he (hpre.1 h)
        simp only [swardref02_sign.l0, a1, a2, if_true, hr, hwz, a3, a4, a5, Int.toNat_natCast, hex, e1, if_false, hw, signB, e2, Bool.false_eq_true]
        exact ih0
    · have a3 : ¬ (((i + ws[j].length : Nat) : Int) ≤ (s.size : Int)) := by omega
      have e2 : ws[j].isPrefixOf (s.data.toList.drop i) = false := by
        rw [Bool.eq_false_iff]
        intro h
        have := (List.isPrefixOf_iff_prefix.1 h).length_le
        omega
      simp only [swardref02_sign.l0, a1, a2, if_true, hr, hwz, a3, if_false, hw, signB, e2, Bool.false_eq_true]
      exact ih0
theorem signs_eq : swardref02_Signs.f = some (Lx.signWords.map bsOf) := rfl
theorem ev_sign_f (s : ByteArray) (hs : s.size ≤ 4000) (i : Nat) (hi : i < s.size) : Ev (fun k => swardref02_sign.f k s i) (signB (s.data.toList.drop i) Lx.signWords) := by
  have h := ev_sign s hs i hi Lx.signWords (by decide) (by decide) _ 0 (Nat.zero_le _) rfl
  rw [List.drop_zero] at h
  refine Ev.congr (fun k => ?_) h
  unfold swardref02_sign.f
  rw [signs_eq]
  rfl
end Go.Proofs.YtkijoeihkajlcaaGreatDoor.PLexTokens

set_option linter.unusedVariables false
set_option linter.unusedSimpArgs false
namespace Go.Proofs.YtkijoeihkajlcaaGreatDoor.PLexTokens
open Go.RowKit Go.Shelf
open Go.Proofs.YtkijoeihkajlcaaGreatDoorW.PrintWords

/-- The number that digits say, with no bound. -/
def valF (l : Lx.Bs) (X : Nat) : Nat := l.foldl (fun x c => 10 * x + (c.toNat - 48)) X
theorem valF_cons (c : UInt8) (l : Lx.Bs) (X : Nat) : valF (c :: l) X = valF l (10 * X + (c.toNat - 48)) := by
  unfold valF
  rw [List.foldl_cons]
theorem pow_step (X P d : Nat) : X * (P * 10) ≤ (10 * X + d) * P := by
  have h : X * (P * 10) = (10 * X) * P := by
    rw [Nat.mul_comm P 10, ← Nat.mul_assoc]
    rw [Nat.mul_comm X 10]
  rw [h]
  exact Nat.mul_le_mul_right P (Nat.le_add_right (10 * X) d)
theorem valF_pow (l : Lx.Bs) : ∀ X : Nat, X * 10 ^ l.length ≤ valF l X := by
  induction l with
  | nil => intro X; simp [valF]
  | cons c l ih =>
    intro X
    have h := ih (10 * X + (c.toNat - 48))
    rw [valF_cons, List.length_cons, Nat.pow_succ]
    exact Nat.le_trans (pow_step _ _ _) h
theorem valF_ge (l : Lx.Bs) (X : Nat) : X ≤ valF l X := Nat.le_trans (Nat.le_mul_of_pos_right _ (Nat.pow_pos (by omega))) (valF_pow l X)
theorem dig_bounds {c : UInt8} (h : Lx.isDig c = true) : 48 ≤ c.toNat ∧ c.toNat ≤ 57 := by simpa [Lx.isDig] using h
theorem addUp_stay : ∀ (l : Lx.Bs) (x : Int), 1000000000 < x → l.foldl Lx.addUp x = x
  | [], x, _ => rfl
  | c :: l, x, h => by rw [List.foldl_cons, Lx.addUp, if_neg (by omega)]; exact addUp_stay l x h
theorem fig_val : ∀ (l : Lx.Bs) (X : Nat), (∀ c ∈ l, Lx.isDig c = true) → (valF l X ≤ 1000000000 → l.foldl Lx.addUp (X : Int) = valF l X) ∧ (1000000000 < valF l X → 1000000000 < l.foldl Lx.addUp (X : Int))
  | [], X, _ => ⟨fun _ => rfl, fun h => by have h' : 1000000000 < X := h; simp only [List.foldl_nil]; omega⟩
  | c :: l, X, hd => by
    have hc := dig_bounds (hd c (by simp))
    have ih := fig_val l (10 * X + (c.toNat - 48)) (fun x hx => hd x (by simp [hx]))
    rw [valF_cons, List.foldl_cons]
    by_cases hX : X ≤ 1000000000
    · have he : Lx.addUp (X : Int) c = ((10 * X + (c.toNat - 48) : Nat) : Int) := by
        rw [Lx.addUp, if_pos (by omega)]
        omega
      rw [he]
      exact ih
    · have he : Lx.addUp (X : Int) c = X := by rw [Lx.addUp, if_neg (by omega)]
      have hg := valF_ge l (10 * X + (c.toNat - 48))
      refine ⟨fun h => by omega, fun _ => ?_⟩
      rw [he, addUp_stay l _ (by omega)]
      omega
theorem fig_big (c : UInt8) (l : Lx.Bs) (h1 : Lx.isDig c = true) (h2 : c ≠ 48) (h3 : 10 ≤ l.length) : 1000000000 < valF (c :: l) 0 := by
  have hc := dig_bounds h1
  have hc2 : c.toNat ≠ 48 := fun h => h2 (UInt8.toNat_inj.1 h)
  rw [valF_cons]
  have h := valF_pow l (10 * 0 + (c.toNat - 48))
  have hp : 10 ^ 10 ≤ 10 ^ l.length := Nat.pow_le_pow_right (by omega) h3
  have : 1 * 10 ^ l.length ≤ (10 * 0 + (c.toNat - 48)) * 10 ^ l.length := Nat.mul_le_mul_right _ (by omega)
  omega

theorem ev_fig (b : ByteArray) (hb : b.size ≤ 10) (hd : ∀ c ∈ b.data.toList, Lx.isDig c = true) : ∀ (n i X : Nat), i ≤ b.size → b.size - i = n → X < 10 ^ i →
    Ev (fun k => swardref02_Figures.l0 k b (X : Int) (i : Int)) (((valF (b.data.toList.drop i) X : Nat) : Int), decide (((valF (b.data.toList.drop i) X : Nat) : Int) ≤ 1000000000)) := by
  intro n
  induction n with
  | zero =>
    intro i X hi hn hX
    have he : b.data.toList.drop i = [] := List.drop_of_length_le (by simp; omega)
    have h1 : ¬ ((i : Int) < (b.size : Int)) := by omega
    refine Ev.succ ?_
    simp only [swardref02_Figures.l0, h1, if_false, he]
    exact Ev.now _
  | succ n ih =>
    intro i X hi hn hX
    have hlt : i < b.size := by omega
    have hcd := hd b[i] (by
      have : b[i] = b.data.toList[i]'(by simpa using hlt) := rfl
      rw [this]
      exact List.getElem_mem _)
    have hc := dig_bounds hcd
    have hp : 10 ^ i ≤ 10 ^ 9 := Nat.pow_le_pow_right (by omega) (by omega)
    have hX9 : X < 1000000000 := by omega
    have ih0 := ih (i + 1) (10 * X + (b[i].toNat - 48)) (by omega) (by omega) (by rw [Nat.pow_succ]; omega)
    have hbt := bt_nat b i hlt
    have hw := wrap_succ i (by omega)
    have h1 : (i : Int) < (b.size : Int) := by omega
    have h2 : (0 : Int) ≤ (i : Int) := by omega
    have hm : wrap64 ((wrap64 (10 * (X : Int))) + ((((b[i].toNat : Nat) : Int) - 48) % 256)) = ((10 * X + (b[i].toNat - 48) : Nat) : Int) := by
      have e1 : wrap64 (10 * (X : Int)) = 10 * (X : Int) := by unfold wrap64; omega
      rw [e1]
      have e2 : (((b[i].toNat : Nat) : Int) - 48) % 256 = ((b[i].toNat - 48 : Nat) : Int) := by omega
      rw [e2]
      unfold wrap64
      omega
    rw [drop_cons b i hlt, valF_cons]
    refine Ev.succ ?_
    simp only [swardref02_Figures.l0, h1, h2, if_true, hbt, hm, hw]
    exact ih0

theorem runL_all (p : UInt8 → Bool) : ∀ (l : Lx.Bs), ∀ c ∈ l.take (Lx.runL p l), p c = true
  | [], c, h => by simp at h
  | x :: l, c, h => by
    unfold Lx.runL at h
    split at h
    · rename_i hx
      rw [List.take_succ_cons, List.mem_cons] at h
      rcases h with rfl | h
      · exact hx
      · exact runL_all p l c h
    · simp at h

/-- What Figures says. -/
theorem ev_Figures (d : Lx.Bs) (hd : ∀ c ∈ d, Lx.isDig c = true) (hpos : 0 < d.length) (hlen : d.length ≤ 4000) :
    ∃ V ok, Ev (fun k => swardref02_Figures.f k (bsOf d)) (V, ok) ∧
      (ok = true → ¬ (1 < d.length ∧ d.headD 0 = 48) ∧ V = Lx.figure d ∧ ¬ (1000000000 < Lx.figure d)) ∧
      (ok = false → (1 < d.length ∧ d.headD 0 = 48) ∨ 1000000000 < Lx.figure d) := by
  have hsz := bsOf_size d
  have hfv := fig_val d 0 hd
  have z0 : ¬ (((bsOf d).size : Int) = 0) := by omega
  by_cases h10 : 10 < d.length
  · refine ⟨0, false, ?_, fun h => (by cases h), fun _ => ?_⟩
    · have z1 : ((bsOf d).size : Int) > 10 := by omega
      refine Ev.succ ?_
      simp only [swardref02_Figures.f, z0, z1, if_false, if_true, swardref02_Figures.j0]
      exact Ev.now _
    · by_cases h48 : d.headD 0 = 48
      · exact .inl ⟨by omega, h48⟩
      · right
        match d, hpos with
        | c :: l, _ =>
          have hb := fig_big c l (hd c (by simp)) (by simpa using h48) (by simp at h10; omega)
          exact hfv.2 hb
  · have z1 : ¬ (((bsOf d).size : Int) > 10) := by omega
    have hmain := ev_fig (bsOf d) (by omega) (by simpa [bsOf] using hd) _ 0 0 (Nat.zero_le _) rfl (by simp)
    rw [List.drop_zero, show (bsOf d).data.toList = d by simp [bsOf]] at hmain
    by_cases h48 : 1 < d.length ∧ d.headD 0 = 48
    · refine ⟨0, false, ?_, fun h => (by cases h), fun _ => .inl h48⟩
      have z2 : ((bsOf d).size : Int) > 1 := by omega
      have z3 : (0 : Int) < ((bsOf d).size : Int) := by omega
      have hb0 : bt (bsOf d) 0 = 48 := by
        have := bt_nat (bsOf d) 0 (by omega)
        have hx : (bsOf d)[0]'(by omega) = 48 := by
          rw [← drop_headD (bsOf d) 0 (by omega), List.drop_zero, show (bsOf d).data.toList = d by simp [bsOf]]
          exact h48.2
        rw [hx] at this
        exact this
      refine Ev.succ ?_
      simp only [swardref02_Figures.f, z0, z1, z2, z3, if_false, if_true, hb0, swardref02_Figures.j0, beq_self_eq_true]
      exact Ev.now _
    · have hf : Ev (fun k => swardref02_Figures.f k (bsOf d)) (((valF d 0 : Nat) : Int), decide (((valF d 0 : Nat) : Int) ≤ 1000000000)) := by
        by_cases h1 : 1 < d.length
        · have z2 : ((bsOf d).size : Int) > 1 := by omega
          have z3 : (0 : Int) < ((bsOf d).size : Int) := by omega
          have hb0 : (bt (bsOf d) 0 == 48) = false := by
            have := bt_nat (bsOf d) 0 (by omega)
            have hx : (bsOf d)[0]'(by omega) = d.headD 0 := by
              rw [← drop_headD (bsOf d) 0 (by omega), List.drop_zero, show (bsOf d).data.toList = d by simp [bsOf]]
            rw [hx] at this
            rw [show bt (bsOf d) 0 = ((d.headD 0).toNat : Int) from this, beq_eq_false_iff_ne]
            intro h
            apply h48
            refine ⟨h1, UInt8.toNat_inj.1 ?_⟩
            show _ = 48
            omega
          refine Ev.succ ?_
          simp only [swardref02_Figures.f, z0, z1, z2, z3, if_false, if_true, hb0, swardref02_Figures.j0, Bool.false_eq_true]
          exact hmain
        · have z2 : ¬ (((bsOf d).size : Int) > 1) := by omega
          refine Ev.succ ?_
          simp only [swardref02_Figures.f, z0, z1, z2, if_false, swardref02_Figures.j0, Bool.false_eq_true]
          exact hmain
      by_cases hv : valF d 0 ≤ 1000000000
      · refine ⟨_, _, hf, fun _ => ⟨h48, (hfv.1 hv).symm, ?_⟩, fun h => ?_⟩
        · have := hfv.1 hv
          unfold Lx.figure
          rw [show (0 : Int) = ((0 : Nat) : Int) from rfl, this]
          omega
        · rw [decide_eq_false_iff_not] at h
          omega
      · refine ⟨_, _, hf, fun h => ?_, fun _ => .inr (hfv.2 (by omega))⟩
        rw [decide_eq_true_iff] at h
        omega
end Go.Proofs.YtkijoeihkajlcaaGreatDoor.PLexTokens

set_option linter.unusedVariables false
set_option linter.unusedSimpArgs false
namespace Go.Proofs.YtkijoeihkajlcaaGreatDoor.PLexTokens
open Go.RowKit Go.Shelf
open Go.Proofs.YtkijoeihkajlcaaGreatDoorW.PrintWords

theorem runL_take_len (p : UInt8 → Bool) (l : Lx.Bs) : (l.take (Lx.runL p l)).length = Lx.runL p l := by
  have := Lx.runL_le p l
  rw [List.length_take]
  omega
theorem headD_take (l : Lx.Bs) (n : Nat) (h : 0 < n) : (l.take n).headD 0 = l.headD 0 := by
  cases l with
  | nil => simp
  | cons c l =>
    obtain ⟨m, rfl⟩ : ∃ m, n = m + 1 := ⟨n - 1, by omega⟩
    rfl

theorem wrap_add (a m : Nat) (h : a + m < 9223372036854775807) : wrap64 ((a : Int) + m) = ((a + m : Nat) : Int) := by unfold wrap64; omega
theorem wrap_neg (V : Int) (h0 : 0 ≤ V) (h1 : V ≤ 1000000000) : wrap64 (-V) = -V := by unfold wrap64; omega
theorem fig_ge (l : Lx.Bs) (hd : ∀ c ∈ l, Lx.isDig c = true) : 0 ≤ Lx.figure l := by
  have h := fig_val l 0 hd
  unfold Lx.figure
  by_cases hv : valF l 0 ≤ 1000000000
  · rw [show (0 : Int) = ((0 : Nat) : Int) from rfl, h.1 hv]
    omega
  · have := h.2 (by omega)
    rw [show (0 : Int) = ((0 : Nat) : Int) from rfl]
    omega

theorem ev_numbered (s : ByteArray) (hs : s.size ≤ 4000) (i : Nat) (hi : i < s.size) :
    Ev (fun k => swardref02_numbered.f k s i) (tokR i (Lx.digits (s.data.toList.drop i))) := by
  have hb := bt_nat s i hi
  have h0 : (0 : Int) ≤ (i : Int) := by omega
  have h1 : (i : Int) < (s.size : Int) := by omega
  obtain ⟨T, hT⟩ : ∃ T, T = Lx.tilde (s.data.toList.drop i) := ⟨_, rfl⟩
  have hT2 : T = decide (s[i] = 126) := by
    rw [hT, Lx.tilde, drop_headD s i hi, Bool.eq_iff_iff, beq_iff_eq, decide_eq_true_iff]
  -- where the digits begin
  obtain ⟨a, ha⟩ : ∃ a, a = if T then i + 1 else i := ⟨_, rfl⟩
  have hia : i ≤ a ∧ a ≤ s.size := by rw [ha]; split <;> omega
  have haT := Lib.hid (show a = i + (if T then 1 else 0) by rw [ha]; cases T <;> rfl)
  have hw0 := Lib.hid (wrap_succ i (by omega))
  have hd : Lx.afterTilde (s.data.toList.drop i) = s.data.toList.drop a := by
    unfold Lx.afterTilde
    rw [← hT, ha]
    cases T
    · simp
    · simp
  have hah := Lib.hid ha
  clear ha
  -- the rest, from there
  suffices hj : Ev (fun k => swardref02_numbered.j0 k s i a) (tokR i (Lx.digits (s.data.toList.drop i))) by
    unfold swardref02_numbered.f
    simp only [h0, h1, if_true, hb]
    by_cases ht : s[i] = 126
    · have e1 : (s[i].toNat : Int) = 126 := by rw [ht]; rfl
      rw [show a = i + 1 by rw [hah.out, hT2, decide_eq_true ht]; rfl] at hj
      simp only [e1, if_true, hw0.out]
      exact hj
    · have e1 : ¬ ((s[i].toNat : Int) = 126) := by
        intro h
        apply ht
        apply UInt8.toNat_inj.1
        show _ = 126
        omega
      rw [show a = i by rw [hah.out, hT2, decide_eq_false ht]; rfl] at hj
      simp only [e1, if_false]
      exact hj
  have hr := ev_ciphers s hs _ a 0 (by omega) rfl
  simp only [Nat.add_zero, Nat.zero_add] at hr
  unfold Lx.digits
  rw [hd, ← hT]
  obtain ⟨m, hm⟩ : ∃ m, m = Lx.runL Lx.isDig (s.data.toList.drop a) := ⟨_, rfl⟩
  rw [← hm] at hr
  have hle := Lx.runL_le Lx.isDig (s.data.toList.drop a)
  rw [← hm] at hle
  have hlen : (s.data.toList.drop a).length = s.size - a := by simp
  have hmt := runL_take_len Lx.isDig (s.data.toList.drop a)
  have hma := runL_all Lx.isDig (s.data.toList.drop a)
  rw [← hm] at hmt hma ⊢
  refine Ev.succ ?_
  simp only [swardref02_numbered.j0]
  refine Ev.bind (f := fun k t156 => if t156 = 0 then _ else _) (a := (m : Int)) ?_ ?_
  · exact Ev.congr (fun k => rfl) hr
  · by_cases hm0 : m = 0
    · have z : (m : Int) = 0 := by omega
      rw [if_pos hm0]
      simp only [z, if_true, tokR]
      exact Ev.now _
    · have z : ¬ ((m : Int) = 0) := by omega
      rw [if_neg hm0]
      simp only [z, if_false]
      refine Ev.bind (f := fun k t157 => _) (a := (m : Int)) ?_ ?_
      · exact Ev.congr (fun k => rfl) hr
      · have c1 : (0 : Int) ≤ (a : Int) := Int.natCast_nonneg _
        have hams : a + m ≤ s.size := by rw [hlen] at hle; omega
        have c2 : (a : Int) ≤ ((a + m : Nat) : Int) := by omega
        have c3 : ((a + m : Nat) : Int) ≤ (s.size : Int) := by omega
        have p1 : 0 < ((s.data.toList.drop a).take m).length := by rw [hmt]; omega
        have p2 : ((s.data.toList.drop a).take m).length ≤ 4000 := by rw [hmt]; omega
        have p3 : 0 < m := by omega
        have hex := ext_eq s a m (a + m) rfl
        have hw := wrap_add a m (by omega)
        simp only [hw, c1, c2, c3, if_true, Int.toNat_natCast, hex]
        obtain ⟨V, ok, hF, hok, hno⟩ := ev_Figures ((s.data.toList.drop a).take m) hma p1 p2
        rw [hmt, headD_take _ _ p3] at hok hno
        clear hw
        refine Ev.bind (f := fun k bt158 => _) (a := (V, ok)) hF ?_
        cases ok
        · have hbad : (1 < m ∧ (s.data.toList.drop a).headD 0 = 48) ∨ (Lx.figure ((s.data.toList.drop a).take m) = 0 ∧ T = true) ∨ 1000000000 < Lx.figure ((s.data.toList.drop a).take m) := by
            rcases hno rfl with h | h
            · exact .inl h
            · exact .inr (.inr h)
          rw [if_pos hbad]
          simp only [Bool.false_eq_true, if_false]
          refine Ev.succ ?_
          simp only [swardref02_numbered.j1, if_true, tokR]
          exact Ev.now _
        · obtain ⟨h48, hV, hV9⟩ := hok rfl
          simp only [if_true]
          cases T
          · have hai : ¬ ((a : Int) > (i : Int)) := by rw [haT.out]; simp
            rw [if_neg (fun h => h.elim h48 (fun h => h.elim (fun h => by cases h.2) hV9))]
            simp only [hai, if_false]
            refine Ev.succ ?_
            simp only [swardref02_numbered.j1, hai, Bool.false_eq_true, if_false, tokR, tokS, tokK, tokT, tokN, hV]
            exact Ev.now _
          · have hai : ((a : Int) > (i : Int)) := by rw [haT.out]; simp; omega
            simp only [hai, if_true]
            by_cases hz : Lx.figure ((s.data.toList.drop a).take m) = 0
            · rw [if_pos (.inr (.inl ⟨hz, trivial⟩))]
              have e : (V == 0) = true := by rw [hV, hz]; rfl
              rw [e]
              refine Ev.succ ?_
              simp only [swardref02_numbered.j1, if_true, tokR]
              exact Ev.now _
            · rw [if_neg (fun h => h.elim h48 (fun h => h.elim (fun h => hz h.1) hV9))]
              have e : (V == 0) = false := by rw [hV]; simpa using hz
              rw [e]
              have hge : 0 ≤ Lx.figure ((s.data.toList.drop a).take m) := fig_ge _ hma
              have hwn := wrap_neg _ hge (Int.not_lt.1 hV9)
              refine Ev.succ ?_
              simp only [swardref02_numbered.j1, hai, Bool.false_eq_true, if_false, if_true, tokR, tokS, tokK, tokT, tokN, hV, hwn]
              exact Ev.now _

theorem ev_token (s : ByteArray) (hs : s.size ≤ 4000) (i : Nat) (hi : i < s.size) :
    Ev (fun k => swardref02_token.f k s i) (tokR i (Lx.piece (s.data.toList.drop i))) := by
  have hb := bt_nat s i hi
  have h0 : (0 : Int) ≤ (i : Int) := Int.natCast_nonneg _
  have h1 : (i : Int) < (s.size : Int) := by omega
  have hhd := drop_headD s i hi
  unfold swardref02_token.f
  simp only [h0, h1, if_true, hb, letter_f, cipher_f, Option.bind_some]
  have hLet : Lx.isLet s[i] = false → Lx.letters (s.data.toList.drop i) = .none := by
    intro h
    unfold Lx.letters
    rw [drop_cons s i hi]
    simp [Lx.runL, h]
  by_cases hl : Lx.isLet s[i] = true
  · have hp : Lx.piece (s.data.toList.drop i) = Lx.letters (s.data.toList.drop i) := by
      have hn : Lx.letters (s.data.toList.drop i) ≠ .none := by
        unfold Lx.letters
        have hpos : Lx.runL Lx.isLet (s.data.toList.drop i) ≠ 0 := by
          rw [drop_cons s i hi]
          simp [Lx.runL, hl]
        rw [if_neg hpos]
        split <;> simp
      unfold Lx.piece Lx.tried
      cases hx : Lx.letters (s.data.toList.drop i) with
      | none => exact absurd hx hn
      | bad w => rfl
      | got p n => rfl
    rw [hp]
    simp only [hl, if_true]
    have hw := ev_worded s hs i hi hl
    refine Ev.bind (f := fun k bt => some (bt.1, bt.2.1, bt.2.2.1, bt.2.2.2.1, bt.2.2.2.2)) hw ?_
    exact Ev.now _
  · have hl' : Lx.isLet s[i] = false := by simpa using hl
    have hln := hLet hl'
    simp only [hl, if_false, Bool.false_eq_true]
    have htr : Lx.tried (s.data.toList.drop i) = Lx.orElse (Lx.digits (s.data.toList.drop i)) (Lx.orElse (Lx.quoted (s.data.toList.drop i)) (Lx.signed (s.data.toList.drop i))) := by
      unfold Lx.tried
      rw [hln]
      rfl
    by_cases hnum : Lx.isDig s[i] = true ∨ s[i] = 126
    · -- a number, or nothing
      have hpd : tokR i (Lx.piece (s.data.toList.drop i)) = tokR i (Lx.digits (s.data.toList.drop i)) := by
        unfold Lx.piece
        rw [htr]
        cases hx : Lx.digits (s.data.toList.drop i) with
        | bad w => rfl
        | got p n => rfl
        | none =>
          have h126 : s[i] = 126 := by
            rcases hnum with h | h
            · exfalso
              unfold Lx.digits at hx
              have ht : Lx.tilde (s.data.toList.drop i) = false := by
                rw [Lx.tilde, hhd]
                have := dig_bounds h
                rw [beq_eq_false_iff_ne]
                rintro h'
                rw [h'] at this
                exact absurd this (by decide)
              have haf : Lx.afterTilde (s.data.toList.drop i) = s.data.toList.drop i := by unfold Lx.afterTilde; rw [if_neg (by rw [ht]; simp)]
              have hpos : Lx.runL Lx.isDig (s.data.toList.drop i) ≠ 0 := by
                rw [drop_cons s i hi]
                simp [Lx.runL, h]
              rw [haf, if_neg hpos] at hx
              split at hx <;> cases hx
            · exact h
          have hq : Lx.quoted (s.data.toList.drop i) = .none := by
            unfold Lx.quoted
            rw [hhd, if_pos (by rw [h126]; decide)]
          have hsg : Lx.signed (s.data.toList.drop i) = .none := by
            rw [drop_cons s i hi, h126]
            simp [Lx.signed, Lx.signWords, Lx.signAt]
          rw [hq, hsg]
          rfl
      rw [hpd]
      have hn := ev_numbered s hs i hi
      have hj : Ev (fun k => swardref02_token.j0 k s i (s[i].toNat : Int) true) (tokR i (Lx.digits (s.data.toList.drop i))) := by
        refine Ev.succ ?_
        simp only [swardref02_token.j0, if_true]
        refine Ev.bind (f := fun k bt => some (bt.1, bt.2.1, bt.2.2.1, bt.2.2.2.1, bt.2.2.2.2)) hn ?_
        exact Ev.now _
      by_cases hdg : Lx.isDig s[i] = true
      · simp only [hdg, if_true]
        exact hj
      · have e : ((s[i].toNat : Int) == 126) = true := by
          rcases hnum with h | h
          · exact absurd h hdg
          · rw [h]; rfl
        simp only [hdg, if_false, Bool.false_eq_true, e]
        exact hj
    · have hdg : ¬ (Lx.isDig s[i] = true) := fun h => hnum (.inl h)
      have h126 : s[i] ≠ 126 := fun h => hnum (.inr h)
      have e : ((s[i].toNat : Int) == 126) = false := by
        rw [beq_eq_false_iff_ne]
        intro h
        apply h126
        apply UInt8.toNat_inj.1
        show _ = 126
        omega
      have hdn : Lx.digits (s.data.toList.drop i) = .none := by
        unfold Lx.digits
        have ht : Lx.tilde (s.data.toList.drop i) = false := by
          rw [Lx.tilde, hhd]
          exact beq_eq_false_iff_ne.2 h126
        have haf : Lx.afterTilde (s.data.toList.drop i) = s.data.toList.drop i := by unfold Lx.afterTilde; rw [if_neg (by rw [ht]; simp)]
        rw [haf, if_pos]
        rw [drop_cons s i hi]
        simp [Lx.runL, hdg]
      simp only [hdg, if_false, Bool.false_eq_true, e]
      refine Ev.succ ?_
      simp only [swardref02_token.j0, if_false, Bool.false_eq_true]
      by_cases hq : s[i] = 34
      · have e34 : (s[i].toNat : Int) = 34 := by rw [hq]; rfl
        have hpq : Lx.piece (s.data.toList.drop i) = Lx.quoted (s.data.toList.drop i) := by
          have hn : Lx.quoted (s.data.toList.drop i) ≠ .none := by
            unfold Lx.quoted
            rw [hhd, if_neg (by rw [hq]; simp)]
            split
            · simp
            · split <;> simp
          unfold Lx.piece
          rw [htr, hdn]
          cases hx : Lx.quoted (s.data.toList.drop i) with
          | none => exact absurd hx hn
          | bad w => rfl
          | got p n => rfl
        rw [hpq]
        simp only [e34, if_true]
        refine Ev.bind (f := fun k bt => some (bt.1, bt.2.1, bt.2.2.1, bt.2.2.2.1, bt.2.2.2.2)) (ev_stringed s hs i hi hq) ?_
        exact Ev.now _
      · have e34 : ¬ ((s[i].toNat : Int) = 34) := by
          intro h
          apply hq
          apply UInt8.toNat_inj.1
          show _ = 34
          omega
        have hqn : Lx.quoted (s.data.toList.drop i) = .none := by
          unfold Lx.quoted
          rw [hhd, if_pos hq]
        have hps : Lx.piece (s.data.toList.drop i) = match Lx.signed (s.data.toList.drop i) with | .none => .bad 1 | t => t := by
          unfold Lx.piece
          rw [htr, hdn, hqn]
          rfl
        rw [hps]
        simp only [e34, if_false]
        refine Ev.bind (f := fun k t191 => if t191.toList = ([] : List UInt8) then _ else _) (ev_sign_f s hs i hi) ?_
        have hsa := signAt_B (s.data.toList.drop i) Lx.signWords (by decide)
        unfold Lx.signed
        rw [hsa]
        by_cases hz : (signB (s.data.toList.drop i) Lx.signWords).toList = []
        · simp only [hz, if_true, tokR]
          exact Ev.now _
        · simp only [hz, if_false, tokR, tokS, tokK, tokT, tokN, bsOf]
          exact Ev.now _
end Go.Proofs.YtkijoeihkajlcaaGreatDoor.PLexTokens

set_option linter.unusedVariables false
set_option linter.unusedSimpArgs false
namespace Go.Proofs.YtkijoeihkajlcaaGreatDoor.PLexTokens
open Go.RowKit Go.Shelf
open Go.Proofs.YtkijoeihkajlcaaGreatDoorW.PrintWords

theorem valF_snoc (l : Lx.Bs) (c : UInt8) (X : Nat) : valF (l ++ [c]) X = 10 * valF l X + (c.toNat - 48) := by
  unfold valF
  rw [List.foldl_append, List.foldl_cons, List.foldl_nil]
theorem valF_pos (c : UInt8) (l : Lx.Bs) (h1 : Lx.isDig c = true) (h2 : c ≠ 48) : 1 ≤ valF (c :: l) 0 := by
  have hc := dig_bounds h1
  have hc2 : c.toNat ≠ 48 := fun h => h2 (UInt8.toNat_inj.1 h)
  rw [valF_cons]
  have h := valF_ge l (10 * 0 + (c.toNat - 48))
  omega
theorem dec_val : ∀ (n : Nat) (ds : Lx.Bs), ds.length = n → 0 < n → (∀ c ∈ ds, Lx.isDig c = true) → (n = 1 ∨ ds.headD 0 ≠ 48) → Lib.decDigits (valF ds 0) = ds := by
  intro n
  induction n with
  | zero => intro ds _ h; omega
  | succ n ih =>
    intro ds hl _ hd hz
    have hne : ds ≠ [] := by rintro rfl; simp at hl
    obtain ⟨init, c, rfl⟩ : ∃ init c, ds = init ++ [c] := ⟨ds.dropLast, ds.getLast hne, (List.dropLast_concat_getLast hne).symm⟩
    have hcd := dig_bounds (hd c (by simp))
    have hil : init.length = n := by simp at hl; exact hl
    have hof : UInt8.ofNat (48 + (c.toNat - 48)) = c := by
      rw [show 48 + (c.toNat - 48) = c.toNat by omega]
      simp
    rw [valF_snoc]
    by_cases hn : n = 0
    · have : init = [] := List.length_eq_zero_iff.1 (by omega)
      subst this
      have hv0 : valF [] 0 = 0 := rfl
      rw [hv0, Lib.decDigits_one (by omega)]
      simp only [Nat.mul_zero, Nat.zero_add, List.nil_append, hof]
    · have hi0 : init ≠ [] := by rintro rfl; simp at hil; omega
      obtain ⟨a, l, rfl⟩ : ∃ a l, init = a :: l := List.exists_cons_of_ne_nil hi0
      have ha : a ≠ 48 := by
        rcases hz with h | h
        · omega
        · simpa using h
      have hvp := valF_pos a l (hd a (by simp)) ha
      have hih := ih (a :: l) hil (by omega) (fun x hx => hd x (List.mem_append_left _ hx)) (.inr (by simpa using ha))
      obtain ⟨V, hV⟩ : ∃ V, V = valF (a :: l) 0 := ⟨_, rfl⟩
      rw [← hV] at hvp hih ⊢
      rw [Lib.decDigits, dif_neg (by omega)]
      have e1 : (10 * V + (c.toNat - 48)) / 10 = V := by omega
      have e2 : (10 * V + (c.toNat - 48)) % 10 = c.toNat - 48 := by omega
      rw [e1, e2, hih, hof]

theorem digit_f (d : Nat) (h : d < 10) : swardref01_digit.f (d : Int) = some (bsOf [UInt8.ofNat (48 + d)]) := by
  unfold swardref01_digit.f
  have hw := wrap_succ d (by omega)
  have h1 : (0 : Int) ≤ (d : Int) := Int.natCast_nonneg _
  have h2 : (d : Int) ≤ ((d + 1 : Nat) : Int) := by omega
  have h3 : ((d + 1 : Nat) : Int) ≤ 10 := by omega
  simp only [hw, h1, h2, h3, if_true, Int.toNat_natCast]
  congr 1
  match d, h with
  | 0, _ => rfl
  | 1, _ => rfl
  | 2, _ => rfl
  | 3, _ => rfl
  | 4, _ => rfl
  | 5, _ => rfl
  | 6, _ => rfl
  | 7, _ => rfl
  | 8, _ => rfl
  | 9, _ => rfl

/-- One round of Decimal's loop: the digit. -/
theorem mx_digit (x : Int) (U : Nat) (hx : x = U ∨ x = -(U : Int)) (hU : U < 4000000000) : mx (Int.tmod x 10) (wrap64 (-(Int.tmod x 10))) = ((U % 10 : Nat) : Int) := by
  unfold mx wrap64
  rcases hx with rfl | rfl
  · rw [Int.tmod_eq_emod_of_nonneg (by omega)]
    split <;> omega
  · rw [Int.neg_tmod, Int.tmod_eq_emod_of_nonneg (by omega)]
    split <;> omega
theorem tdiv_ten (x : Int) (U : Nat) (hx : x = U ∨ x = -(U : Int)) (hU : U < 4000000000) : (wrap64 (Int.tdiv x 10) = ((U / 10 : Nat) : Int) ∧ x = U) ∨ (wrap64 (Int.tdiv x 10) = -((U / 10 : Nat) : Int) ∧ x = -(U : Int)) := by
  unfold wrap64
  rcases hx with rfl | rfl
  · left
    rw [Int.tdiv_eq_ediv_of_nonneg (by omega)]
    exact ⟨by omega, rfl⟩
  · right
    rw [Int.neg_tdiv, Int.tdiv_eq_ediv_of_nonneg (by omega)]
    exact ⟨by omega, rfl⟩

theorem ev_dec (a0 : Int) : ∀ (U : Nat) (x : Int) (acc : Lx.Bs), (x = U ∨ x = -(U : Int)) → U < 4000000000 → acc.length + Lib.nDigits U ≤ 100 →
    Ev (fun k => swardref01_Decimal.l0 k a0 (bsOf acc) x) (bsOf ((if a0 < 0 then [45] else []) ++ (Lib.decDigits U ++ acc))) := by
  intro U
  induction U using Nat.strongRecOn with
  | _ U ih =>
    intro x acc hx hU hlen
    have hm := mx_digit x U hx hU
    have htd := tdiv_ten x U hx hU
    have hdf := digit_f (U % 10) (Nat.mod_lt _ (by omega))
    have hcat : bsOf [UInt8.ofNat (48 + U % 10)] ++ bsOf acc = bsOf (UInt8.ofNat (48 + U % 10) :: acc) := by
      apply ByteArray.ext
      simp [bsOf]
    have hnp := Lib.nDigits_pos U
    have hsz : (bsOf [UInt8.ofNat (48 + U % 10)]).size + (bsOf acc).size ≤ 9223372036854775807 := by
      rw [bsOf_size, bsOf_size, List.length_singleton]
      omega
    have hsz2 : 1 + (bsOf (UInt8.ofNat (48 + U % 10) :: acc)).size ≤ 9223372036854775807 := by
      rw [bsOf_size, List.length_cons]
      omega
    refine Ev.succ ?_
    simp only [swardref01_Decimal.l0, hm, hdf, Option.bind_some, hsz, if_true, hcat]
    by_cases hz : U < 10
    · have hd0 : U / 10 = 0 := by omega
      have hmod : U % 10 = U := by omega
      have hw0 : wrap64 (Int.tdiv x 10) = 0 := by
        rcases htd with ⟨h, _⟩ | ⟨h, _⟩
        · rw [h, hd0]; rfl
        · rw [h, hd0]; rfl
      rw [Lib.decDigits_one hz]
      simp only [hw0, if_true, hmod] at hsz2 ⊢
      by_cases hneg : a0 < 0
      · simp only [hneg, if_true, hsz2]
        have : (⟨#[45]⟩ : ByteArray) ++ bsOf (UInt8.ofNat (48 + U) :: acc) = bsOf ([45] ++ ([UInt8.ofNat (48 + U)] ++ acc)) := by
          apply ByteArray.ext
          simp [bsOf]
        rw [this]
        exact Ev.now _
      · simp only [hneg, if_false]
        exact Ev.now _
    · have hw0 : ¬ (wrap64 (Int.tdiv x 10) = 0) := by
        rcases htd with ⟨h, _⟩ | ⟨h, _⟩ <;> rw [h] <;> omega
      have hx2 : wrap64 (Int.tdiv x 10) = ((U / 10 : Nat) : Int) ∨ wrap64 (Int.tdiv x 10) = -((U / 10 : Nat) : Int) := by
        rcases htd with ⟨h, _⟩ | ⟨h, _⟩
        · exact .inl h
        · exact .inr h
      have hnd := Lib.nDigits_big hz
      have hih := ih (U / 10) (by omega) (wrap64 (Int.tdiv x 10)) (UInt8.ofNat (48 + U % 10) :: acc) hx2 (by omega) (by rw [List.length_cons]; omega)
      rw [Lib.decDigits, dif_neg hz]
      simp only [hw0, if_false]
      rw [List.append_assoc]
      exact hih
end Go.Proofs.YtkijoeihkajlcaaGreatDoor.PLexTokens

set_option linter.unusedVariables false
set_option linter.unusedSimpArgs false
namespace Go.Proofs.YtkijoeihkajlcaaGreatDoor.PLexTokens
open Go.RowKit Go.Shelf
open Go.Proofs.YtkijoeihkajlcaaGreatDoorW.PrintWords

/-- A try that takes something takes its word, and what it takes is as defined. -/
def Says (l : Lx.Bs) (t : Lx.Tried) : Prop := ∀ p n, t = .got p n → Lx.spelled p = l.take n ∧ (∀ N, p = .num N → -1000000000 ≤ N ∧ N ≤ 1000000000)
theorem says_or {l : Lx.Bs} {a b : Lx.Tried} (ha : Says l a) (hb : Says l b) : Says l (Lx.orElse a b) := by
  cases a with
  | none => exact hb
  | bad w => exact ha
  | got p n => exact ha
theorem says_letters (l : Lx.Bs) : Says l (Lx.letters l) := by
  intro p n h
  unfold Lx.letters at h
  split at h
  · cases h
  · split at h
    · cases h
    · cases h
      exact ⟨rfl, fun N h => by cases h⟩
theorem says_signAt (l : Lx.Bs) : ∀ ws : List Lx.Bs, Says l (Lx.signAt l ws)
  | [] => by intro p n h; cases h
  | x :: ws => by
    intro p n h
    unfold Lx.signAt at h
    split at h
    · rename_i hp
      cases h
      exact ⟨List.prefix_iff_eq_take.1 (List.isPrefixOf_iff_prefix.1 hp), fun N h => by cases h⟩
    · exact says_signAt l ws p n h
theorem says_quoted (l : Lx.Bs) : Says l (Lx.quoted l) := by
  intro p n h
  unfold Lx.quoted at h
  split at h
  · cases h
  · rename_i hq
    split at h
    · cases h
    · rename_i hno
      split at h
      · cases h
      · obtain ⟨m, hm⟩ : ∃ m, m = Lx.runL Lx.isTxt l.tail := ⟨_, rfl⟩
        rw [← hm] at h hno
        have h' := h
        simp only [Lx.Tried.got.injEq] at h'
        obtain ⟨rfl, rfl⟩ := h'
        refine ⟨?_, fun N h => by cases h⟩
        cases l with
        | nil => simp at hq
        | cons c t =>
          have hc : c = 34 := by simpa using hq
          subst hc
          simp only [List.tail_cons] at hno ⊢
          have hlt : m < t.length := by
            refine Nat.lt_of_not_le (fun hx => hno (.inl hx))
          have hx : t[m] = 34 := by
            have : ¬ (t.drop m).headD 0 ≠ 34 := fun hx => hno (.inr hx)
            rw [List.drop_eq_getElem_cons hlt] at this
            simpa [List.getElem?_eq_getElem hlt] using this
          show 34 :: (t.take m ++ [34]) = (34 :: t).take (m + 1 + 1)
          rw [List.take_succ_cons, List.take_succ_eq_append_getElem hlt, hx]
theorem spelled_num (n : Int) : Lx.spelled (.num n) = if n < 0 then 126 :: Lib.itoa (-n) else Lib.itoa n := rfl
theorem says_digits (l : Lx.Bs) : Says l (Lx.digits l) := by
  intro p n h
  unfold Lx.digits at h
  obtain ⟨d, hd⟩ : ∃ d, d = Lx.afterTilde l := ⟨_, rfl⟩
  rw [← hd] at h
  split at h
  · cases h
  · rename_i hm0
    split at h
    · cases h
    · rename_i hbad
      obtain ⟨m, hm⟩ : ∃ m, m = Lx.runL Lx.isDig d := ⟨_, rfl⟩
      have hma := runL_all Lx.isDig d
      have hml := runL_take_len Lx.isDig d
      rw [← hm] at h hm0 hbad hma hml
      simp only [Lx.Tried.got.injEq] at h
      obtain ⟨rfl, rfl⟩ := h
      obtain ⟨ds, hds⟩ : ∃ ds, ds = d.take m := ⟨_, rfl⟩
      have hh : ds.headD 0 = d.headD 0 := by rw [hds]; exact headD_take d m (by omega)
      rw [← hds] at hbad hma hml ⊢
      have hfv := fig_val ds 0 hma
      have hle : valF ds 0 ≤ 1000000000 := by
        refine Nat.le_of_not_lt (fun hx => hbad (.inr (.inr ?_)))
        exact hfv.2 hx
      have hfig : Lx.figure ds = (valF ds 0 : Nat) := hfv.1 hle
      have hdec : Lib.decDigits (valF ds 0) = ds := dec_val m ds hml (by omega) hma (by
        by_cases h1 : m = 1
        · exact .inl h1
        · right
          intro h48
          exact hbad (.inl ⟨by omega, by rw [← hh]; exact h48⟩))
      obtain ⟨V, hV⟩ : ∃ V, V = valF ds 0 := ⟨_, rfl⟩
      rw [← hV] at hle hfig hdec
      rw [hfig] at hbad ⊢
      cases ht : Lx.tilde l
      · have hdl : d = l := by rw [hd, Lx.afterTilde, if_neg (by rw [ht]; simp)]
        simp only [Bool.false_eq_true, if_false, Nat.add_zero]
        refine ⟨?_, fun N h => by cases h; omega⟩
        rw [spelled_num, if_neg (by omega)]
        unfold Lib.itoa
        rw [if_neg (by omega), Int.toNat_natCast, hdec, hds, hdl]
      · have hV0 : V ≠ 0 := by
          intro h0
          exact hbad (.inr (.inl ⟨by rw [h0]; rfl, ht⟩))
        simp only [if_true]
        refine ⟨?_, fun N h => by cases h; omega⟩
        rw [spelled_num, if_pos (by omega)]
        unfold Lib.itoa
        rw [if_neg (by omega)]
        have e : (-(-(V : Int))).toNat = V := by omega
        rw [e, hdec, hds]
        cases l with
        | nil => simp [Lx.tilde] at ht
        | cons c t =>
          have hc : c = 126 := by simpa [Lx.tilde] using ht
          subst hc
          have hdl : d = t := by rw [hd, Lx.afterTilde, if_pos ht]; rfl
          rw [hdl, List.take_succ_cons]
theorem got_says (l : Lx.Bs) (p : Lx.Piece) (n : Nat) (h : Lx.piece l = .got p n) : Lx.spelled p = l.take n ∧ (∀ N, p = .num N → -1000000000 ≤ N ∧ N ≤ 1000000000) := by
  have hf : Says l (Lx.tried l) := says_or (says_letters l) (says_or (says_digits l) (says_or (says_quoted l) (says_signAt l _)))
  unfold Lx.piece at h
  cases ht : Lx.tried l with
  | none => rw [ht] at h; cases h
  | bad w => rw [ht] at h; cases h
  | got q m => rw [ht] at h; exact hf p n (ht.trans h)

theorem nd_le : ∀ (k U : Nat), 1 ≤ k → U < 10 ^ k → Lib.nDigits U ≤ k
  | 0, _, h, _ => by omega
  | k + 1, U, _, h => by
    by_cases hs : U < 10
    · rw [Lib.nDigits_small hs]; omega
    · rw [Lib.nDigits_big hs]
      rw [Nat.pow_succ] at h
      have hk : 1 ≤ k := by
        rcases Nat.eq_zero_or_pos k with rfl | hp
        · simp at h; omega
        · exact hp
      have := nd_le k (U / 10) hk (by omega)
      omega
theorem got_size (l : Lx.Bs) (p : Lx.Piece) (n : Nat) (h : Lx.piece l = .got p n) : (Lx.spelled p).length = n := by
  rw [(got_says l p n h).1, List.length_take]
  have := (got_len l p n h).2
  omega

theorem ev_number (N : Int) (hN : -1000000000 ≤ N ∧ N ≤ 1000000000) : Ev (fun k => swardref02_number.f k N) (bsOf (Lx.spelled (.num N))) := by
  rw [spelled_num]
  have hnd : ∀ U : Nat, U ≤ 1000000000 → Lib.nDigits U ≤ 10 := by
    intro U hU
    rcases Nat.eq_zero_or_pos U with rfl | hp
    · rw [Lib.nDigits_small (by omega)]; omega
    · by_cases hx : U < 10 ^ 10
      · exact nd_le 10 U (by omega) hx
      · omega
  by_cases hneg : N < 0
  · obtain ⟨U, hU⟩ : ∃ U : Nat, N = -(U : Int) := ⟨N.natAbs, by omega⟩
    have hU9 : U ≤ 1000000000 := by omega
    have hd := ev_dec N U N [] (.inr hU) (by omega) (by have := hnd U hU9; simp; omega)
    rw [if_pos hneg] at hd
    rw [if_pos hneg]
    unfold swardref02_number.f
    simp only [hneg, if_true]
    refine Ev.bind (f := fun k t137 => _) hd ?_
    have hl := Lib.decDigits_length U
    have hn10 := hnd U hU9
    have hs1 : (bsOf ([45] ++ (Lib.decDigits U ++ []))).size = 1 + Lib.nDigits U := by rw [bsOf_size]; simp [hl]; omega
    have hex : (bsOf ([45] ++ (Lib.decDigits U ++ []))).extract 1 (bsOf ([45] ++ (Lib.decDigits U ++ []))).size = bsOf (Lib.decDigits U) := by
      rw [hs1, ext_eq _ 1 (Lib.nDigits U) (1 + Lib.nDigits U) rfl]
      congr 1
      simp [bsOf, ← hl]
    have hc1 : (1 : Int) ≤ ((bsOf ([45] ++ (Lib.decDigits U ++ []))).size : Int) := by rw [hs1]; omega
    have hc2 : 1 + (bsOf (Lib.decDigits U)).size ≤ 9223372036854775807 := by rw [bsOf_size, hl]; omega
    simp only [hc1, if_true, hex, hc2]
    have hfin : (⟨#[126]⟩ : ByteArray) ++ bsOf (Lib.decDigits U) = bsOf (126 :: Lib.itoa (-N)) := by
      have : Lib.itoa (-N) = Lib.decDigits U := by
        unfold Lib.itoa
        rw [if_neg (by omega), show (-N).toNat = U by omega]
      rw [this]
      apply ByteArray.ext
      simp [bsOf]
    rw [hfin]
    exact Ev.now _
  · obtain ⟨U, hU⟩ : ∃ U : Nat, N = (U : Int) := ⟨N.natAbs, by omega⟩
    have hU9 : U ≤ 1000000000 := by omega
    have hd := ev_dec N U N [] (.inl hU) (by omega) (by have := hnd U hU9; simp; omega)
    rw [if_neg hneg, List.append_nil, List.nil_append] at hd
    rw [if_neg hneg]
    have hfin : Lib.itoa N = Lib.decDigits U := by
      unfold Lib.itoa
      rw [if_neg hneg, show N.toNat = U by omega]
    rw [hfin]
    unfold swardref02_number.f
    simp only [hneg, if_false]
    refine Ev.bind (f := fun k t138 => some t138) hd ?_
    exact Ev.now _
end Go.Proofs.YtkijoeihkajlcaaGreatDoor.PLexTokens

set_option linter.unusedVariables false
set_option linter.unusedSimpArgs false
namespace Go.Proofs.YtkijoeihkajlcaaGreatDoor.PLexTokens
open Go.RowKit Go.Shelf
open Go.Proofs.YtkijoeihkajlcaaGreatDoorW.PrintWords

theorem ev_Word (p : Lx.Piece) (hp : PieceOk p) (at_ : Int) : Ev (fun k => swardref02_Word.f k (tokK p) (tokT p) (tokN p) at_) (bsOf (Lx.spelled p)) := by
  cases p with
  | word l =>
    have h3 : ¬ ((if Lx.isKey l then (2 : Int) else 1) = 3) := by split <;> omega
    have h4 : ¬ ((if Lx.isKey l then (2 : Int) else 1) = 4) := by split <;> omega
    simp only [swardref02_Word.f, tokK, tokT, tokN, h3, h4, if_false]
    exact Ev.now _
  | num N =>
    simp only [swardref02_Word.f, tokK, tokT, tokN, if_true]
    exact Ev.bind (f := fun k t140 => some t140) (ev_number N hp) (Ev.now _)
  | str l =>
    have h3 : ¬ ((4 : Int) = 3) := by omega
    have hl : l.length ≤ 4000 := hp
    have c1 : 1 + (bsOf l).size ≤ 9223372036854775807 := by rw [bsOf_size]; omega
    have hs : ((⟨#[34]⟩ : ByteArray) ++ bsOf l).size = 1 + (bsOf l).size := by rw [ByteArray.size_append]; rfl
    have c2 : ((⟨#[34]⟩ : ByteArray) ++ bsOf l).size + 1 ≤ 9223372036854775807 := by rw [hs, bsOf_size]; omega
    have hfin : ((⟨#[34]⟩ : ByteArray) ++ bsOf l) ++ (⟨#[34]⟩ : ByteArray) = bsOf (Lx.spelled (.str l)) := by
      apply ByteArray.ext
      simp [bsOf, Lx.spelled]
    simp only [swardref02_Word.f, tokK, tokT, tokN, h3, if_false, if_true, c1, c2, hfin]
    exact Ev.now _
  | sgn l =>
    have h3 : ¬ ((5 : Int) = 3) := by omega
    have h4 : ¬ ((5 : Int) = 4) := by omega
    simp only [swardref02_Word.f, tokK, tokT, tokN, h3, h4, if_false]
    exact Ev.now _

def toS (x : Nat × Lx.Piece) : S41 := ⟨tokK x.2, tokT x.2, tokN x.2, (x.1 : Int)⟩
def erR : Option (Nat × Int) → Int × Int
  | none => (0, 0)
  | some (p, y) => (p, y)
/-- No reason is 0. -/
theorem why_pos (l : Lx.Bs) (w : Int) (h : Lx.piece l = .bad w) : w ≠ 0 := by
  unfold Lx.piece at h
  have ht : ∀ t w, t = Lx.Tried.bad w → (t = Lx.letters l ∨ t = Lx.digits l ∨ t = Lx.quoted l) → w ≠ 0 := by
    rintro t w rfl (h | h | h)
    · unfold Lx.letters at h
      split at h
      · cases h
      · split at h
        · cases h; omega
        · cases h
    · unfold Lx.digits at h
      split at h
      · cases h
      · split at h
        · cases h; omega
        · cases h
    · unfold Lx.quoted at h
      split at h
      · cases h
      · split at h
        · cases h; omega
        · split at h
          · cases h; omega
          · cases h
  have hs : ∀ ws : List Lx.Bs, ∀ w, Lx.signAt l ws ≠ .bad w := by
    intro ws
    induction ws with
    | nil => intro w h; cases h
    | cons x ws ih =>
      intro w
      unfold Lx.signAt
      split
      · intro h; cases h
      · exact ih w
  split at h
  · cases h; omega
  · unfold Lx.tried at h
    cases h1 : Lx.letters l with
    | bad v => rw [h1] at h; cases h; exact ht _ w rfl (.inl h1.symm)
    | got p n => rw [h1] at h; cases h
    | none =>
      rw [h1] at h
      simp only [Lx.orElse] at h
      cases h2 : Lx.digits l with
      | bad v => rw [h2] at h; cases h; exact ht _ w rfl (.inr (.inl h2.symm))
      | got p n => rw [h2] at h; cases h
      | none =>
        rw [h2] at h
        simp only [Lx.orElse] at h
        cases h3 : Lx.quoted l with
        | bad v => rw [h3] at h; cases h; exact ht _ w rfl (.inr (.inr h3.symm))
        | got p n => rw [h3] at h; cases h
        | none =>
          rw [h3] at h
          exact absurd h (hs _ w)

theorem ev_Read_l (s : ByteArray) (hs : s.size ≤ 4000) : ∀ (g pos : Nat) (acc : List S41) , pos ≤ s.size → s.size - pos < g → acc.length + g ≤ 10000 →
    Ev (fun k => swardref02_Read.l0 k s acc pos) (acc ++ (Lx.readF g pos (s.data.toList.drop pos)).1.map toS, (erR (Lx.readF g pos (s.data.toList.drop pos)).2).1, (erR (Lx.readF g pos (s.data.toList.drop pos)).2).2) := by
  intro g
  induction g with
  | zero => intro pos acc h1 h2; omega
  | succ g ih =>
    intro pos acc hpos hg hacc
    by_cases hlt : pos < s.size
    · have h1 : (pos : Int) < (s.size : Int) := by omega
      have hne : s.data.toList.drop pos ≠ [] := by rw [drop_cons s pos hlt]; simp
      have ht := ev_token s hs pos hlt
      refine Ev.succ ?_
      simp only [swardref02_Read.l0, h1, if_true]
      cases hp : Lx.piece (s.data.toList.drop pos) with
      | none =>
        exfalso
        unfold Lx.piece at hp
        split at hp
        · cases hp
        · rename_i hx; exact hx hp
      | bad w =>
        rw [hp] at ht
        rw [readF_bad hne hp]
        have hw := why_pos _ w hp
        refine Ev.bind (f := fun k bt => _) ht ?_
        simp only [tokR, hw, if_false, erR, List.map_nil, List.append_nil]
        exact Ev.now _
      | got p n =>
        rw [hp] at ht
        have hfit := got_len _ p n hp
        have hlen : (s.data.toList.drop pos).length = s.size - pos := by simp
        rw [hlen] at hfit
        have hsz := got_size _ p n hp
        have hok : PieceOk p := by
          have hsy := got_says _ p n hp
          cases p with
          | word l =>
            have : l.length = n := hsz
            show l.length ≤ 4000
            omega
          | num N => exact hsy.2 N rfl
          | str l =>
            have : (34 :: (l ++ [34])).length = n := hsz
            simp at this
            show l.length ≤ 4000
            omega
          | sgn l =>
            have : l.length = n := hsz
            show l.length ≤ 4000
            omega
        have hsk := skipF_le (s.data.toList.drop (pos + n)) false
        simp only [List.length_drop] at hsk
        have hsk2 : Lx.skipL (s.data.toList.drop (pos + n)) ≤ s.size - (pos + n) := by
          have : s.data.toList.length = s.size := by simp
          rw [this] at hsk
          exact hsk
        have hdd : (s.data.toList.drop pos).drop n = s.data.toList.drop (pos + n) := by rw [List.drop_drop]
        rw [readF_got hne hp, hdd]
        obtain ⟨m, hm⟩ : ∃ m, m = Lx.skipL (s.data.toList.drop (pos + n)) := ⟨_, rfl⟩
        have hek := ev_skip_f s hs (pos + n) (by omega)
        rw [← hm] at hek hsk2 ⊢
        have hdd2 : (s.data.toList.drop pos).drop (n + m) = s.data.toList.drop (pos + (n + m)) := by rw [List.drop_drop]
        rw [hdd2]
        have hih := ih (pos + (n + m)) (acc ++ [toS (pos, p)]) (by omega) (by omega) (by simp; omega)
        have hal : acc.length < 3518437208883 := by omega
        have hwd := ev_Word p hok (pos : Int)
        have hbs := bsOf_size (Lx.spelled p)
        have hpn := wrap_add pos n (by omega)
        refine Ev.bind (f := fun k bt => _) ht ?_
        simp only [tokR, tokS, if_true, hal]
        refine Ev.bind (f := fun k t202 => _) hwd ?_
        rw [hbs, hsz]
        simp only [hpn]
        refine Ev.bind (f := fun k t203 => _) hek ?_
        rw [show pos + n + m = pos + (n + m) by clear hpn; omega]
        have e : acc ++ List.map toS ((pos, p) :: (Lx.readF g (pos + (n + m)) (s.data.toList.drop (pos + (n + m)))).1) = acc ++ [toS (pos, p)] ++ List.map toS (Lx.readF g (pos + (n + m)) (s.data.toList.drop (pos + (n + m)))).1 := by simp
        simp only [e]
        exact hih
    · have h1 : ¬ ((pos : Int) < (s.size : Int)) := by omega
      have hnil : s.data.toList.drop pos = [] := List.drop_of_length_le (by simp; omega)
      rw [hnil, Lx.readF, if_pos rfl]
      refine Ev.succ ?_
      simp only [swardref02_Read.l0, h1, if_false, erR, List.map_nil, List.append_nil]
      exact Ev.now _

theorem ev_Read (s : ByteArray) (hs : s.size ≤ 4000) (ps : List (Nat × Lx.Piece)) (er : Option (Nat × Int)) (h : Lx.readAll s.data.toList = (ps, er)) :
    Ev (fun k => swardref02_Read.f k s) (ps.map toS, (erR er).1, (erR er).2) := by
  have hk := ev_skip_f s hs 0 (Nat.zero_le _)
  rw [List.drop_zero, Nat.zero_add] at hk
  have hsk := skipF_le s.data.toList false
  have hsl : s.data.toList.length = s.size := by simp
  rw [hsl] at hsk
  unfold Lx.readAll at h
  obtain ⟨m, hm⟩ : ∃ m, m = Lx.skipL s.data.toList := ⟨_, rfl⟩
  have hms : m ≤ s.size := by rw [hm]; exact hsk
  rw [← hm, hsl] at h
  rw [← hm] at hk
  have hl := ev_Read_l s hs (s.size + 1) m [] hms (by omega) (by simp; omega)
  rw [h] at hl
  unfold swardref02_Read.f
  refine Ev.bind (f := fun k t192 => swardref02_Read.l0 k s [] t192) hk ?_
  exact hl
end Go.Proofs.YtkijoeihkajlcaaGreatDoor.PLexTokens

set_option linter.unusedVariables false
set_option linter.unusedSimpArgs false
namespace Go.Proofs.YtkijoeihkajlcaaGreatDoor.PLexTokens
open Go.RowKit Go.Shelf
open Go.Proofs.YtkijoeihkajlcaaGreatDoorW.PrintWords

theorem ev_same_self (xs : List S41) (hx : xs.length ≤ 10000) : ∀ (n i : Nat), i ≤ xs.length → xs.length - i = n → Ev (fun k => swardref02_Same.l0 k xs xs i) true := by
  intro n
  induction n with
  | zero =>
    intro i hi hn
    have h1 : ¬ ((i : Int) < (xs.length : Int)) := by omega
    refine Ev.succ ?_
    simp only [swardref02_Same.l0, h1, if_false]
    exact Ev.now _
  | succ n ih =>
    intro i hi hn
    have ih0 := ih (i + 1) (by omega) (by omega)
    have h1 : (i : Int) < (xs.length : Int) := by omega
    have h2 : (0 : Int) ≤ (i : Int) := Int.natCast_nonneg _
    have hw := wrap_succ i (by omega)
    refine Ev.succ ?_
    simp only [swardref02_Same.l0, h1, h2, if_true, swardref02_Like.f, beq_self_eq_true, Option.bind_some, hw]
    exact ih0
theorem ev_sameAll_self (xs : List S41) (hx : xs.length ≤ 10000) : Ev (fun k => swardref02_SameAll.f k xs xs) true := by
  have h : ∀ (n i : Nat), i ≤ xs.length → xs.length - i = n → Ev (fun k => swardref02_SameAll.l0 k xs xs i) true := by
    intro n
    induction n with
    | zero =>
      intro i hi hn
      have h1 : ¬ ((i : Int) < (xs.length : Int)) := by omega
      refine Ev.succ ?_
      simp only [swardref02_SameAll.l0, h1, if_false]
      exact Ev.now _
    | succ n ih =>
      intro i hi hn
      have ih0 := ih (i + 1) (by omega) (by omega)
      have h1 : (i : Int) < (xs.length : Int) := by omega
      have h2 : (0 : Int) ≤ (i : Int) := Int.natCast_nonneg _
      have hw := wrap_succ i (by omega)
      refine Ev.succ ?_
      simp only [swardref02_SameAll.l0, h1, h2, if_true, hw]
      exact ih0
  have hs : Ev (fun k => swardref02_Same.f k xs xs) true := by
    simp only [swardref02_Same.f, if_true]
    exact ev_same_self xs hx _ 0 (Nat.zero_le _) rfl
  unfold swardref02_SameAll.f
  refine Ev.bind (f := fun k t209 => if t209 = true then swardref02_SameAll.l0 k xs xs 0 else some false) hs ?_
  simp only [if_true]
  exact h _ 0 (Nat.zero_le _) rfl

/-- Tokens as the walk of package lex has them are tokens as the printed functions have them. -/
theorem reps_S (w : World) (base : Nat) (ok : Nat → Prop) : ∀ xs : List (Nat × Lx.Piece), Reps (k41.M w base ok) 4 (xs.map toS) (xs.flatMap fun x => tkL (tokS x)) := by
  intro xs
  have : ∀ (ys xs : List (Nat × Lx.Piece)) (cs : List Value), Reps (k41.M w base ok) 4 (xs.map toS) cs → Reps (k41.M w base ok) 4 ((xs ++ ys).map toS) (cs ++ ys.flatMap fun x => tkL (tokS x)) := by
    intro ys
    induction ys with
    | nil => intro xs cs h; simpa using h
    | cons y ys ih =>
      intro xs cs h
      have := ih (xs ++ [y]) (cs ++ tkL (tokS y)) (by
        rw [List.map_append]
        exact h.snoc (k41_mkM w base ok (toS y)) rfl)
      simpa using this
  simpa using this xs [] [] (Reps.none _ _)
theorem own_S {w' : World} {base : Nat} {v : Value} {ps : List (Nat × Lx.Piece)} (h : OwnToks w' base v (ps.map tokS)) : Kd.R k41 41 w' base (fun _ => True) v (ps.map toS) := by
  refine ⟨fun _ _ => trivial, ps.flatMap fun x => tkL (tokS x), ?_, reps_S _ _ _ _⟩
  unfold OwnToks at h
  rw [List.length_map, List.flatMap_map] at h
  rw [List.length_map]
  exact h
end Go.Proofs.YtkijoeihkajlcaaGreatDoor.PLexTokens

set_option linter.unusedVariables false
set_option linter.unusedSimpArgs false
namespace Go.Proofs.YtkijoeihkajlcaaGreatDoor.PLexTokens
open Go.RowKit Go.Shelf
open Go.Proofs.YtkijoeihkajlcaaGreatDoorW.PrintWords

theorem below_of_drawn {w w' : World} (h : Drawn0 w w') : Below w.heap.size w w' := h.below

theorem readF_why : ∀ (g pos : Nat) (l : Lx.Bs) (p : Nat) (y : Int), (Lx.readF g pos l).2 = some (p, y) → y ≠ 0
  | 0, _, _, _, _, h => by cases h
  | g + 1, pos, l, p, y, h => by
    by_cases hl : l = []
    · rw [Lx.readF, if_pos hl] at h
      cases h
    · cases hp : Lx.piece l with
      | none =>
        rw [Lx.readF, if_neg hl, hp] at h
        cases h
      | bad w =>
        rw [readF_bad hl hp] at h
        cases h
        exact why_pos l _ hp
      | got q n =>
        rw [readF_got hl hp] at h
        exact readF_why g _ _ p y h
theorem readAll_why (l : Lx.Bs) (p : Nat) (y : Int) (h : (Lx.readAll l).2 = some (p, y)) : y ≠ 0 := readF_why _ _ _ p y h

set_option maxRecDepth 100000 in
set_option maxHeartbeats 8000000 in
theorem LexTokens_law (s : ByteArray) (w : World) (hL : Laid w) :
    Calls Tryz.prog 3 #[.string s] w fun e w' => e = .returned (.bool true) ∧ Below w.heap.size w w' := by
  have hkn := Lib.hid (fun w' (h : Laid w') => known_calls w' h)
  by_cases c1 : s.size ≤ 400
  · have hsh : swardlaw02_short.f s = some true := by unfold swardlaw02_short.f; rw [if_pos (by omega)]
    have hshc := Lib.hid (swardlaw02_short.calls s true w hsh)
    obtain ⟨ps, er, hrd⟩ : ∃ ps er, Lx.readAll s.data.toList = (ps, er) := ⟨_, _, rfl⟩
    have hsl : s.data.toList.length = s.size := by simp
    obtain ⟨k, hRk⟩ := (ev_Read s (by omega) ps er hrd).rounds
    have hRc := Lib.hid (fun w' => swardref02_Read.calls k s _ _ _ w' hRk)
    have hpl : ps.length ≤ 4001 := by
      have := readAll_len s.data.toList
      rw [hrd, hsl] at this
      simp only at this
      omega
    cases er with
    | none =>
      have hT := Lib.hid (fun w' (h : Laid w') => Tokens_calls s w' h ps 0 (by unfold Lx.toks; rw [if_neg (by omega), hrd]))
      have hW := Lib.hid (fun w' (h : Laid w') => Wrong_calls s w' h 0 0 5 (by unfold Lx.wrongs; rw [if_neg (by omega), hrd]))
      simp only [erR] at hRc
      clear hRk hrd hsh hsl
      go_enter Tryz.func3, Tryz.ntmps3
      go_wp2_with fail
      refine hshc.out.mono ?_
      rintro e w0 ⟨rfl, hd⟩
      have hB0 := Lib.hid hd.below
      clear hd
      go_wp2_with fail
      refine (hT.out _ (hL.below hB0.out)).mono ?_
      rintro e w1 ⟨⟨tk, rfl, ho⟩, hb⟩
      have hB1 := Lib.hid (Go.Proofs.YtkijoeihkajlcaaGreatDoor.below_then hB0.out hb (Nat.le_refl _))
      have hS1 := own_S ho
      obtain ⟨xs, hxs⟩ : ∃ xs, xs = ps.map toS := ⟨_, rfl⟩
      have hxl : xs.length ≤ 10000 := by rw [hxs, List.length_map]; omega
      rw [← hxs] at hS1 hRc
      obtain ⟨A, c, rfl, hc, hr⟩ := Kd.R_reads hS1
      clear ho hb hS1 hxs
      obtain ⟨k2, hSk⟩ := (ev_sameAll_self xs hxl).rounds
      have hr := Lib.hid hr
      go_wp2_with fail
      refine (hW.out _ (hL.below hB1.out)).mono ?_
      rintro e w2 ⟨rfl, hb⟩
      have hB2 := Lib.hid (Go.Proofs.YtkijoeihkajlcaaGreatDoor.below_then hB1.out hb (Nat.le_refl _))
      have hr2 := Lib.hid (Kd.C_below hr.out hb)
      clear hb
      go_wp2_with fail
      refine (hRc.out _).mono ?_
      rintro e w3 ⟨v3, rfl, hR3, hb⟩
      have hB3 := Lib.hid (Go.Proofs.YtkijoeihkajlcaaGreatDoor.below_then hB2.out hb (Nat.le_refl _))
      have hr3 := Lib.hid (Kd.C_below hr2.out hb)
      obtain ⟨A3, c3, rfl, hc3, hx3⟩ := Kd.R_reads hR3
      have hSc := Lib.hid (swardref02_SameAll.calls k2 A c xs A3 c3 xs true w3 hr3.out hc hx3 hc3 hSk)
      clear hb hR3 hx3 hSk
      go_wp2_with fail
      refine hSc.out.mono ?_
      rintro e w4 ⟨rfl, hb⟩
      have hB4 := Lib.hid (Go.Proofs.YtkijoeihkajlcaaGreatDoor.below_then hB3.out hb (Nat.le_refl _))
      clear hb
      go_wp2_with fail
      refine (hkn.out _ (hL.below hB4.out)).mono ?_
      rintro e w5 ⟨rfl, hb⟩
      have hB5 := Lib.hid (Go.Proofs.YtkijoeihkajlcaaGreatDoor.below_then hB4.out hb (Nat.le_refl _))
      clear hb
      go_wp2
      go_ret
      exact ⟨rfl, hB5.out⟩
    | some x =>
      obtain ⟨p, y⟩ := x
      have hy : y ≠ 0 := by
        exact readAll_why s.data.toList p y (by rw [hrd])
      have hT := Lib.hid (fun w' (h : Laid w') => Tokens_calls s w' h [] 4 (by unfold Lx.toks; rw [if_neg (by omega), hrd]))
      have hW := Lib.hid (fun w' (h : Laid w') => Wrong_calls s w' h p y 0 (by unfold Lx.wrongs; rw [if_neg (by omega), hrd]))
      simp only [erR] at hRc
      clear hRk hrd hsh hsl
      have hyb : (y != 0) = true := by simpa using hy
      go_enter Tryz.func3, Tryz.ntmps3
      go_wp2_with fail
      refine hshc.out.mono ?_
      rintro e w0 ⟨rfl, hd⟩
      have hB0 := Lib.hid hd.below
      clear hd
      go_wp2_with fail
      refine (hT.out _ (hL.below hB0.out)).mono ?_
      rintro e w1 ⟨⟨tk, rfl, ho⟩, hb⟩
      have hB1 := Lib.hid (Go.Proofs.YtkijoeihkajlcaaGreatDoor.below_then hB0.out hb (Nat.le_refl _))
      obtain ⟨A, c, rfl⟩ := own_slice ho
      clear ho hb
      simp only [List.map_nil, List.length_nil]
      go_wp2_with fail
      refine (hW.out _ (hL.below hB1.out)).mono ?_
      rintro e w2 ⟨rfl, hb⟩
      have hB2 := Lib.hid (Go.Proofs.YtkijoeihkajlcaaGreatDoor.below_then hB1.out hb (Nat.le_refl _))
      clear hb
      go_wp2_with fail
      refine (hRc.out _).mono ?_
      rintro e w3 ⟨v3, rfl, hR3, hb⟩
      have hB3 := Lib.hid (Go.Proofs.YtkijoeihkajlcaaGreatDoor.below_then hB2.out hb (Nat.le_refl _))
      clear hb hR3
      go_wp2_with fail
      refine (hkn.out _ (hL.below hB3.out)).mono ?_
      rintro e w4 ⟨rfl, hb⟩
      have hB4 := Lib.hid (Go.Proofs.YtkijoeihkajlcaaGreatDoor.below_then hB3.out hb (Nat.le_refl _))
      clear hb
      go_wp2
      go_ret
      exact ⟨rfl, hB4.out⟩
  · by_cases c2 : 4000 < s.size ∧ s.size ≤ 4100
    · have hsh : swardlaw02_short.f s = some true := by unfold swardlaw02_short.f; rw [if_neg (by omega), if_pos (by omega), decide_eq_true (by omega)]
      have hshc := Lib.hid (swardlaw02_short.calls s true w hsh)
      have hsl : s.data.toList.length = s.size := by simp
      have hT := Lib.hid (fun w' (h : Laid w') => Tokens_calls s w' h [] 3 (by unfold Lx.toks; rw [if_pos (by omega)]))
      have hW := Lib.hid (fun w' (h : Laid w') => Wrong_calls s w' h 0 0 3 (by unfold Lx.wrongs; rw [if_pos (by omega)]))
      clear hsh hsl
      have hgt : 4000 < s.size := c2.1
      go_enter Tryz.func3, Tryz.ntmps3
      go_wp2_with fail
      refine hshc.out.mono ?_
      rintro e w0 ⟨rfl, hd⟩
      have hB0 := Lib.hid hd.below
      clear hd
      go_wp2_with fail
      refine (hT.out _ (hL.below hB0.out)).mono ?_
      rintro e w1 ⟨⟨tk, rfl, ho⟩, hb⟩
      have hB1 := Lib.hid (Go.Proofs.YtkijoeihkajlcaaGreatDoor.below_then hB0.out hb (Nat.le_refl _))
      obtain ⟨A, c, rfl⟩ := own_slice ho
      clear ho hb
      simp only [List.map_nil, List.length_nil]
      go_wp2_with fail
      refine (hW.out _ (hL.below hB1.out)).mono ?_
      rintro e w2 ⟨rfl, hb⟩
      have hB2 := Lib.hid (Go.Proofs.YtkijoeihkajlcaaGreatDoor.below_then hB1.out hb (Nat.le_refl _))
      clear hb
      go_wp2_with fail
      refine (hkn.out _ (hL.below hB2.out)).mono ?_
      rintro e w4 ⟨rfl, hb⟩
      have hB4 := Lib.hid (Go.Proofs.YtkijoeihkajlcaaGreatDoor.below_then hB2.out hb (Nat.le_refl _))
      clear hb
      go_wp2
      go_ret
      exact ⟨rfl, hB4.out⟩
    · have hsh : swardlaw02_short.f s = some false := by
        unfold swardlaw02_short.f
        rw [if_neg (by omega)]
        split
        · rw [decide_eq_false (by omega)]
        · rfl
      have hshc := Lib.hid (swardlaw02_short.calls s false w hsh)
      clear hsh
      go_enter Tryz.func3, Tryz.ntmps3
      go_wp2_with fail
      refine hshc.out.mono ?_
      rintro e w0 ⟨rfl, hd⟩
      have hB0 := Lib.hid hd.below
      clear hd
      go_wp2_with fail
      refine (hkn.out _ (hL.below hB0.out)).mono ?_
      rintro e w4 ⟨rfl, hb⟩
      have hB4 := Lib.hid (Go.Proofs.YtkijoeihkajlcaaGreatDoor.below_then hB0.out hb (Nat.le_refl _))
      clear hb
      go_wp2
      go_ret
      exact ⟨rfl, hB4.out⟩
end Go.Proofs.YtkijoeihkajlcaaGreatDoor.PLexTokens
