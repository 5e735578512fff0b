/-
  LexMinus answers true for every input: the row and its tied card.
-/
import Derived.Test.YtkijoeihkajlcaaDoorMc
import Derived.Test.YtkijoeihkajlcaaDoorMp
import Derived.Test.YtkijoeihkajlcaaDoorRAll6
import Derived.Deep.RegionHeld3
import Derived.Test.YtkijoeihkajlcaaDoorRows
import Derived.Test.YtkijoeihkajlcaaDoorCards
import Derived.Test.YtkijoeihkajlcaaDoorTie
import Derived.Lib.LaidTab
import Derived.Stop.LaidErr
import Derived.ProofKit
import Derived.OpenShut
import Derived.LaidMore
import Derived.Lay
import Derived.ChangeMaps5
import Derived.SevenTiedAt
import Derived.Stop.Joined

set_option linter.unusedVariables false
set_option linter.unusedSimpArgs false
namespace Go.Proofs.YtkijoeihkajlcaaDoor.PAll
open Go.RowKit Go.Shelf
open Go.Proofs.YtkijoeihkajlcaaDoorW.PrintWords

theorem bt_nat (s : ByteArray) (i : Nat) (h : i < s.size) : bt s (i : Int) = (s[i].toNat : Int) := by
  rw [← bt_at s i (by simpa using h)]
  rfl
theorem wrap_nat (n : Nat) (h : n < 9223372036854775807) : wrap64 ((n : Int)) = n := by unfold wrap64; omega
theorem wrap_succ (n : Nat) (h : n < 9223372036854775807) : wrap64 ((n : Int) + 1) = ((n + 1 : Nat) : Int) := by unfold wrap64; omega
theorem Ev.ite_pos {α : Type} {c : Prop} [Decidable c] {g f : Nat → Option α} {r : α} (hc : c) (h : Ev g r) : Ev (fun n => if c then g n else f n) r := by simpa [hc] using h
theorem Ev.ite_neg {α : Type} {c : Prop} [Decidable c] {g f : Nat → Option α} {r : α} (hc : ¬ c) (h : Ev f r) : Ev (fun n => if c then g n else f n) r := by simpa [hc] using h
theorem blank_f (c : UInt8) : swardref02_blank.f (c.toNat : Int) = some (Lx.isBlank c) := by
  unfold swardref02_blank.f Lx.isBlank
  split
  · rename_i h; have : c.toNat = 32 := by omega
    simp [this]
  · split
    · rename_i h1 h; have : c.toNat = 9 := by omega
      simp [this]
    · rename_i h1 h2
      have a : (c.toNat == 32) = false := by simp; omega
      have b : (c.toNat == 9) = false := by simp; omega
      rw [a, b, Bool.false_or, Bool.false_or]
      congr 1
      rw [Bool.eq_iff_iff, beq_iff_eq, beq_iff_eq]
      omega
theorem Ev.succ {α : Type} {g : Nat → Option α} {r : α} (h : Ev (fun k => g (k + 1)) r) : Ev g r := Ev.step (fun _ => rfl) h
theorem ev_skip (s : ByteArray) (hs : s.size ≤ 4200) : ∀ (n i : Nat), i ≤ s.size → s.size - i = n →
    Ev (fun k => swardref02_skip.l0 k s i) ((i + Lx.skipF false (s.data.toList.drop i) : Nat) : Int) ∧ Ev (fun k => swardref02_skip.l1 k s i) ((i + Lx.skipF true (s.data.toList.drop i) : Nat) : Int) := by
  intro n
  induction n with
  | zero =>
    intro i hi hn
    have he : s.data.toList.drop i = [] := List.drop_of_length_le (by simp; omega)
    have h1 : ¬ ((i : Int) < (s.size : Int)) := by omega
    have h0 : Ev (fun k => swardref02_skip.l0 k s i) ((i + Lx.skipF false (s.data.toList.drop i) : Nat) : Int) := by
      rw [he]
      refine Ev.succ (Ev.succ ?_)
      simp only [swardref02_skip.l0, swardref02_skip.j1, h1, if_false, Bool.false_eq_true]
      exact Ev.now _
    refine ⟨h0, Ev.succ ?_⟩
    simp only [swardref02_skip.l1, h1, if_false]
    rw [he] at h0 ⊢
    exact h0
  | succ n ih =>
    intro i hi hn
    have hlt : i < s.size := by omega
    obtain ⟨ih0, ih1⟩ := ih (i + 1) (by omega) (by omega)
    have hd := drop_cons s i hlt
    rw [hd]
    have hb := bt_nat s i hlt
    have hw := wrap_succ i (by omega)
    have h1 : (i : Int) < (s.size : Int) := by omega
    have h2 : (0 : Int) ≤ (i : Int) := by omega
    have h0 : Ev (fun k => swardref02_skip.l0 k s i) ((i + Lx.skipF false (s[i] :: s.data.toList.drop (i + 1)) : Nat) : Int) := by
      by_cases hbl : Lx.isBlank s[i] = true
      · have hn35 : ¬ ((s[i].toNat : Int) = 35) := by
          intro h
          have : s[i].toNat = 35 := by omega
          simp [Lx.isBlank, this] at hbl
        refine Ev.succ (Ev.succ ?_)
        simp only [swardref02_skip.l0, swardref02_skip.j1, h1, h2, if_true, hb, blank_f, Option.bind_some, hbl, hn35, if_false, hw]
        simp only [Lx.skipF, hbl, if_true]
        rw [show i + (Lx.skipF false (s.data.toList.drop (i + 1)) + 1) = i + 1 + Lx.skipF false (s.data.toList.drop (i + 1)) by omega]
        exact ih0
      · by_cases h35 : s[i].toNat = 35
        · have e35 : ((s[i].toNat : Int) == 35) = true := by simp; omega
          have f35 : (s[i].toNat : Int) = 35 := by omega
          have f10 : ¬ (35 : Int) = 10 := by omega
          refine Ev.succ (Ev.succ (Ev.succ ?_))
          simp only [swardref02_skip.l0, swardref02_skip.j1, swardref02_skip.l1, h1, h2, if_true, hb, blank_f, Option.bind_some, hbl, e35, f35, if_false, Bool.false_eq_true, f10, hw, beq_self_eq_true]
          simp only [Lx.skipF, hbl, if_false, Bool.false_eq_true, h35, if_true]
          rw [show i + (Lx.skipF true (s.data.toList.drop (i + 1)) + 1) = i + 1 + Lx.skipF true (s.data.toList.drop (i + 1)) by omega]
          exact ih1
        · have e35 : ((s[i].toNat : Int) == 35) = false := by simp; omega
          refine Ev.succ (Ev.succ ?_)
          simp only [swardref02_skip.l0, swardref02_skip.j1, h1, h2, if_true, hb, blank_f, Option.bind_some, hbl, e35, if_false, Bool.false_eq_true]
          simp only [Lx.skipF, hbl, if_false, Bool.false_eq_true, h35, Nat.add_zero]
          exact Ev.now _
    refine ⟨h0, ?_⟩
    by_cases h10 : s[i].toNat = 10
    · have f10 : (s[i].toNat : Int) = 10 := by omega
      refine Ev.succ ?_
      simp only [swardref02_skip.l1, h1, h2, if_true, hb, f10]
      have : Lx.skipF true (s[i] :: s.data.toList.drop (i + 1)) = Lx.skipF false (s[i] :: s.data.toList.drop (i + 1)) := by
        simp [Lx.skipF, Lx.notNl, Lx.isBlank, h10]
      rw [this]
      exact h0
    · have f10 : ¬ ((s[i].toNat : Int) = 10) := by omega
      refine Ev.succ ?_
      simp only [swardref02_skip.l1, h1, h2, if_true, hb, f10, if_false, hw]
      have : Lx.skipF true (s[i] :: s.data.toList.drop (i + 1)) = Lx.skipF true (s.data.toList.drop (i + 1)) + 1 := by
        simp [Lx.skipF, Lx.notNl, h10]
      rw [this, show i + (Lx.skipF true (s.data.toList.drop (i + 1)) + 1) = i + 1 + Lx.skipF true (s.data.toList.drop (i + 1)) by omega]
      exact ih1
theorem ev_skip_f (s : ByteArray) (hs : s.size ≤ 4200) (i : Nat) (hi : i ≤ s.size) : Ev (fun k => swardref02_skip.f k s i) ((i + Lx.skipL (s.data.toList.drop i) : Nat) : Int) := (ev_skip s hs _ i hi rfl).1
theorem letter_f (c : UInt8) : swardref02_letter.f (c.toNat : Int) = some (Lx.isLet c) := by
  unfold swardref02_letter.f Lx.isLet
  split
  · rename_i h
    have a : decide (97 ≤ c.toNat) = true := decide_eq_true (by omega)
    rw [a, Bool.true_and]
    congr 1
    rw [decide_eq_decide]
    omega
  · rename_i h
    have a : decide (97 ≤ c.toNat) = false := decide_eq_false (by omega)
    rw [a, Bool.false_and]
theorem quoted_f (c : UInt8) : swardref02_quoted.f (c.toNat : Int) = some (Lx.isTxt c) := by
  unfold swardref02_quoted.f Lx.isTxt
  by_cases h1 : 32 ≤ c.toNat
  · have a1 : decide (32 ≤ c.toNat) = true := decide_eq_true h1
    rw [if_pos (by omega), a1, Bool.true_and]
    by_cases h2 : c.toNat ≤ 126
    · have a2 : decide (c.toNat ≤ 126) = true := decide_eq_true h2
      rw [if_pos (by omega), a2, Bool.true_and]
      by_cases h3 : c.toNat = 34
      · rw [if_pos (by omega)]
        simp [h3]
      · have a3 : decide (c.toNat ≠ 34) = true := decide_eq_true h3
        rw [if_neg (by omega), a3, Bool.true_and]
        congr 1
        rw [Bool.eq_iff_iff, bne_iff_ne, decide_eq_true_iff]
        omega
    · have a2 : decide (c.toNat ≤ 126) = false := decide_eq_false h2
      rw [if_neg (by omega), a2, Bool.false_and]
  · have a1 : decide (32 ≤ c.toNat) = false := decide_eq_false h1
    rw [if_neg (by omega), a1, Bool.false_and]
theorem ev_stuff (s : ByteArray) (hs : s.size ≤ 4200) : ∀ (n i m : Nat), i + m ≤ s.size → s.size - (i + m) = n →
    Ev (fun k => swardref02_stuff.l0 k s i m) ((m + Lx.runL Lx.isTxt (s.data.toList.drop (i + m)) : Nat) : Int) := by
  intro n
  induction n with
  | zero =>
    intro i m hi hn
    have he : s.data.toList.drop (i + m) = [] := List.drop_of_length_le (by simp; omega)
    rw [he]
    have hw : wrap64 ((i : Int) + m) = ((i + m : Nat) : Int) := by unfold wrap64; omega
    have h1 : ¬ (((i + m : Nat) : Int) < (s.size : Int)) := by omega
    refine Ev.succ ?_
    simp only [swardref02_stuff.l0, hw, h1, if_false]
    exact Ev.now _
  | succ n ih =>
    intro i m hi hn
    have hlt : i + m < s.size := by omega
    have ih0 := ih i (m + 1) (by omega) (by omega)
    have hd := drop_cons s (i + m) hlt
    rw [hd]
    have hb := bt_nat s (i + m) hlt
    have hw : wrap64 ((i : Int) + m) = ((i + m : Nat) : Int) := by unfold wrap64; omega
    have hw1 : wrap64 ((m : Int) + 1) = ((m + 1 : Nat) : Int) := by unfold wrap64; omega
    have h1 : ((i + m : Nat) : Int) < (s.size : Int) := by omega
    have h2 : (0 : Int) ≤ ((i + m : Nat) : Int) := by omega
    refine Ev.succ ?_
    by_cases hl : Lx.isTxt s[i + m] = true
    · simp only [swardref02_stuff.l0, hw, h1, h2, if_true, hb, quoted_f, Option.bind_some, hl, hw1]
      simp only [Lx.runL, hl, if_true]
      rw [show m + (Lx.runL Lx.isTxt (s.data.toList.drop (i + m + 1)) + 1) = m + 1 + Lx.runL Lx.isTxt (s.data.toList.drop (i + (m + 1))) by rw [show i + (m + 1) = i + m + 1 by omega]; omega]
      exact ih0
    · simp only [swardref02_stuff.l0, hw, h1, h2, if_true, hb, quoted_f, Option.bind_some, hl, if_false, Bool.false_eq_true]
      simp only [Lx.runL, hl, if_false, Bool.false_eq_true, Nat.add_zero]
      exact Ev.now _
def memB (xs : List ByteArray) (s : ByteArray) : Bool := xs.any fun x => decide (x.data.toList = s.data.toList)
theorem ev_among (xs : List ByteArray) (hx : xs.length ≤ 4000) (s : ByteArray) : ∀ (n i : Nat), i ≤ xs.length → xs.length - i = n →
    Ev (fun k => swardref02_among.l0 k xs s i) (memB (xs.drop i) s) := by
  intro n
  induction n with
  | zero =>
    intro i hi hn
    have he : xs.drop i = [] := List.drop_of_length_le (by omega)
    have h1 : ¬ ((i : Int) < (xs.length : Int)) := by omega
    refine Ev.succ ?_
    simp only [swardref02_among.l0, h1, if_false, he]
    exact Ev.now _
  | succ n ih =>
    intro i hi hn
    have hlt : i < xs.length := by omega
    have ih0 := ih (i + 1) (by omega) (by omega)
    have hw := wrap_succ i (by omega)
    have h1 : (i : Int) < (xs.length : Int) := by omega
    have h2 : (0 : Int) ≤ (i : Int) := by omega
    have hr : rdOf ByteArray.empty xs (i : Int) = xs[i] := by simp [rdOf, List.getD_eq_getElem?_getD, List.getElem?_eq_getElem hlt]
    rw [List.drop_eq_getElem_cons hlt]
    unfold memB at ih0 ⊢
    rw [List.any_cons]
    refine Ev.succ ?_
    by_cases he : xs[i].toList = s.toList
    · have hes : xs[i].data.toList = s.data.toList := by rw [← bs_toList, he, bs_toList]
      simp only [swardref02_among.l0, h1, h2, if_true, hr, he]
      rw [decide_eq_true hes, Bool.true_or]
      exact Ev.now _
    · have hne : ¬ xs[i].data.toList = s.data.toList := fun h => he (by rw [bs_toList, bs_toList, h])
      simp only [swardref02_among.l0, h1, h2, if_true, hr, he, if_false, hw]
      rw [decide_eq_false hne, Bool.false_or]
      exact ih0
theorem memB_map (ls : List Lx.Bs) (s : ByteArray) : memB (ls.map bsOf) s = ls.contains s.data.toList := by
  unfold memB
  induction ls with
  | nil => rfl
  | cons l ls ih =>
    rw [List.map_cons, List.any_cons, ih, List.contains_cons]
    congr 1
    rw [Bool.eq_iff_iff, decide_eq_true_iff, beq_iff_eq]
    show l = _ ↔ _
    exact eq_comm
theorem keys_eq : swardref02_Keys.f = some (Lx.keyWords.map bsOf) := rfl
theorem signs_eq : swardref02_Signs.f = some (Lx.signWords.map bsOf) := rfl
theorem ev_Key (s : ByteArray) : Ev (fun k => swardref02_Key.f k s) (Lx.isKey s.data.toList) := by
  have ha := ev_among (Lx.keyWords.map bsOf) (by decide) s _ 0 (Nat.zero_le _) rfl
  rw [List.drop_zero, memB_map] at ha
  refine Ev.congr (fun k => ?_) ha
  unfold swardref02_Key.f
  rw [keys_eq]
  show Option.bind (swardref02_among.l0 k (Lx.keyWords.map bsOf) s 0) (fun t => some t) = swardref02_among.l0 k (Lx.keyWords.map bsOf) s 0
  cases swardref02_among.l0 k (Lx.keyWords.map bsOf) s 0 <;> rfl
theorem ext_eq (s : ByteArray) (a n b : Nat) (h : b = a + n) : s.extract a b = bsOf ((s.data.toList.drop a).take n) := by
  have := extract_eq s a n b h
  unfold strV at this
  injection this
end Go.Proofs.YtkijoeihkajlcaaDoor.PAll

set_option linter.unusedVariables false
set_option linter.unusedSimpArgs false
namespace Go.Proofs.YtkijoeihkajlcaaDoor.PAll
open Go.RowKit Go.Shelf
open Go.Proofs.YtkijoeihkajlcaaDoorW.PrintWords

/-- A token as the printed functions have it, and as the walk of package lex has it. -/
abbrev S := S37
def sT (x : S) : Tk := ⟨x.f0, x.f1, x.f2, x.f3⟩
theorem reads_sT {w : World} {A : Option Addr} {n : Nat} {xs : List S} (h : Kd.C k37 w A n xs) : Kd.C kTk w A n (xs.map sT) := by
  obtain ⟨h1, h2, h3⟩ := h
  refine ⟨by rw [List.length_map]; exact h1, h2, fun hn => ?_⟩
  obtain ⟨ad, e, hc⟩ := h3 hn
  refine ⟨ad, e, fun j p hj => ?_⟩
  rw [List.getElem?_map] at hj
  obtain ⟨x, hx, rfl⟩ := Option.map_eq_some_iff.1 hj
  exact hc j x hx
theorem int_beq (a b : Int) : (a == b) = decide (a = b) := by rw [Bool.eq_iff_iff, beq_iff_eq, decide_eq_true_iff]
theorem rd_S (xs : List S) (i : Nat) (h : i < xs.length) : rd_T37 xs (i : Int) = xs[i] := by
  simp [rd_T37, List.getD_eq_getElem?_getD, List.getElem?_eq_getElem h]
theorem toList_inj (a b : ByteArray) : a.toList = b.toList ↔ a = b := by
  rw [bs_toList, bs_toList]
  constructor
  · intro h
    apply ByteArray.ext
    exact Array.toList_inj.1 h
  · rintro rfl; rfl

/-! ### the same tokens -/
def likeB (a b : S) : Bool := decide (a.f0 = b.f0) && (decide (a.f1 = b.f1) && decide (a.f2 = b.f2))
theorem like_f (a b : S) : swardref02_Like.f a.f0 a.f1 a.f2 a.f3 b.f0 b.f1 b.f2 b.f3 = some (likeB a b) := by
  unfold swardref02_Like.f likeB
  by_cases h0 : a.f0 = b.f0
  · by_cases h1 : a.f1 = b.f1
    · rw [if_pos h0, if_pos ((toList_inj _ _).2 h1)]
      simp [h0, h1, int_beq]
    · rw [if_pos h0, if_neg (fun h => h1 ((toList_inj _ _).1 h))]
      simp [h1]
  · rw [if_neg h0]
    simp [h0]
def sameL : List S → List S → Bool
  | [], _ => true
  | x :: xs, y :: ys => likeB x y && sameL xs ys
  | _ :: _, [] => true
def sameB (xs ys : List S) : Bool := decide (xs.length = ys.length) && sameL xs ys
theorem sameL_drop (xs ys : List S) (i : Nat) (h : i < xs.length) (h2 : i < ys.length) : sameL (xs.drop i) (ys.drop i) = (likeB xs[i] ys[i] && sameL (xs.drop (i + 1)) (ys.drop (i + 1))) := by
  rw [List.drop_eq_getElem_cons h, List.drop_eq_getElem_cons h2]
  rfl
theorem ev_same_l (xs ys : List S) (hl : xs.length = ys.length) (hx : xs.length ≤ 1000000000000000) : ∀ (n i : Nat), i ≤ xs.length → xs.length - i = n → Ev (fun k => swardref02_Same.l0 k xs ys i) (sameL (xs.drop i) (ys.drop i)) := by
  intro n
  induction n with
  | zero =>
    intro i hi hn
    have h1 : ¬ ((i : Int) < (xs.length : Int)) := by omega
    have he : xs.drop i = [] := List.drop_of_length_le (by omega)
    rw [he]
    refine Ev.succ ?_
    simp only [swardref02_Same.l0, h1, if_false]
    exact Ev.now _
  | succ n ih =>
    intro i hi hn
    have hlt : i < xs.length := by omega
    have hlt2 : i < ys.length := by omega
    have ih0 := ih (i + 1) (by omega) (by omega)
    have h1 : (i : Int) < (xs.length : Int) := by omega
    have h3 : (i : Int) < (ys.length : Int) := by omega
    have h2 : (0 : Int) ≤ (i : Int) := Int.natCast_nonneg _
    have hw := wrap_succ i (by omega)
    rw [sameL_drop xs ys i hlt hlt2]
    refine Ev.succ ?_
    simp only [swardref02_Same.l0, h1, h2, h3, if_true, rd_S xs i hlt, rd_S ys i hlt2, like_f, Option.bind_some, hw]
    cases hb : likeB xs[i] ys[i]
    · simp only [Bool.false_eq_true, if_false, Bool.false_and]
      exact Ev.now _
    · simp only [if_true, Bool.true_and]
      exact ih0
theorem ev_Same (xs ys : List S) (hx : xs.length ≤ 1000000000000000) : Ev (fun k => swardref02_Same.f k xs ys) (sameB xs ys) := by
  unfold sameB
  by_cases hl : xs.length = ys.length
  · have h1 : (xs.length : Int) = (ys.length : Int) := by omega
    have := ev_same_l xs ys hl hx _ 0 (Nat.zero_le _) rfl
    rw [List.drop_zero, List.drop_zero] at this
    simp only [swardref02_Same.f, h1, if_true, decide_eq_true hl, Bool.true_and]
    exact this
  · have h1 : ¬ (xs.length : Int) = (ys.length : Int) := by omega
    simp only [swardref02_Same.f, h1, if_false, decide_eq_false hl, Bool.false_and]
    exact Ev.now _
theorem sameL_iff : ∀ (xs ys : List S), xs.length = ys.length → (sameL xs ys = true ↔ xs.map (fun x => (x.f0, x.f1, x.f2)) = ys.map (fun x => (x.f0, x.f1, x.f2)))
  | [], [], _ => by simp [sameL]
  | x :: xs, y :: ys, h => by
    have ih := sameL_iff xs ys (by simpa using h)
    simp only [sameL, Bool.and_eq_true, ih, List.map_cons, List.cons.injEq, Prod.mk.injEq, likeB, decide_eq_true_eq]
  | [], _ :: _, h => by simp at h
  | _ :: _, [], h => by simp at h
theorem sameB_iff (xs ys : List S) : sameB xs ys = true ↔ xs.map (fun x => (x.f0, x.f1, x.f2)) = ys.map (fun x => (x.f0, x.f1, x.f2)) := by
  unfold sameB
  rw [Bool.and_eq_true, decide_eq_true_iff]
  constructor
  · rintro ⟨h1, h2⟩
    exact (sameL_iff xs ys h1).1 h2
  · intro h
    have hl : xs.length = ys.length := by simpa using congrArg List.length h
    exact ⟨hl, (sameL_iff xs ys hl).2 h⟩
theorem ev_SameAll_self (xs : List S) (hx : xs.length ≤ 10000) : Ev (fun k => swardref02_SameAll.f k xs xs) true := by
  have h : ∀ (n i : Nat), i ≤ xs.length → xs.length - i = n → Ev (fun k => swardref02_SameAll.l0 k xs xs i) true := by
    intro n
    induction n with
    | zero =>
      intro i hi hn
      have h1 : ¬ ((i : Int) < (xs.length : Int)) := by omega
      refine Ev.succ ?_
      simp only [swardref02_SameAll.l0, h1, if_false]
      exact Ev.now _
    | succ n ih =>
      intro i hi hn
      have ih0 := ih (i + 1) (by omega) (by omega)
      have h1 : (i : Int) < (xs.length : Int) := by omega
      have h2 : (0 : Int) ≤ (i : Int) := Int.natCast_nonneg _
      have hw := wrap_succ i (by omega)
      refine Ev.succ ?_
      simp only [swardref02_SameAll.l0, h1, h2, if_true, hw]
      exact ih0
  have hs := ev_Same xs xs (by omega)
  rw [(sameB_iff xs xs).2 rfl] at hs
  unfold swardref02_SameAll.f
  refine Ev.bind (f := fun k (t : Bool) => if t = true then swardref02_SameAll.l0 k xs xs 0 else some false) hs ?_
  simp only [if_true]
  exact h _ 0 (Nat.zero_le _) rfl

/-! ### tokens that are as defined -/
theorem ev_lettered (s : ByteArray) (hs : s.size ≤ 4200) : ∀ (n i : Nat), i ≤ s.size → s.size - i = n → Ev (fun k => swardref02_lettered.l0 k s i) ((s.data.toList.drop i).all Lx.isLet) := by
  intro n
  induction n with
  | zero =>
    intro i hi hn
    have he : s.data.toList.drop i = [] := List.drop_of_length_le (by simp; omega)
    have h1 : ¬ ((i : Int) < (s.size : Int)) := by omega
    rw [he]
    refine Ev.succ ?_
    simp only [swardref02_lettered.l0, h1, if_false]
    exact Ev.now _
  | succ n ih =>
    intro i hi hn
    have hlt : i < s.size := by omega
    have ih0 := ih (i + 1) (by omega) (by omega)
    have hd := drop_cons s i hlt
    have hb := bt_nat s i hlt
    have hw := wrap_succ i (by omega)
    have h1 : (i : Int) < (s.size : Int) := by omega
    have h2 : (0 : Int) ≤ (i : Int) := by omega
    rw [hd, List.all_cons]
    refine Ev.succ ?_
    simp only [swardref02_lettered.l0, h1, h2, if_true, hb, letter_f, Option.bind_some, hw]
    cases hl : Lx.isLet s[i]
    · simp only [Bool.false_eq_true, if_false, Bool.false_and]
      exact Ev.now _
    · simp only [if_true, Bool.true_and]
      exact ih0
theorem ev_Name (s : ByteArray) : Ev (fun k => swardref02_Name.f k s) (Lx.isName s.data.toList) := by
  have hlen : s.data.toList.length = s.size := by simp
  by_cases h1 : 1 ≤ s.size
  · by_cases h8 : s.size ≤ 8
    · have hl := ev_lettered s (by omega) _ 0 (Nat.zero_le _) rfl
      rw [List.drop_zero] at hl
      have hk := ev_Key s
      have c1 : (s.size : Int) ≥ 1 := by omega
      have c2 : (s.size : Int) ≤ 8 := by omega
      have hn : Lx.isName s.data.toList = (s.data.toList.all Lx.isLet && !Lx.isKey s.data.toList) := by
        unfold Lx.isName
        rw [decide_eq_true (by omega), decide_eq_true (by omega), Bool.true_and, Bool.true_and]
      rw [hn]
      simp only [swardref02_Name.f, c1, c2, if_true]
      refine Ev.bind (f := fun k (t : Bool) => if t = true then ((swardref02_Key.f k s).bind fun t => some (!t)) else some false) hl ?_
      cases ha : s.data.toList.all Lx.isLet
      · simp only [Bool.false_eq_true, if_false, Bool.false_and]
        exact Ev.now _
      · simp only [if_true, Bool.true_and]
        exact Ev.bind (f := fun k (t : Bool) => some (!t)) hk (Ev.now _)
    · have c1 : (s.size : Int) ≥ 1 := by omega
      have c2 : ¬ (s.size : Int) ≤ 8 := by omega
      have hn : Lx.isName s.data.toList = false := by
        unfold Lx.isName
        rw [decide_eq_false (p := s.data.toList.length ≤ 8) (by omega), Bool.false_and, Bool.and_false]
      rw [hn]
      simp only [swardref02_Name.f, c1, c2, if_true, if_false]
      exact Ev.now _
  · have c1 : ¬ (s.size : Int) ≥ 1 := by omega
    have hn : Lx.isName s.data.toList = false := by
      unfold Lx.isName
      rw [decide_eq_false (p := 1 ≤ s.data.toList.length) (by omega), Bool.false_and]
    rw [hn]
    simp only [swardref02_Name.f, c1, if_false]
    exact Ev.now _
theorem run_all (p : UInt8 → Bool) : ∀ l : Lx.Bs, decide ((Lx.runL p l : Int) = (l.length : Int)) = l.all p
  | [] => rfl
  | c :: l => by
    have ih := run_all p l
    have hle := Lx.runL_le p l
    rw [List.all_cons]
    cases hc : p c
    · rw [Bool.false_and]
      refine decide_eq_false ?_
      simp [Lx.runL, hc]
      omega
    · rw [Bool.true_and, ← ih, decide_eq_decide]
      simp [Lx.runL, hc]
def tokenB (x : S) : Bool := (Lx.pieceOf (sT x)).isSome
theorem ev_tok0 (x : S) (hx : ¬ (x.f3 < 0 ∨ 4000 < x.f3 ∨ (x.f0 ≠ 3 ∧ x.f2 ≠ 0))) : Ev (fun k => swardref02_Token.j0 k false x.f0 x.f1 x.f2 x.f3) (tokenB x) := by
  obtain ⟨k, s, n, a⟩ := x
  unfold tokenB Lx.pieceOf sT
  simp only at hx ⊢
  rw [if_neg hx]
  refine Ev.succ ?_
  simp only [swardref02_Token.j0, Bool.false_eq_true, if_false]
  by_cases h1 : k = 1
  · subst h1
    simp only [if_true]
    have := ev_Name s
    refine Ev.bind (f := fun k (t : Bool) => some t) this ?_
    cases Lx.isName s.data.toList <;> exact Ev.now _
  · by_cases h2 : k = 2
    · subst h2
      have e1 : ¬ ((2 : Int) = 1) := by omega
      simp only [e1, if_true, if_false]
      refine Ev.bind (f := fun k (t : Bool) => some t) (ev_Key s) ?_
      cases Lx.isKey s.data.toList <;> exact Ev.now _
    · by_cases h3 : k = 3
      · subst h3
        have e1 : ¬ ((3 : Int) = 1) := by omega
        have e2 : ¬ ((3 : Int) = 2) := by omega
        simp only [e1, e2, if_true, if_false]
        by_cases hs : s = ⟨#[]⟩
        · have hs2 : s.toList = [] := by rw [hs, bs_toList]
          by_cases hn1 : n ≥ -1000000000
          · by_cases hn2 : n ≤ 1000000000
            · rw [show (if s = (⟨#[]⟩ : ByteArray) ∧ -1000000000 ≤ n ∧ n ≤ 1000000000 then some (Lx.Piece.num n) else none).isSome = true by rw [if_pos ⟨hs, hn1, hn2⟩]; rfl]
              simp only [hs2, hn1, hn2, if_true, decide_true]
              exact Ev.now _
            · rw [show (if s = (⟨#[]⟩ : ByteArray) ∧ -1000000000 ≤ n ∧ n ≤ 1000000000 then some (Lx.Piece.num n) else none).isSome = false by rw [if_neg (by rintro ⟨_, _, h⟩; exact hn2 h)]; rfl]
              simp only [hs2, hn1, hn2, if_true, decide_false]
              exact Ev.now _
          · rw [show (if s = (⟨#[]⟩ : ByteArray) ∧ -1000000000 ≤ n ∧ n ≤ 1000000000 then some (Lx.Piece.num n) else none).isSome = false by rw [if_neg (by rintro ⟨_, h, _⟩; exact hn1 h)]; rfl]
            simp only [hs2, hn1, if_true, if_false]
            exact Ev.now _
        · have hs2 : ¬ s.toList = [] := by
            intro h
            exact hs ((toList_inj s ⟨#[]⟩).1 (by rw [h, bs_toList]))
          rw [show (if s = (⟨#[]⟩ : ByteArray) ∧ -1000000000 ≤ n ∧ n ≤ 1000000000 then some (Lx.Piece.num n) else none).isSome = false by rw [if_neg (by rintro ⟨h, _⟩; exact hs h)]; rfl]
          simp only [hs2, if_false]
          exact Ev.now _
      · by_cases h4 : k = 4
        · subst h4
          have e1 : ¬ ((4 : Int) = 1) := by omega
          have e2 : ¬ ((4 : Int) = 2) := by omega
          have e3 : ¬ ((4 : Int) = 3) := by omega
          simp only [e1, e2, e3, if_true, if_false]
          by_cases h20 : s.size ≤ 20
          · have c20 : (s.size : Int) ≤ 20 := by omega
            have hst := ev_stuff s (by omega) _ 0 0 (Nat.zero_le _) rfl
            rw [Nat.zero_add, Nat.zero_add, List.drop_zero] at hst
            have hra := run_all Lx.isTxt s.data.toList
            have hlen : s.data.toList.length = s.size := by simp
            rw [hlen] at hra
            simp only [c20, if_true]
            refine Ev.bind (f := fun k (t : Int) => some (t == (s.size : Int))) hst ?_
            rw [int_beq, hra]
            cases ha : s.data.toList.all Lx.isTxt
            · rw [show (if s.size ≤ 20 ∧ false = true then some (Lx.Piece.str s.data.toList) else none).isSome = false by rw [if_neg (by rintro ⟨_, h⟩; cases h)]; rfl]
              exact Ev.now _
            · rw [show (if s.size ≤ 20 ∧ true = true then some (Lx.Piece.str s.data.toList) else none).isSome = true by rw [if_pos ⟨h20, rfl⟩]; rfl]
              exact Ev.now _
          · have c20 : ¬ (s.size : Int) ≤ 20 := by omega
            rw [show (if s.size ≤ 20 ∧ s.data.toList.all Lx.isTxt = true then some (Lx.Piece.str s.data.toList) else none).isSome = false by rw [if_neg (by rintro ⟨h, _⟩; exact h20 h)]; rfl]
            simp only [c20, if_false]
            exact Ev.now _
        · by_cases h5 : k = 5
          · subst h5
            have e1 : ¬ ((5 : Int) = 1) := by omega
            have e2 : ¬ ((5 : Int) = 2) := by omega
            have e3 : ¬ ((5 : Int) = 3) := by omega
            have e4 : ¬ ((5 : Int) = 4) := by omega
            have ha := ev_among (Lx.signWords.map bsOf) (by decide) s _ 0 (Nat.zero_le _) rfl
            rw [List.drop_zero, memB_map] at ha
            simp only [e1, e2, e3, e4, if_true, if_false, signs_eq, Option.bind_some]
            refine Ev.bind (f := fun k (t : Bool) => some t) (a := Lx.signWords.contains s.data.toList) ?_ ?_
            · exact Ev.congr (fun k => rfl) ha
            · cases hc : Lx.signWords.contains s.data.toList
              · rw [show (if s.data.toList ∈ Lx.signWords then some (Lx.Piece.sgn s.data.toList) else none).isSome = false by rw [if_neg (by intro h; rw [← List.contains_iff_mem, hc] at h; cases h)]; rfl]
                exact Ev.now _
              · rw [show (if s.data.toList ∈ Lx.signWords then some (Lx.Piece.sgn s.data.toList) else none).isSome = true by rw [if_pos (List.contains_iff_mem.1 hc)]; rfl]
                exact Ev.now _
          · simp only [h1, h2, h3, h4, h5, if_false, Option.isSome_none]
            exact Ev.now _
theorem ev_tok1 (x : S) : Ev (fun k => swardref02_Token.j0 k true x.f0 x.f1 x.f2 x.f3) false := by
  refine Ev.succ ?_
  simp only [swardref02_Token.j0, if_true]
  exact Ev.now _
theorem ev_Token (x : S) : Ev (fun k => swardref02_Token.f k x.f0 x.f1 x.f2 x.f3) (tokenB x) := by
  by_cases hx : x.f3 < 0 ∨ 4000 < x.f3 ∨ (x.f0 ≠ 3 ∧ x.f2 ≠ 0)
  · have hf : tokenB x = false := by
      unfold tokenB Lx.pieceOf
      rw [if_pos (show (sT x).f3 < 0 ∨ 4000 < (sT x).f3 ∨ ((sT x).f0 ≠ 3 ∧ (sT x).f2 ≠ 0) from hx)]
      rfl
    rw [hf]
    unfold swardref02_Token.f
    by_cases h1 : x.f3 < 0
    · simp only [h1, if_true]
      exact ev_tok1 x
    · by_cases h2 : x.f3 > 4000
      · simp only [h1, h2, if_true, if_false]
        exact ev_tok1 x
      · have h3 : ¬ x.f0 = 3 := by omega
        have h4 : (x.f2 != 0) = true := by rw [bne_iff_ne]; omega
        simp only [h1, h2, h3, h4, if_false]
        exact ev_tok1 x
  · have h1 : ¬ x.f3 < 0 := by omega
    have h2 : ¬ x.f3 > 4000 := by omega
    unfold swardref02_Token.f
    by_cases h3 : x.f0 = 3
    · simp only [h1, h2, h3, if_true, if_false]
      rw [← h3]
      exact ev_tok0 x hx
    · have h4 : (x.f2 != 0) = false := by
        have : x.f2 = 0 := by omega
        rw [this]; rfl
      simp only [h1, h2, h3, h4, if_false]
      exact ev_tok0 x hx
theorem ev_All_l (xs : List S) (hx : xs.length ≤ 1000000000000000) : ∀ (n i : Nat), i ≤ xs.length → xs.length - i = n → Ev (fun k => swardref02_All.l0 k xs i) ((xs.drop i).all tokenB) := by
  intro n
  induction n with
  | zero =>
    intro i hi hn
    have h1 : ¬ ((i : Int) < (xs.length : Int)) := by omega
    have he : xs.drop i = [] := List.drop_of_length_le (by omega)
    rw [he]
    refine Ev.succ ?_
    simp only [swardref02_All.l0, h1, if_false]
    exact Ev.now _
  | succ n ih =>
    intro i hi hn
    have hlt : i < xs.length := by omega
    have ih0 := ih (i + 1) (by omega) (by omega)
    have h1 : (i : Int) < (xs.length : Int) := by omega
    have h2 : (0 : Int) ≤ (i : Int) := Int.natCast_nonneg _
    have hw := wrap_succ i (by omega)
    rw [List.drop_eq_getElem_cons hlt, List.all_cons]
    refine Ev.succ ?_
    simp only [swardref02_All.l0, h1, h2, if_true, rd_S xs i hlt, hw]
    refine Ev.bind (f := fun k (t : Bool) => if t = true then swardref02_All.l0 k xs ((i + 1 : Nat) : Int) else some false) (ev_Token xs[i]) ?_
    cases hb : tokenB xs[i]
    · simp only [Bool.false_eq_true, if_false, Bool.false_and]
      exact Ev.now _
    · simp only [if_true, Bool.true_and]
      exact ih0
theorem ev_All (xs : List S) (hx : xs.length ≤ 1000000000000000) : Ev (fun k => swardref02_All.f k xs) (xs.all tokenB) := by
  have := ev_All_l xs hx _ 0 (Nat.zero_le _) rfl
  rw [List.drop_zero] at this
  exact this
def fewB (xs : List S) : Bool := (xs.take 61).all (fun x => decide (x.f1.size ≤ 40)) && decide (xs.length ≤ 60)
theorem ev_few_l (xs : List S) : ∀ (n i : Nat), i ≤ 61 → 61 - i = n → Ev (fun k => swardlaw02_few.l0 k xs i) (((xs.take 61).drop i).all (fun x => decide (x.f1.size ≤ 40)) && decide (xs.length ≤ 60)) := by
  have hz : decide ((xs.length : Int) ≤ 60) = decide (xs.length ≤ 60) := by rw [decide_eq_decide]; omega
  intro n
  induction n with
  | zero =>
    intro i hi hn
    have he : (xs.take 61).drop i = [] := List.drop_of_length_le (by rw [List.length_take]; omega)
    have h6 : decide ((i : Int) < 61) = false := decide_eq_false (by omega)
    rw [he, List.all_nil, Bool.true_and]
    refine Ev.succ ?_
    simp only [swardlaw02_few.l0, h6, ite_self]
    refine Ev.succ ?_
    simp only [swardlaw02_few.j1, Bool.false_eq_true, if_false, hz]
    exact Ev.now _
  | succ n ih =>
    intro i hi hn
    have ih0 := ih (i + 1) (by omega) (by omega)
    by_cases hlt : i < xs.length
    · have h1 : (i : Int) < (xs.length : Int) := by omega
      have h2 : (0 : Int) ≤ (i : Int) := Int.natCast_nonneg _
      have h6 : decide ((i : Int) < 61) = true := decide_eq_true (by omega)
      have hw := wrap_succ i (by omega)
      have hlt2 : i < (xs.take 61).length := by rw [List.length_take]; omega
      have hg : (xs.take 61)[i] = xs[i] := List.getElem_take
      rw [List.drop_eq_getElem_cons hlt2, List.all_cons, hg]
      refine Ev.succ ?_
      simp only [swardlaw02_few.l0, h1, h6, if_true]
      refine Ev.succ ?_
      simp only [swardlaw02_few.j1, h1, h2, if_true, rd_S xs i hlt, hw]
      by_cases h40 : xs[i].f1.size ≤ 40
      · have c40 : ¬ ((xs[i].f1.size : Int) > 40) := by omega
        simp only [c40, if_false, decide_eq_true h40, Bool.true_and]
        exact ih0
      · have c40 : (xs[i].f1.size : Int) > 40 := by omega
        simp only [c40, if_true, decide_eq_false h40, Bool.false_and]
        exact Ev.now _
    · have h1 : ¬ ((i : Int) < (xs.length : Int)) := by omega
      have he : (xs.take 61).drop i = [] := List.drop_of_length_le (by rw [List.length_take]; omega)
      rw [he, List.all_nil, Bool.true_and]
      refine Ev.succ ?_
      simp only [swardlaw02_few.l0, h1, if_false]
      refine Ev.succ ?_
      simp only [swardlaw02_few.j1, Bool.false_eq_true, if_false, hz]
      exact Ev.now _
theorem ev_few (xs : List S) : Ev (fun k => swardlaw02_few.f k xs) (fewB xs) := by
  have := ev_few_l xs _ 0 (Nat.zero_le _) rfl
  rw [List.drop_zero] at this
  exact this
theorem fewB_iff (xs : List S) (h : fewB xs = true) : xs.length ≤ 60 ∧ ∀ x ∈ xs, x.f1.size ≤ 40 := by
  unfold fewB at h
  rw [Bool.and_eq_true, decide_eq_true_iff, List.all_eq_true] at h
  obtain ⟨h1, h2⟩ := h
  rw [List.take_of_length_le (by omega)] at h1
  exact ⟨h2, fun x hx => by simpa using h1 x hx⟩
end Go.Proofs.YtkijoeihkajlcaaDoor.PAll

set_option linter.unusedVariables false
set_option linter.unusedSimpArgs false
namespace Go.Proofs.YtkijoeihkajlcaaDoor.PAll
open Go.RowKit Go.Shelf
open Go.Proofs.YtkijoeihkajlcaaDoorW.PrintWords

theorem num_len (N : Int) (h : -1000000000 ≤ N ∧ N ≤ 1000000000) : (Lx.spelled (.num N)).length ≤ 11 := by
  have hd : ∀ u : Nat, u ≤ 1000000000 → (Lib.decDigits u).length ≤ 10 := by
    intro u hu
    rw [Lib.decDigits_length]
    exact nd_le 10 u (by omega) (by omega)
  by_cases h0 : N < 0
  · rw [Lx.spelled_neg N h0]
    have := hd (-N).toNat (by omega)
    simp; omega
  · rw [Lx.spelled_nat N h0]
    have := hd N.toNat (by omega)
    omega
theorem token_num (N : Int) : tokenB ⟨3, ⟨#[]⟩, N, 0⟩ = decide (-1000000000 ≤ N ∧ N ≤ 1000000000) := by
  unfold tokenB Lx.pieceOf sT
  simp only
  rw [if_neg (by omega)]
  by_cases h : -1000000000 ≤ N ∧ N ≤ 1000000000
  · simp [h]
  · rw [decide_eq_false h]
    simp [h]
theorem word_num (N : Int) (h : -1000000000 ≤ N ∧ N ≤ 1000000000) : Lx.word ⟨3, ⟨#[]⟩, N, 0⟩ = (Lx.spelled (.num N), 0) := Lx.word_good 0 (.num N) h (by omega)
/-- The two boxes of tokens behind a call. -/
theorem two_cells {w W : World} {a0 a1 a2 a3 b0 b1 b2 b3 : Value} {t : TypeId} (hb : Below ((w.alloc (.cells #[a0, a1, a2, a3] t (0, 0))).alloc (.cells #[b0, b1, b2, b3] t (0, 0))).heap.size ((w.alloc (.cells #[a0, a1, a2, a3] t (0, 0))).alloc (.cells #[b0, b1, b2, b3] t (0, 0))) W) :
    (W.cell? ⟨w.heap.size, 0, none⟩ = some a0 ∧ W.cell? ⟨w.heap.size, 1, none⟩ = some a1 ∧ W.cell? ⟨w.heap.size, 2, none⟩ = some a2 ∧ W.cell? ⟨w.heap.size, 3, none⟩ = some a3) ∧
    (W.cell? ⟨w.heap.size + 1, 0, none⟩ = some b0 ∧ W.cell? ⟨w.heap.size + 1, 1, none⟩ = some b1 ∧ W.cell? ⟨w.heap.size + 1, 2, none⟩ = some b2 ∧ W.cell? ⟨w.heap.size + 1, 3, none⟩ = some b3) := by
  have h1 : W.heap[w.heap.size]? = some (.cells #[a0, a1, a2, a3] t (0, 0)) := by
    rw [hb.block _ (by simp; omega)]
    exact (((Below.refl (w.alloc (.cells #[a0, a1, a2, a3] t (0, 0))).heap.size (w.alloc (.cells #[a0, a1, a2, a3] t (0, 0)))).alloc (Nat.le_refl _) _).block _ (by simp)).trans (blk_new w _)
  have h2 : W.heap[w.heap.size + 1]? = some (.cells #[b0, b1, b2, b3] t (0, 0)) := (hb.block _ (by simp)).trans (new_two w _ _)
  exact ⟨⟨blk_cell h1 0, blk_cell h1 1, blk_cell h1 2, blk_cell h1 3⟩, blk_cell h2 0, blk_cell h2 1, blk_cell h2 2, blk_cell h2 3⟩

theorem cell_flat {W : World} {p : Addr} {v : Value} (h : W.cell? p = some v) : W.cell? ⟨p.block, p.off, none⟩ = some v := by
  have hs := World.cell?_spot h
  obtain ⟨b, o, s⟩ := p
  simp only at hs
  subst hs
  exact h
/-- The cells of a token in a list. -/
theorem tok_cells {W : World} {ad : Addr} {n : Nat} {xs : List Tk} (h : Kd.C kTk W (some ad) n xs) (i j : Nat) (hj : j = i * 4) (hi : i < n) {k N p : Int} {T : ByteArray} (ht : xs.getD i zTk = ⟨k, T, N, p⟩) :
    W.cell? (ad.add j) = some (.int .i64 k) ∧ W.cell? ⟨(ad.add j).block, (ad.add j).off + 1, none⟩ = some (.string T) ∧ W.cell? ⟨(ad.add j).block, (ad.add j).off + 2, none⟩ = some (.int .i64 N) ∧ W.cell? ⟨(ad.add j).block, (ad.add j).off + 3, none⟩ = some (.int .i64 p) := by
  obtain ⟨ad', e, d0, d1, d2, d3⟩ := at_Tk h (i : Int) (by omega) (by omega)
  cases e
  simp only [Int.toNat_natCast] at d0 d1 d2 d3
  rw [ht] at d0 d1 d2 d3
  subst hj
  exact ⟨d0, d1, d2, d3⟩

theorem tok_cells0 {W : World} {ad : Addr} {n : Nat} {xs : List Tk} (h : Kd.C kTk W (some ad) n xs) (hi : 0 < n) {k N p : Int} {T : ByteArray} (ht : xs.getD 0 zTk = ⟨k, T, N, p⟩) :
    W.cell? ad = some (.int .i64 k) ∧ W.cell? ⟨ad.block, ad.off + 1, none⟩ = some (.string T) ∧ W.cell? ⟨ad.block, ad.off + 2, none⟩ = some (.int .i64 N) ∧ W.cell? ⟨ad.block, ad.off + 3, none⟩ = some (.int .i64 p) := by
  have h0 := tok_cells h 0 0 rfl hi ht
  have e : ad.add 0 = ad := by unfold Addr.add; split <;> simp_all
  rw [e] at h0
  exact h0

theorem tok_cells4 {W : World} {ad : Addr} {n : Nat} {xs : List Tk} (h : Kd.C kTk W (some ad) n xs) (hi : 1 < n) {k N p : Int} {T : ByteArray} (ht : xs.getD 1 zTk = ⟨k, T, N, p⟩) :
    W.cell? ⟨ad.block, ad.off + 4, none⟩ = some (.int .i64 k) ∧ W.cell? ⟨ad.block, ad.off + 4 + 1, none⟩ = some (.string T) ∧ W.cell? ⟨ad.block, ad.off + 5, none⟩ = some (.string T) := by
  obtain ⟨h0, h1, _⟩ := tok_cells h 1 4 rfl hi ht
  exact ⟨h0, h1, h1⟩
theorem tok_cells8 {W : World} {ad : Addr} {n : Nat} {xs : List Tk} (h : Kd.C kTk W (some ad) n xs) (hi : 2 < n) {k N p : Int} {T : ByteArray} (ht : xs.getD 2 zTk = ⟨k, T, N, p⟩) :
    W.cell? ⟨ad.block, ad.off + 8, none⟩ = some (.int .i64 k) ∧ (W.cell? ⟨ad.block, ad.off + 8 + 1, none⟩ = some (.string T) ∧ W.cell? ⟨ad.block, ad.off + 9, none⟩ = some (.string T)) ∧ (W.cell? ⟨ad.block, ad.off + 8 + 2, none⟩ = some (.int .i64 N) ∧ W.cell? ⟨ad.block, ad.off + 10, none⟩ = some (.int .i64 N)) ∧ (W.cell? ⟨ad.block, ad.off + 8 + 3, none⟩ = some (.int .i64 p) ∧ W.cell? ⟨ad.block, ad.off + 11, none⟩ = some (.int .i64 p)) := by
  obtain ⟨h0, h1, h2, h3⟩ := tok_cells h 2 8 rfl hi ht
  exact ⟨h0, ⟨h1, h1⟩, ⟨h2, h2⟩, h3, h3⟩

set_option maxRecDepth 100000 in
set_option maxHeartbeats 8000000 in
theorem LexMinus_law (a b : Int) (haw : (Lit.int .i64 a).wf = true) (hbw : (Lit.int .i64 b).wf = true) (w : World) (hL : Laid w) :
    Calls Tryd.prog 7 #[.int .i64 a, .int .i64 b] w fun e w' => e = .returned (.bool true) ∧ Below w.heap.size w w' := by
  have hkn := Lib.hid (fun w' (h : Laid w') => known_calls w' h)
  have hBa := Lib.hid (below_two w (.cells #[.int .i64 3, .string ⟨#[]⟩, .int .i64 a, .int .i64 0] 37 (0, 0)) (.cells #[.int .i64 3, .string ⟨#[]⟩, .int .i64 b, .int .i64 0] 37 (0, 0)))
  obtain ⟨ka, hTa⟩ := (ev_Token ⟨3, ⟨#[]⟩, a, 0⟩).rounds
  obtain ⟨kb, hTb⟩ := (ev_Token ⟨3, ⟨#[]⟩, b, 0⟩).rounds
  rw [token_num] at hTa hTb
  have hTac := Lib.hid (fun W => swardref02_Token.calls ka 3 ⟨#[]⟩ a 0 _ W hTa)
  have hTbc := Lib.hid (fun W => swardref02_Token.calls kb 3 ⟨#[]⟩ b 0 _ W hTb)
  clear hTa hTb
  by_cases ca : -1000000000 ≤ a ∧ a ≤ 1000000000
  · rw [decide_eq_true ca] at hTac
    by_cases cb : -1000000000 ≤ b ∧ b ≤ 1000000000
    · rw [decide_eq_true cb] at hTbc
      have hWa := fun W hW => Word_calls ⟨3, ⟨#[]⟩, a, 0⟩ (by show 0 ≤ 4000; omega) W hW
      have hWb := fun W hW => Word_calls ⟨3, ⟨#[]⟩, b, 0⟩ (by show 0 ≤ 4000; omega) W hW
      rw [word_num a ca] at hWa
      rw [word_num b cb] at hWb
      simp only [tokCs] at hWa hWb
      have hla := num_len a ca
      have hlb := num_len b cb
      have hinj := Lx.num_inj a b ca cb
      have hr1 := Lx.read_one (.num a) ca
      have hr2 := Lx.read_minus a b ca cb
      obtain ⟨sa, hsa⟩ : ∃ sa, sa = bsOf (Lx.spelled (.num a)) := ⟨_, rfl⟩
      obtain ⟨sb, hsb⟩ : ∃ sb, sb = bsOf (Lx.spelled (.num b)) := ⟨_, rfl⟩
      have hva : strV (Lx.spelled (.num a)) = .string sa := by rw [hsa]; rfl
      have hvb : strV (Lx.spelled (.num b)) = .string sb := by rw [hsb]; rfl
      have hza : sa.size ≤ 11 := by rw [hsa, bsOf_size]; exact hla
      have hzb : sb.size ≤ 11 := by rw [hsb, bsOf_size]; exact hlb
      have hda : sa.data.toList = Lx.spelled (.num a) := by rw [hsa]; simp [bsOf]
      have hdb : sb.data.toList = Lx.spelled (.num b) := by rw [hsb]; simp [bsOf]
      obtain ⟨q, hq1, hq2⟩ : ∃ q, (sa.toList == sb.toList) = q ∧ (a == b) = q := by
        refine ⟨_, ?_, rfl⟩
        rw [Bool.eq_iff_iff, beq_iff_eq, beq_iff_eq, bs_toList, bs_toList, hda, hdb]
        exact ⟨hinj, fun h => by rw [h]⟩
      rw [hva] at hWa
      rw [hvb] at hWb
      have hT1 := Lib.hid (fun W hW => Tokens_calls sa W hW [(0, .num a)] 0 (by unfold Lx.toks; rw [hda, hr1, if_neg (by omega)]))
      have hT2 := Lib.hid (fun W hW => Tokens_calls (sa ++ ⟨#[45]⟩ ++ sb) W hW [(0, .num a), ((Lx.spelled (.num a)).length, .sgn [45]), ((Lx.spelled (.num a)).length + 1, .num b)] 0 (by
        have e : (sa ++ (⟨#[45]⟩ : ByteArray) ++ sb).data.toList = Lx.spelled (.num a) ++ 45 :: Lx.spelled (.num b) := by rw [← hda, ← hdb]; simp
        unfold Lx.toks
        rw [e, hr2, if_neg (by rw [List.length_append, List.length_cons]; omega)]))
      have hLa := Lib.hid (fun W => swardref02_Like.calls 3 ⟨#[]⟩ a 0 3 ⟨#[]⟩ a 0 true W (by unfold swardref02_Like.f; rw [if_pos rfl, if_pos rfl, beq_self_eq_true]))
      have hLb := Lib.hid (fun p W => swardref02_Like.calls 3 ⟨#[]⟩ b p 3 ⟨#[]⟩ b 0 true W (by unfold swardref02_Like.f; rw [if_pos rfl, if_pos rfl, beq_self_eq_true]))
      obtain ⟨x1, hx1⟩ : ∃ x1, x1 = [((0 : Nat), Lx.Piece.num a)].map tokS := ⟨_, rfl⟩
      obtain ⟨x2, hx2⟩ : ∃ x2, x2 = [((0 : Nat), Lx.Piece.num a), ((Lx.spelled (.num a)).length, .sgn [45]), ((Lx.spelled (.num a)).length + 1, .num b)].map tokS := ⟨_, rfl⟩
      have hl1 : x1.length = 1 := by rw [hx1]; rfl
      have hl2 : x2.length = 3 := by rw [hx2]; rfl
      obtain ⟨pa, hpa⟩ : ∃ pa : Int, pa = ((Lx.spelled (.num a)).length : Nat) := ⟨_, rfl⟩
      obtain ⟨pb, hpb⟩ : ∃ pb : Int, pb = (((Lx.spelled (.num a)).length + 1 : Nat) : Int) := ⟨_, rfl⟩
      have g0 : x1.getD 0 zTk = ⟨3, ⟨#[]⟩, a, 0⟩ := by rw [hx1]; rfl
      have m0 : x2.getD 0 zTk = ⟨3, ⟨#[]⟩, a, 0⟩ := by rw [hx2]; rfl
      have m1 : x2.getD 1 zTk = ⟨5, ⟨#[45]⟩, 0, pa⟩ := by rw [hx2, hpa]; rfl
      have m2 : x2.getD 2 zTk = ⟨3, ⟨#[]⟩, b, pb⟩ := by rw [hx2, hpb]; rfl
      rw [← hx1] at hT1
      rw [← hx2] at hT2
      replace hWa := Lib.hid hWa
      replace hWb := Lib.hid hWb
      replace g0 := Lib.hid g0
      replace m0 := Lib.hid m0
      replace m1 := Lib.hid m1
      replace m2 := Lib.hid m2
      clear ca cb hla hlb hinj hr1 hr2 hsa hsb hva hvb hda hdb hx1 hx2 hpa hpb haw hbw
      go_enter Tryd.func7, Tryd.ntmps7
      go_wp2_with fail
      refine (hTac.out _).mono ?_
      rintro e w1 ⟨rfl, hb1⟩
      have hB1 := Lib.hid (Go.Proofs.YtkijoeihkajlcaaDoor.below_then hBa.out hb1 (Nat.le_refl _))
      obtain ⟨⟨c0, c1, c2, c3⟩, d0, d1, d2, d3⟩ := two_cells hb1
      replace hb1 := Lib.hid hb1
      go_wp2_with fail
      refine (hTbc.out _).mono ?_
      rintro e w2 ⟨rfl, hb⟩
      have hB2 := Lib.hid (Go.Proofs.YtkijoeihkajlcaaDoor.below_then hB1.out hb (Nat.le_refl _))
      have hb2 := Lib.hid (Go.Proofs.YtkijoeihkajlcaaDoor.below_then hb1.out hb (Nat.le_refl _))
      clear hb c0 c1 c2 c3 d0 d1 d2 d3
      obtain ⟨⟨c0, c1, c2, c3⟩, d0, d1, d2, d3⟩ := two_cells hb2.out
      go_wp2_with fail
      refine (hWa.out _ (hL.below hB2.out)).mono ?_
      rintro e w3 ⟨rfl, hb⟩
      have hB3 := Lib.hid (Go.Proofs.YtkijoeihkajlcaaDoor.below_then hB2.out hb (Nat.le_refl _))
      have hb3 := Lib.hid (Go.Proofs.YtkijoeihkajlcaaDoor.below_then hb2.out hb (Nat.le_refl _))
      clear hb c0 c1 c2 c3 d0 d1 d2 d3
      obtain ⟨⟨c0, c1, c2, c3⟩, d0, d1, d2, d3⟩ := two_cells hb3.out
      go_wp2_with fail
      refine (hWb.out _ (hL.below hB3.out)).mono ?_
      rintro e w4 ⟨rfl, hb⟩
      have hB4 := Lib.hid (Go.Proofs.YtkijoeihkajlcaaDoor.below_then hB3.out hb (Nat.le_refl _))
      have hb4 := Lib.hid (Go.Proofs.YtkijoeihkajlcaaDoor.below_then hb3.out hb (Nat.le_refl _))
      clear hb c0 c1 c2 c3 d0 d1 d2 d3
      go_wp2_with fail
      refine (hT1.out _ (hL.below hB4.out)).mono ?_
      rintro e w5 ⟨⟨tk1, rfl, ho⟩, hb⟩
      have hB5 := Lib.hid (Go.Proofs.YtkijoeihkajlcaaDoor.below_then hB4.out hb (Nat.le_refl _))
      have hb5 := Lib.hid (Go.Proofs.YtkijoeihkajlcaaDoor.below_then hb4.out hb (Nat.le_refl _))
      obtain ⟨A1, k1, rfl, hk1, hr1⟩ := Kd.R_reads ho.R
      replace hr1 := Lib.hid hr1
      clear hb ho
      go_wp2_with fail
      refine (hT2.out _ (hL.below hB5.out)).mono ?_
      rintro e w6 ⟨⟨tk2, rfl, ho⟩, hb⟩
      have hB6 := Lib.hid (Go.Proofs.YtkijoeihkajlcaaDoor.below_then hB5.out hb (Nat.le_refl _))
      have hb6 := Lib.hid (Go.Proofs.YtkijoeihkajlcaaDoor.below_then hb5.out hb (Nat.le_refl _))
      obtain ⟨A2, k2, rfl, hk2, hr2⟩ := Kd.R_reads ho.R
      replace hr1 := Lib.hid (Kd.C_below hr1.out hb)
      replace hr2 := Lib.hid hr2
      clear hb ho
      obtain ⟨ad1, rfl, _⟩ := at_Tk hr1.out 0 (by omega) (by omega)
      obtain ⟨ad2, rfl, _⟩ := at_Tk hr2.out 0 (by omega) (by omega)
      have hcells := Lib.hid (fun (W : World) (hW : Below w6.heap.size w6 W) => (⟨two_cells (Go.Proofs.YtkijoeihkajlcaaDoor.below_then hb6.out hW (Nat.le_refl _)), tok_cells0 (Kd.C_below hr1.out hW) (by omega) g0.out, tok_cells0 (Kd.C_below hr2.out hW) (by omega) m0.out, tok_cells4 (Kd.C_below hr2.out hW) (by omega) m1.out, tok_cells8 (Kd.C_below hr2.out hW) (by omega) m2.out⟩ : _ ∧ _ ∧ _ ∧ _ ∧ _))
      have hmk := Lib.hid (fun (W' : World) (hW : Below w6.heap.size w6 W') => (by
        obtain ⟨⟨⟨c0, c1, c2, c3⟩, d0, d1, d2, d3⟩, ⟨e0, e1, e2, e3⟩, ⟨f0, f1, f2, f3⟩, ⟨h0, h1, h2⟩, i0, ⟨i1, i2⟩, ⟨i3, i4⟩, i5, i6⟩ := hcells.out W' hW
        exact ⟨hW, c0, c1, c2, c3, d0, d1, d2, d3, e0, e1, e2, e3, f0, f1, f2, f3, h0, h1, h2, i0, i1, i2, i3, i4, i5, i6⟩ : Below w6.heap.size w6 W' ∧ W'.cell? ⟨w.heap.size, 0, none⟩ = some (.int .i64 3) ∧ W'.cell? ⟨w.heap.size, 1, none⟩ = some (.string ⟨#[]⟩) ∧ W'.cell? ⟨w.heap.size, 2, none⟩ = some (.int .i64 a) ∧ W'.cell? ⟨w.heap.size, 3, none⟩ = some (.int .i64 0) ∧ W'.cell? ⟨w.heap.size + 1, 0, none⟩ = some (.int .i64 3) ∧ W'.cell? ⟨w.heap.size + 1, 1, none⟩ = some (.string ⟨#[]⟩) ∧ W'.cell? ⟨w.heap.size + 1, 2, none⟩ = some (.int .i64 b) ∧ W'.cell? ⟨w.heap.size + 1, 3, none⟩ = some (.int .i64 0) ∧ W'.cell? ad1 = some (.int .i64 3) ∧ W'.cell? ⟨ad1.block, ad1.off + 1, none⟩ = some (.string ⟨#[]⟩) ∧ W'.cell? ⟨ad1.block, ad1.off + 2, none⟩ = some (.int .i64 a) ∧ W'.cell? ⟨ad1.block, ad1.off + 3, none⟩ = some (.int .i64 0) ∧ W'.cell? ad2 = some (.int .i64 3) ∧ W'.cell? ⟨ad2.block, ad2.off + 1, none⟩ = some (.string ⟨#[]⟩) ∧ W'.cell? ⟨ad2.block, ad2.off + 2, none⟩ = some (.int .i64 a) ∧ W'.cell? ⟨ad2.block, ad2.off + 3, none⟩ = some (.int .i64 0) ∧ W'.cell? ⟨ad2.block, ad2.off + 4, none⟩ = some (.int .i64 5) ∧ W'.cell? ⟨ad2.block, ad2.off + 4 + 1, none⟩ = some (.string ⟨#[45]⟩) ∧ W'.cell? ⟨ad2.block, ad2.off + 5, none⟩ = some (.string ⟨#[45]⟩) ∧ W'.cell? ⟨ad2.block, ad2.off + 8, none⟩ = some (.int .i64 3) ∧ W'.cell? ⟨ad2.block, ad2.off + 8 + 1, none⟩ = some (.string ⟨#[]⟩) ∧ W'.cell? ⟨ad2.block, ad2.off + 9, none⟩ = some (.string ⟨#[]⟩) ∧ W'.cell? ⟨ad2.block, ad2.off + 8 + 2, none⟩ = some (.int .i64 b) ∧ W'.cell? ⟨ad2.block, ad2.off + 10, none⟩ = some (.int .i64 b) ∧ W'.cell? ⟨ad2.block, ad2.off + 8 + 3, none⟩ = some (.int .i64 pb) ∧ W'.cell? ⟨ad2.block, ad2.off + 11, none⟩ = some (.int .i64 pb)))
      clear hcells hT1 hT2 hWa hWb hTac hTbc hza hzb hq1 hq2 hb1 hb2 hb3 hb4 hb5 hb6 hr1 hr2 hBa hB1 hB2 hB3 hB4 hB5 g0 m0 m1 m2 hk1 hk2
      go_wp2_with fail
      go_region_held3 (fun W' => Below w6.heap.size w6 W' ∧ W'.cell? ⟨w.heap.size, 0, none⟩ = some (.int .i64 3) ∧ W'.cell? ⟨w.heap.size, 1, none⟩ = some (.string ⟨#[]⟩) ∧ W'.cell? ⟨w.heap.size, 2, none⟩ = some (.int .i64 a) ∧ W'.cell? ⟨w.heap.size, 3, none⟩ = some (.int .i64 0) ∧ W'.cell? ⟨w.heap.size + 1, 0, none⟩ = some (.int .i64 3) ∧ W'.cell? ⟨w.heap.size + 1, 1, none⟩ = some (.string ⟨#[]⟩) ∧ W'.cell? ⟨w.heap.size + 1, 2, none⟩ = some (.int .i64 b) ∧ W'.cell? ⟨w.heap.size + 1, 3, none⟩ = some (.int .i64 0) ∧ W'.cell? ad1 = some (.int .i64 3) ∧ W'.cell? ⟨ad1.block, ad1.off + 1, none⟩ = some (.string ⟨#[]⟩) ∧ W'.cell? ⟨ad1.block, ad1.off + 2, none⟩ = some (.int .i64 a) ∧ W'.cell? ⟨ad1.block, ad1.off + 3, none⟩ = some (.int .i64 0) ∧ W'.cell? ad2 = some (.int .i64 3) ∧ W'.cell? ⟨ad2.block, ad2.off + 1, none⟩ = some (.string ⟨#[]⟩) ∧ W'.cell? ⟨ad2.block, ad2.off + 2, none⟩ = some (.int .i64 a) ∧ W'.cell? ⟨ad2.block, ad2.off + 3, none⟩ = some (.int .i64 0) ∧ W'.cell? ⟨ad2.block, ad2.off + 4, none⟩ = some (.int .i64 5) ∧ W'.cell? ⟨ad2.block, ad2.off + 4 + 1, none⟩ = some (.string ⟨#[45]⟩) ∧ W'.cell? ⟨ad2.block, ad2.off + 5, none⟩ = some (.string ⟨#[45]⟩) ∧ W'.cell? ⟨ad2.block, ad2.off + 8, none⟩ = some (.int .i64 3) ∧ W'.cell? ⟨ad2.block, ad2.off + 8 + 1, none⟩ = some (.string ⟨#[]⟩) ∧ W'.cell? ⟨ad2.block, ad2.off + 9, none⟩ = some (.string ⟨#[]⟩) ∧ W'.cell? ⟨ad2.block, ad2.off + 8 + 2, none⟩ = some (.int .i64 b) ∧ W'.cell? ⟨ad2.block, ad2.off + 10, none⟩ = some (.int .i64 b) ∧ W'.cell? ⟨ad2.block, ad2.off + 8 + 3, none⟩ = some (.int .i64 pb) ∧ W'.cell? ⟨ad2.block, ad2.off + 11, none⟩ = some (.int .i64 pb))
        (first
          | exact hmk.out _ (by assumption)
          | exact hmk.out _ ⟨(Below.refl w6.heap.size w6).os, (Below.refl w6.heap.size w6).tape, (Below.refl w6.heap.size w6).output, (Below.refl w6.heap.size w6).size, (Below.refl w6.heap.size w6).block⟩)
        (first
          | (go_at_call 25; (with_reducible refine (hLa.out _).mono ?_); rintro e w7 ⟨rfl, hb⟩; have hbw := fun h => Go.Proofs.YtkijoeihkajlcaaDoor.below_then (B := w6.heap.size) (w := w6) h hb (Nat.le_refl _); specialize hbw (by first | assumption | exact ⟨(Below.refl w6.heap.size w6).os, (Below.refl w6.heap.size w6).tape, (Below.refl w6.heap.size w6).output, (Below.refl w6.heap.size w6).size, (Below.refl w6.heap.size w6).block⟩); clear hb)
          | (go_at_call 25; (with_reducible refine (hLb.out pb _).mono ?_); rintro e w7 ⟨rfl, hb⟩; have hbw := fun h => Go.Proofs.YtkijoeihkajlcaaDoor.below_then (B := w6.heap.size) (w := w6) h hb (Nat.le_refl _); specialize hbw (by first | assumption | exact ⟨(Below.refl w6.heap.size w6).os, (Below.refl w6.heap.size w6).tape, (Below.refl w6.heap.size w6).output, (Below.refl w6.heap.size w6).size, (Below.refl w6.heap.size w6).block⟩); clear hb)
          | (go_at_call 10; refine (hkn.out _ ?hl).mono ?_; (case hl => exact hL.below (Go.Proofs.YtkijoeihkajlcaaDoor.below_then hB6.out (show Below w6.heap.size w6 _ from by first | assumption | exact ⟨(Below.refl w6.heap.size w6).os, (Below.refl w6.heap.size w6).tape, (Below.refl w6.heap.size w6).output, (Below.refl w6.heap.size w6).size, (Below.refl w6.heap.size w6).block⟩) (by have := hB6.out.size; omega))); rintro e w7 ⟨rfl, hb⟩; have hbw := fun h => Go.Proofs.YtkijoeihkajlcaaDoor.below_then (B := w6.heap.size) (w := w6) h hb (Nat.le_refl _); specialize hbw (by first | assumption | exact ⟨(Below.refl w6.heap.size w6).os, (Below.refl w6.heap.size w6).tape, (Below.refl w6.heap.size w6).output, (Below.refl w6.heap.size w6).size, (Below.refl w6.heap.size w6).block⟩); clear hb))
      all_goals
        go_wp2
        go_ret
        exact ⟨rfl, Go.Proofs.YtkijoeihkajlcaaDoor.below_then hB6.out (by assumption) (by have := hB6.out.size; omega)⟩
    · rw [decide_eq_false cb] at hTbc
      clear ca cb
      go_enter Tryd.func7, Tryd.ntmps7
      go_wp2_with fail
      refine (hTac.out _).mono ?_
      rintro e w1 ⟨rfl, hb⟩
      have hB1 := Lib.hid (Go.Proofs.YtkijoeihkajlcaaDoor.below_then hBa.out hb (Nat.le_refl _))
      obtain ⟨⟨x0, x1, x2, x3⟩, y0, y1, y2, y3⟩ := two_cells hb
      clear hb
      go_wp2_with fail
      refine (hTbc.out _).mono ?_
      rintro e w2 ⟨rfl, hb⟩
      have hB2 := Lib.hid (Go.Proofs.YtkijoeihkajlcaaDoor.below_then hB1.out hb (Nat.le_refl _))
      clear hb
      go_wp2_with fail
      refine (hkn.out _ (hL.below hB2.out)).mono ?_
      rintro e w3 ⟨rfl, hb⟩
      have hB3 := Lib.hid (Go.Proofs.YtkijoeihkajlcaaDoor.below_then hB2.out hb (Nat.le_refl _))
      clear hb
      go_wp2
      go_ret
      exact ⟨rfl, hB3.out⟩
  · rw [decide_eq_false ca] at hTac
    clear ca
    go_enter Tryd.func7, Tryd.ntmps7
    go_wp2_with fail
    refine (hTac.out _).mono ?_
    rintro e w1 ⟨rfl, hb⟩
    have hB1 := Lib.hid (Go.Proofs.YtkijoeihkajlcaaDoor.below_then hBa.out hb (Nat.le_refl _))
    clear hb
    go_wp2_with fail
    refine (hkn.out _ (hL.below hB1.out)).mono ?_
    rintro e w2 ⟨rfl, hb⟩
    have hB2 := Lib.hid (Go.Proofs.YtkijoeihkajlcaaDoor.below_then hB1.out hb (Nat.le_refl _))
    clear hb
    go_wp2
    go_ret
    exact ⟨rfl, hB2.out⟩
end Go.Proofs.YtkijoeihkajlcaaDoor.PAll

set_option linter.unusedVariables false
set_option linter.unusedSimpArgs false
namespace Go.Proofs.YtkijoeihkajlcaaDoor
open Go.ChangeShapes Go.WideShapes Go.ChangeAt Go.RowKit Go.ChangeMaps

theorem ownK : ownKnob Tryd.prog.godebug = none := by kernel_rfl
def laidL : List (String × DataW Unit) := [("math/bits.deBruijn32tab", Rows.laid_math_bits_deBruijn32tab), ("math/bits.deBruijn64tab", Rows.laid_math_bits_deBruijn64tab), ("internal/strconv.uint64pow10", Rows.laid_internal_strconv_uint64pow10), ("unicode.White_Space", Rows.laid_unicode_White_Space), ("strings.asciiSpace", Rows.laid_strings_asciiSpace)]
theorem laid_of_met {W : World} (h : laidMetH Tryd.prog laidL W) : Laid W := by
  rw [MakeChecks.laidMetH_plain _ _ _ (by kernel_rfl)] at h
  have h3 := (show laidMet Tryd.prog [("internal/strconv.uint64pow10", Rows.laid_internal_strconv_uint64pow10), ("unicode.White_Space", Rows.laid_unicode_White_Space), ("strings.asciiSpace", Rows.laid_strings_asciiSpace)] W from h.tail.tail)
  have h5 := (show laidMet Tryd.prog [("strings.asciiSpace", Rows.laid_strings_asciiSpace)] W from h3.tail.tail)
  rw [show (Rows.laid_strings_asciiSpace : DataW Unit) = Lib.tabData .u8 Lib.asciiSpaceTab by kernel_rfl] at h5
  rw [show (Rows.laid_internal_strconv_uint64pow10 : DataW Unit) = Lib.tabData .u64 Lib.pow10Tab by kernel_rfl] at h3
  refine ⟨?_, ?_⟩
  · exact Lib.tabIs_of_head (g := (Tryd.prog.globalNamed "strings.asciiSpace").getD 0) (t := ((Tryd.prog.globals[(Tryd.prog.globalNamed "strings.asciiSpace").getD 0]?).map (·.type)).getD 0) (e := 5) (n := 256) (by kernel_rfl) (by kernel_rfl) (by kernel_rfl) (by kernel_rfl) (by kernel_rfl) (by kernel_rfl) h5
  · exact Lib.tabIs_of_head (g := (Tryd.prog.globalNamed "internal/strconv.uint64pow10").getD 0) (t := ((Tryd.prog.globals[(Tryd.prog.globalNamed "internal/strconv.uint64pow10").getD 0]?).map (·.type)).getD 0) (e := 133) (n := Lib.pow10Tab.length) (by kernel_rfl) (by kernel_rfl) (by kernel_rfl) (by kernel_rfl) (by kernel_rfl) (by kernel_rfl) h3

/-- Behind a call that keeps all that lay, where no argument holds an address. -/
theorem post_none {H : Type} {enc : TypeId × Value → H} {P : Program} {f : Func} {s : ChangeSpec} {apart fresh handsOn again : Bool} {W W' : World} {args : Array Value} {v : Value} {ds gs : List (DataW H)}
    (hW : DataW.Whole enc P f.params.toList s.vars apart W args.toList ds gs [])
    (hres : ∀ (b : Nat) (sp : Nat → Bool) (hd : Bool), DataW.TrodAll enc P W' b sp hd f.resultTypes.toList (v.resultList f.resultTypes.size) (s.fn H (ds ++ gs)).results [])
    (hargs : ∀ sp : Nat → Bool, DataW.TrodAll enc P W' 0 sp true f.params.toList args.toList (s.fn H (ds ++ gs)).args [])
    (hvars : ∀ sp : Nat → Bool, DataW.TrodVars enc P W' sp s.vars (s.fn H (ds ++ gs)).vars [])
    (hk : W.keptBut W' (fun p => p ∈ ([] : List MemPlace)))
    (hok : ∀ (j : Nat) (t : TypeId) (r : Value), f.resultTypes[j]? = some t → (v.resultList f.resultTypes.size)[j]? = some r → Value.okWide P W' .any 0 t r) :
    s.post enc P f apart fresh handsOn again W args v W' := by
  refine ⟨ds, gs, [], [], [], [], hW, hres _ _ _, hargs _, hvars _, World.keptBut_mono (fun p hp => by cases hp) hk, fun _ => ?_⟩
  refine ⟨hok, _, _, ([] ++ []) ++ [], ⟨[] ++ [], [], trodAll_append (hargs _) (hres _ _ _), hvars _, rfl, ?_, fun _ => List.nodup_nil⟩, fun p hp _ => by cases hp⟩
  intro b off hp
  cases hp
end Go.Proofs.YtkijoeihkajlcaaDoor

set_option linter.unusedVariables false
set_option linter.unusedSimpArgs false
namespace Go.Proofs.YtkijoeihkajlcaaDoor
open Go.ChangeShapes Go.WideShapes Go.ChangeAt Go.RowKit Go.ChangeMaps

set_option maxRecDepth 100000 in
theorem liftedLexMinus (os : Os) (started : os.Started) (H : Type) (enc : TypeId × Value → H) :
    ReturnsInHanded {} Tryd.checked os 7 .any (fun w args => (Rows.lexMinusSpec.pre enc Tryd.prog Tryd.f7 Rows.lexMinusRow.domain false w args ∧ laidMetH Tryd.prog Rows.lexMinusRow.laid w) ∧ sizedMet enc Tryd.prog Tryd.f7 (OpenSpec.ofChange Rows.lexMinusSpec) false w args)
      (Rows.lexMinusSpec.post enc Tryd.prog Tryd.f7 false true false false) := by
  refine returnsInHanded_of_change_and (C := Tryd.checked) (X := fun w _ => laidMetH Tryd.prog laidL w) (fun _ _ _ hh h => h.of_heap hh) ownK started (by kernel_rfl) Tryd.func7
    (ChangeSpec.witness_shaped (enc := enc) (C := Tryd.checked) (os := os) (X := fun w _ => laidMetH Tryd.prog laidL w) false (World.laidAll Tryd.prog os laidL) #[.int .i64 0, .int .i64 0] 8 (World.laidAll_os _ _ _)
      (World.shaped_of_ZipB (by kernel_rfl) (by kernel_rfl)) (by kernel_rfl) (by kernel_rfl) (by kernel_rfl)
      (by rw [MakeChecks.laidMetH_plain _ _ _ (by kernel_rfl)]; exact laidMet_laidAll _ (by kernel_rfl) (by kernel_rfl))) ?_
  intro W base args ds gs before hval0 hW hc _ hL _
  have hval : ∀ (j : Nat) t v, Tryd.f7.params[j]? = some t → args[j]? = some v → Value.okWide Tryd.prog W .any base t v := hval0
  have hW' := hW
  obtain ⟨p, q, hA0, hV, rfl, _, _⟩ := hW
  have hA : DataW.TrodAll enc Tryd.prog W 0 (fun _ => true) true Tryd.f7.params.toList args.toList ds p := hA0
  rw [Tryd.params7] at hA hval
  obtain ⟨v0, vs0, d0, ds0, p0, q0, hargs, rfl, rfl, h0, r0⟩ := trodAll_cons hA
  obtain ⟨v1, vs1, d1, ds1, p1, q1, rfl, rfl, rfl, h1, r1⟩ := trodAll_cons r0
  obtain ⟨rfl, rfl, rfl⟩ := trodAll_nil r1
  obtain rfl : args = #[v0, v1] := by cases args; simp_all
  obtain ⟨rfl, rfl⟩ := trodVars_none hV
  obtain ⟨a0, rfl, rfl, rfl, w0⟩ := open_int Tryd.underlying3 (hval 0 3 v0 rfl rfl) h0
  obtain ⟨a1, rfl, rfl, rfl, w1⟩ := open_int Tryd.underlying3 (hval 1 3 v1 rfl rfl) h1
  simp only [List.append_nil, List.nil_append] at hW'
  refine (PAll.LexMinus_law a0 a1 w0 w1 W (laid_of_met hL)).mono fun e W' ⟨he, hw⟩ => ?_
  subst he
  exact ⟨_, rfl, post_none hW' (fun _ _ _ => trodAll_mk1 (shut_bool Tryd.underlying4 _)) (fun sp => trodAll_mk2 (shut_int Tryd.underlying3 w0) (shut_int Tryd.underlying3 w1)) (fun _ => rfl) (hw.frame _) (ok_one (by kernel_rfl) rfl (okWide_bool_mk Tryd.underlying4 _))⟩

theorem saidLexMinus : Rows.LexMinusSaid :=
  OpenClaim.holds_of_wide 7 Tryd.f7 rfl rfl rfl rfl rfl rfl rfl ⟨rfl, rfl, rfl, rfl, rfl⟩ rfl rfl rfl rfl rfl (by kernel_rfl) Tryd.func7 (by kernel_rfl)
    (of_decide_eq_true (by kernel_rfl)) (by unfold Func.isWrapper; first | (rw [if_pos (by decide +kernel)]; kernel_rfl) | (rw [if_neg (by decide +kernel)]; exact ⟨rfl, rfl⟩))
    (fun os started H enc _ => liftedLexMinus os started H enc)
theorem lexMinus_card : Rows.LexMinusCardSaid :=
  Claim7.holds_tied_plain_at .later [] [.data, .data, .data, .listed, .data] true (true, "5b4db42141422620d803431d3e586301e422e1e551833148ccaf224fee0bee00") true saidLexMinus (fun _ h => by cases h) (by kernel_rfl) (fun _ h => by cases h) lexMinus_row_tie rfl ⟨rfl, rfl⟩ (by kernel_rfl) rfl
    (fun f fn hf hfn => by
      obtain rfl : f = 7 := Option.some.inj ((show Tryd.prog.funcNamed "sward/swardlaw02.LexMinus" = some 7 by kernel_rfl).symm.trans hf) |>.symm
      obtain rfl : fn = Tryd.f7 := (Option.some.inj (Tryd.func7.symm.trans hfn)).symm
      exact ⟨by kernel_rfl, fun j t ht => by
        rw [Tryd.params7] at ht
        have hm : t ∈ [3, 3] := by simpa using Array.mem_of_getElem? ht
        have hall : ([3, 3].all fun u => !Tryd.prog.wantsStandIn u) = true := by kernel_rfl
        exact (show Tryd.prog.wantsStandIn t = false by simpa using List.all_eq_true.1 hall t hm)⟩)
    (by kernel_rfl)
#print axioms lexMinus_card
end Go.Proofs.YtkijoeihkajlcaaDoor
