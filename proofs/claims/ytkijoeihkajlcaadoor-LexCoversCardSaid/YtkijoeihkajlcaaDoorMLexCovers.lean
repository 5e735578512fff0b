/-
  LexCovers answers true for every input: the row and its tied card.
-/
import Derived.Test.YtkijoeihkajlcaaDoorMc
import Derived.Test.YtkijoeihkajlcaaDoorMp
import Derived.Test.YtkijoeihkajlcaaDoorRAll6
import Derived.Test.YtkijoeihkajlcaaDoorRows
import Derived.Test.YtkijoeihkajlcaaDoorCards
import Derived.Test.YtkijoeihkajlcaaDoorTie
import Derived.Lib.LaidTab
import Derived.Stop.LaidErr
import Derived.ProofKit
import Derived.OpenShut
import Derived.LaidMore
import Derived.Lay
import Derived.ChangeMaps5
import Derived.SevenTiedAt
import Derived.Stop.Joined

set_option linter.unusedVariables false
set_option linter.unusedSimpArgs false
namespace Go.Proofs.YtkijoeihkajlcaaDoor.PAll
open Go.RowKit Go.Shelf
open Go.Proofs.YtkijoeihkajlcaaDoorW.PrintWords

theorem bt_nat (s : ByteArray) (i : Nat) (h : i < s.size) : bt s (i : Int) = (s[i].toNat : Int) := by
  rw [← bt_at s i (by simpa using h)]
  rfl
theorem wrap_nat (n : Nat) (h : n < 9223372036854775807) : wrap64 ((n : Int)) = n := by unfold wrap64; omega
theorem wrap_succ (n : Nat) (h : n < 9223372036854775807) : wrap64 ((n : Int) + 1) = ((n + 1 : Nat) : Int) := by unfold wrap64; omega
theorem Ev.ite_pos {α : Type} {c : Prop} [Decidable c] {g f : Nat → Option α} {r : α} (hc : c) (h : Ev g r) : Ev (fun n => if c then g n else f n) r := by simpa [hc] using h
theorem Ev.ite_neg {α : Type} {c : Prop} [Decidable c] {g f : Nat → Option α} {r : α} (hc : ¬ c) (h : Ev f r) : Ev (fun n => if c then g n else f n) r := by simpa [hc] using h
theorem blank_f (c : UInt8) : swardref02_blank.f (c.toNat : Int) = some (Lx.isBlank c) := by
  unfold swardref02_blank.f Lx.isBlank
  split
  · rename_i h; have : c.toNat = 32 := by omega
    simp [this]
  · split
    · rename_i h1 h; have : c.toNat = 9 := by omega
      simp [this]
    · rename_i h1 h2
      have a : (c.toNat == 32) = false := by simp; omega
      have b : (c.toNat == 9) = false := by simp; omega
      rw [a, b, Bool.false_or, Bool.false_or]
      congr 1
      rw [Bool.eq_iff_iff, beq_iff_eq, beq_iff_eq]
      omega
theorem Ev.succ {α : Type} {g : Nat → Option α} {r : α} (h : Ev (fun k => g (k + 1)) r) : Ev g r := Ev.step (fun _ => rfl) h
theorem ev_skip (s : ByteArray) (hs : s.size ≤ 4200) : ∀ (n i : Nat), i ≤ s.size → s.size - i = n →
    Ev (fun k => swardref02_skip.l0 k s i) ((i + Lx.skipF false (s.data.toList.drop i) : Nat) : Int) ∧ Ev (fun k => swardref02_skip.l1 k s i) ((i + Lx.skipF true (s.data.toList.drop i) : Nat) : Int) := by
  intro n
  induction n with
  | zero =>
    intro i hi hn
    have he : s.data.toList.drop i = [] := List.drop_of_length_le (by simp; omega)
    have h1 : ¬ ((i : Int) < (s.size : Int)) := by omega
    have h0 : Ev (fun k => swardref02_skip.l0 k s i) ((i + Lx.skipF false (s.data.toList.drop i) : Nat) : Int) := by
      rw [he]
      refine Ev.succ (Ev.succ ?_)
      simp only [swardref02_skip.l0, swardref02_skip.j1, h1, if_false, Bool.false_eq_true]
      exact Ev.now _
    refine ⟨h0, Ev.succ ?_⟩
    simp only [swardref02_skip.l1, h1, if_false]
    rw [he] at h0 ⊢
    exact h0
  | succ n ih =>
    intro i hi hn
    have hlt : i < s.size := by omega
    obtain ⟨ih0, ih1⟩ := ih (i + 1) (by omega) (by omega)
    have hd := drop_cons s i hlt
    rw [hd]
    have hb := bt_nat s i hlt
    have hw := wrap_succ i (by omega)
    have h1 : (i : Int) < (s.size : Int) := by omega
    have h2 : (0 : Int) ≤ (i : Int) := by omega
    have h0 : Ev (fun k => swardref02_skip.l0 k s i) ((i + Lx.skipF false (s[i] :: s.data.toList.drop (i + 1)) : Nat) : Int) := by
      by_cases hbl : Lx.isBlank s[i] = true
      · have hn35 : ¬ ((s[i].toNat : Int) = 35) := by
          intro h
          have : s[i].toNat = 35 := by omega
          simp [Lx.isBlank, this] at hbl
        refine Ev.succ (Ev.succ ?_)
        simp only [swardref02_skip.l0, swardref02_skip.j1, h1, h2, if_true, hb, blank_f, Option.bind_some, hbl, hn35, if_false, hw]
        simp only [Lx.skipF, hbl, if_true]
        rw [show i + (Lx.skipF false (s.data.toList.drop (i + 1)) + 1) = i + 1 + Lx.skipF false (s.data.toList.drop (i + 1)) by omega]
        exact ih0
      · by_cases h35 : s[i].toNat = 35
        · have e35 : ((s[i].toNat : Int) == 35) = true := by simp; omega
          have f35 : (s[i].toNat : Int) = 35 := by omega
          have f10 : ¬ (35 : Int) = 10 := by omega
          refine Ev.succ (Ev.succ (Ev.succ ?_))
          simp only [swardref02_skip.l0, swardref02_skip.j1, swardref02_skip.l1, h1, h2, if_true, hb, blank_f, Option.bind_some, hbl, e35, f35, if_false, Bool.false_eq_true, f10, hw, beq_self_eq_true]
          simp only [Lx.skipF, hbl, if_false, Bool.false_eq_true, h35, if_true]
          rw [show i + (Lx.skipF true (s.data.toList.drop (i + 1)) + 1) = i + 1 + Lx.skipF true (s.data.toList.drop (i + 1)) by omega]
          exact ih1
        · have e35 : ((s[i].toNat : Int) == 35) = false := by simp; omega
          refine Ev.succ (Ev.succ ?_)
          simp only [swardref02_skip.l0, swardref02_skip.j1, h1, h2, if_true, hb, blank_f, Option.bind_some, hbl, e35, if_false, Bool.false_eq_true]
          simp only [Lx.skipF, hbl, if_false, Bool.false_eq_true, h35, Nat.add_zero]
          exact Ev.now _
    refine ⟨h0, ?_⟩
    by_cases h10 : s[i].toNat = 10
    · have f10 : (s[i].toNat : Int) = 10 := by omega
      refine Ev.succ ?_
      simp only [swardref02_skip.l1, h1, h2, if_true, hb, f10]
      have : Lx.skipF true (s[i] :: s.data.toList.drop (i + 1)) = Lx.skipF false (s[i] :: s.data.toList.drop (i + 1)) := by
        simp [Lx.skipF, Lx.notNl, Lx.isBlank, h10]
      rw [this]
      exact h0
    · have f10 : ¬ ((s[i].toNat : Int) = 10) := by omega
      refine Ev.succ ?_
      simp only [swardref02_skip.l1, h1, h2, if_true, hb, f10, if_false, hw]
      have : Lx.skipF true (s[i] :: s.data.toList.drop (i + 1)) = Lx.skipF true (s.data.toList.drop (i + 1)) + 1 := by
        simp [Lx.skipF, Lx.notNl, h10]
      rw [this, show i + (Lx.skipF true (s.data.toList.drop (i + 1)) + 1) = i + 1 + Lx.skipF true (s.data.toList.drop (i + 1)) by omega]
      exact ih1
theorem ev_skip_f (s : ByteArray) (hs : s.size ≤ 4200) (i : Nat) (hi : i ≤ s.size) : Ev (fun k => swardref02_skip.f k s i) ((i + Lx.skipL (s.data.toList.drop i) : Nat) : Int) := (ev_skip s hs _ i hi rfl).1
theorem letter_f (c : UInt8) : swardref02_letter.f (c.toNat : Int) = some (Lx.isLet c) := by
  unfold swardref02_letter.f Lx.isLet
  split
  · rename_i h
    have a : decide (97 ≤ c.toNat) = true := decide_eq_true (by omega)
    rw [a, Bool.true_and]
    congr 1
    rw [decide_eq_decide]
    omega
  · rename_i h
    have a : decide (97 ≤ c.toNat) = false := decide_eq_false (by omega)
    rw [a, Bool.false_and]
theorem quoted_f (c : UInt8) : swardref02_quoted.f (c.toNat : Int) = some (Lx.isTxt c) := by
  unfold swardref02_quoted.f Lx.isTxt
  by_cases h1 : 32 ≤ c.toNat
  · have a1 : decide (32 ≤ c.toNat) = true := decide_eq_true h1
    rw [if_pos (by omega), a1, Bool.true_and]
    by_cases h2 : c.toNat ≤ 126
    · have a2 : decide (c.toNat ≤ 126) = true := decide_eq_true h2
      rw [if_pos (by omega), a2, Bool.true_and]
      by_cases h3 : c.toNat = 34
      · rw [if_pos (by omega)]
        simp [h3]
      · have a3 : decide (c.toNat ≠ 34) = true := decide_eq_true h3
        rw [if_neg (by omega), a3, Bool.true_and]
        congr 1
        rw [Bool.eq_iff_iff, bne_iff_ne, decide_eq_true_iff]
        omega
    · have a2 : decide (c.toNat ≤ 126) = false := decide_eq_false h2
      rw [if_neg (by omega), a2, Bool.false_and]
  · have a1 : decide (32 ≤ c.toNat) = false := decide_eq_false h1
    rw [if_neg (by omega), a1, Bool.false_and]
theorem ev_stuff (s : ByteArray) (hs : s.size ≤ 4200) : ∀ (n i m : Nat), i + m ≤ s.size → s.size - (i + m) = n →
    Ev (fun k => swardref02_stuff.l0 k s i m) ((m + Lx.runL Lx.isTxt (s.data.toList.drop (i + m)) : Nat) : Int) := by
  intro n
  induction n with
  | zero =>
    intro i m hi hn
    have he : s.data.toList.drop (i + m) = [] := List.drop_of_length_le (by simp; omega)
    rw [he]
    have hw : wrap64 ((i : Int) + m) = ((i + m : Nat) : Int) := by unfold wrap64; omega
    have h1 : ¬ (((i + m : Nat) : Int) < (s.size : Int)) := by omega
    refine Ev.succ ?_
    simp only [swardref02_stuff.l0, hw, h1, if_false]
    exact Ev.now _
  | succ n ih =>
    intro i m hi hn
    have hlt : i + m < s.size := by omega
    have ih0 := ih i (m + 1) (by omega) (by omega)
    have hd := drop_cons s (i + m) hlt
    rw [hd]
    have hb := bt_nat s (i + m) hlt
    have hw : wrap64 ((i : Int) + m) = ((i + m : Nat) : Int) := by unfold wrap64; omega
    have hw1 : wrap64 ((m : Int) + 1) = ((m + 1 : Nat) : Int) := by unfold wrap64; omega
    have h1 : ((i + m : Nat) : Int) < (s.size : Int) := by omega
    have h2 : (0 : Int) ≤ ((i + m : Nat) : Int) := by omega
    refine Ev.succ ?_
    by_cases hl : Lx.isTxt s[i + m] = true
    · simp only [swardref02_stuff.l0, hw, h1, h2, if_true, hb, quoted_f, Option.bind_some, hl, hw1]
      simp only [Lx.runL, hl, if_true]
      rw [show m + (Lx.runL Lx.isTxt (s.data.toList.drop (i + m + 1)) + 1) = m + 1 + Lx.runL Lx.isTxt (s.data.toList.drop (i + (m + 1))) by rw [show i + (m + 1) = i + m + 1 by omega]; omega]
      exact ih0
    · simp only [swardref02_stuff.l0, hw, h1, h2, if_true, hb, quoted_f, Option.bind_some, hl, if_false, Bool.false_eq_true]
      simp only [Lx.runL, hl, if_false, Bool.false_eq_true, Nat.add_zero]
      exact Ev.now _
def memB (xs : List ByteArray) (s : ByteArray) : Bool := xs.any fun x => decide (x.data.toList = s.data.toList)
theorem ev_among (xs : List ByteArray) (hx : xs.length ≤ 4000) (s : ByteArray) : ∀ (n i : Nat), i ≤ xs.length → xs.length - i = n →
    Ev (fun k => swardref02_among.l0 k xs s i) (memB (xs.drop i) s) := by
  intro n
  induction n with
  | zero =>
    intro i hi hn
    have he : xs.drop i = [] := List.drop_of_length_le (by omega)
    have h1 : ¬ ((i : Int) < (xs.length : Int)) := by omega
    refine Ev.succ ?_
    simp only [swardref02_among.l0, h1, if_false, he]
    exact Ev.now _
  | succ n ih =>
    intro i hi hn
    have hlt : i < xs.length := by omega
    have ih0 := ih (i + 1) (by omega) (by omega)
    have hw := wrap_succ i (by omega)
    have h1 : (i : Int) < (xs.length : Int) := by omega
    have h2 : (0 : Int) ≤ (i : Int) := by omega
    have hr : rdOf ByteArray.empty xs (i : Int) = xs[i] := by simp [rdOf, List.getD_eq_getElem?_getD, List.getElem?_eq_getElem hlt]
    rw [List.drop_eq_getElem_cons hlt]
    unfold memB at ih0 ⊢
    rw [List.any_cons]
    refine Ev.succ ?_
    by_cases he : xs[i].toList = s.toList
    · have hes : xs[i].data.toList = s.data.toList := by rw [← bs_toList, he, bs_toList]
      simp only [swardref02_among.l0, h1, h2, if_true, hr, he]
      rw [decide_eq_true hes, Bool.true_or]
      exact Ev.now _
    · have hne : ¬ xs[i].data.toList = s.data.toList := fun h => he (by rw [bs_toList, bs_toList, h])
      simp only [swardref02_among.l0, h1, h2, if_true, hr, he, if_false, hw]
      rw [decide_eq_false hne, Bool.false_or]
      exact ih0
theorem memB_map (ls : List Lx.Bs) (s : ByteArray) : memB (ls.map bsOf) s = ls.contains s.data.toList := by
  unfold memB
  induction ls with
  | nil => rfl
  | cons l ls ih =>
    rw [List.map_cons, List.any_cons, ih, List.contains_cons]
    congr 1
    rw [Bool.eq_iff_iff, decide_eq_true_iff, beq_iff_eq]
    show l = _ ↔ _
    exact eq_comm
theorem keys_eq : swardref02_Keys.f = some (Lx.keyWords.map bsOf) := rfl
theorem signs_eq : swardref02_Signs.f = some (Lx.signWords.map bsOf) := rfl
theorem ev_Key (s : ByteArray) : Ev (fun k => swardref02_Key.f k s) (Lx.isKey s.data.toList) := by
  have ha := ev_among (Lx.keyWords.map bsOf) (by decide) s _ 0 (Nat.zero_le _) rfl
  rw [List.drop_zero, memB_map] at ha
  refine Ev.congr (fun k => ?_) ha
  unfold swardref02_Key.f
  rw [keys_eq]
  show Option.bind (swardref02_among.l0 k (Lx.keyWords.map bsOf) s 0) (fun t => some t) = swardref02_among.l0 k (Lx.keyWords.map bsOf) s 0
  cases swardref02_among.l0 k (Lx.keyWords.map bsOf) s 0 <;> rfl
theorem ext_eq (s : ByteArray) (a n b : Nat) (h : b = a + n) : s.extract a b = bsOf ((s.data.toList.drop a).take n) := by
  have := extract_eq s a n b h
  unfold strV at this
  injection this
end Go.Proofs.YtkijoeihkajlcaaDoor.PAll

set_option linter.unusedVariables false
set_option linter.unusedSimpArgs false
namespace Go.Proofs.YtkijoeihkajlcaaDoor.PAll
open Go.RowKit Go.Shelf
open Go.Proofs.YtkijoeihkajlcaaDoorW.PrintWords

/-- A token as the printed functions have it, and as the walk of package lex has it. -/
abbrev S := S37
def sT (x : S) : Tk := ⟨x.f0, x.f1, x.f2, x.f3⟩
theorem reads_sT {w : World} {A : Option Addr} {n : Nat} {xs : List S} (h : Kd.C k37 w A n xs) : Kd.C kTk w A n (xs.map sT) := by
  obtain ⟨h1, h2, h3⟩ := h
  refine ⟨by rw [List.length_map]; exact h1, h2, fun hn => ?_⟩
  obtain ⟨ad, e, hc⟩ := h3 hn
  refine ⟨ad, e, fun j p hj => ?_⟩
  rw [List.getElem?_map] at hj
  obtain ⟨x, hx, rfl⟩ := Option.map_eq_some_iff.1 hj
  exact hc j x hx
theorem int_beq (a b : Int) : (a == b) = decide (a = b) := by rw [Bool.eq_iff_iff, beq_iff_eq, decide_eq_true_iff]
theorem rd_S (xs : List S) (i : Nat) (h : i < xs.length) : rd_T37 xs (i : Int) = xs[i] := by
  simp [rd_T37, List.getD_eq_getElem?_getD, List.getElem?_eq_getElem h]
theorem toList_inj (a b : ByteArray) : a.toList = b.toList ↔ a = b := by
  rw [bs_toList, bs_toList]
  constructor
  · intro h
    apply ByteArray.ext
    exact Array.toList_inj.1 h
  · rintro rfl; rfl

/-! ### the same tokens -/
def likeB (a b : S) : Bool := decide (a.f0 = b.f0) && (decide (a.f1 = b.f1) && decide (a.f2 = b.f2))
theorem like_f (a b : S) : swardref02_Like.f a.f0 a.f1 a.f2 a.f3 b.f0 b.f1 b.f2 b.f3 = some (likeB a b) := by
  unfold swardref02_Like.f likeB
  by_cases h0 : a.f0 = b.f0
  · by_cases h1 : a.f1 = b.f1
    · rw [if_pos h0, if_pos ((toList_inj _ _).2 h1)]
      simp [h0, h1, int_beq]
    · rw [if_pos h0, if_neg (fun h => h1 ((toList_inj _ _).1 h))]
      simp [h1]
  · rw [if_neg h0]
    simp [h0]
def sameL : List S → List S → Bool
  | [], _ => true
  | x :: xs, y :: ys => likeB x y && sameL xs ys
  | _ :: _, [] => true
def sameB (xs ys : List S) : Bool := decide (xs.length = ys.length) && sameL xs ys
theorem sameL_drop (xs ys : List S) (i : Nat) (h : i < xs.length) (h2 : i < ys.length) : sameL (xs.drop i) (ys.drop i) = (likeB xs[i] ys[i] && sameL (xs.drop (i + 1)) (ys.drop (i + 1))) := by
  rw [List.drop_eq_getElem_cons h, List.drop_eq_getElem_cons h2]
  rfl
theorem ev_same_l (xs ys : List S) (hl : xs.length = ys.length) (hx : xs.length ≤ 1000000000000000) : ∀ (n i : Nat), i ≤ xs.length → xs.length - i = n → Ev (fun k => swardref02_Same.l0 k xs ys i) (sameL (xs.drop i) (ys.drop i)) := by
  intro n
  induction n with
  | zero =>
    intro i hi hn
    have h1 : ¬ ((i : Int) < (xs.length : Int)) := by omega
    have he : xs.drop i = [] := List.drop_of_length_le (by omega)
    rw [he]
    refine Ev.succ ?_
    simp only [swardref02_Same.l0, h1, if_false]
    exact Ev.now _
  | succ n ih =>
    intro i hi hn
    have hlt : i < xs.length := by omega
    have hlt2 : i < ys.length := by omega
    have ih0 := ih (i + 1) (by omega) (by omega)
    have h1 : (i : Int) < (xs.length : Int) := by omega
    have h3 : (i : Int) < (ys.length : Int) := by omega
    have h2 : (0 : Int) ≤ (i : Int) := Int.natCast_nonneg _
    have hw := wrap_succ i (by omega)
    rw [sameL_drop xs ys i hlt hlt2]
    refine Ev.succ ?_
    simp only [swardref02_Same.l0, h1, h2, h3, if_true, rd_S xs i hlt, rd_S ys i hlt2, like_f, Option.bind_some, hw]
    cases hb : likeB xs[i] ys[i]
    · simp only [Bool.false_eq_true, if_false, Bool.false_and]
      exact Ev.now _
    · simp only [if_true, Bool.true_and]
      exact ih0
theorem ev_Same (xs ys : List S) (hx : xs.length ≤ 1000000000000000) : Ev (fun k => swardref02_Same.f k xs ys) (sameB xs ys) := by
  unfold sameB
  by_cases hl : xs.length = ys.length
  · have h1 : (xs.length : Int) = (ys.length : Int) := by omega
    have := ev_same_l xs ys hl hx _ 0 (Nat.zero_le _) rfl
    rw [List.drop_zero, List.drop_zero] at this
    simp only [swardref02_Same.f, h1, if_true, decide_eq_true hl, Bool.true_and]
    exact this
  · have h1 : ¬ (xs.length : Int) = (ys.length : Int) := by omega
    simp only [swardref02_Same.f, h1, if_false, decide_eq_false hl, Bool.false_and]
    exact Ev.now _
theorem sameL_iff : ∀ (xs ys : List S), xs.length = ys.length → (sameL xs ys = true ↔ xs.map (fun x => (x.f0, x.f1, x.f2)) = ys.map (fun x => (x.f0, x.f1, x.f2)))
  | [], [], _ => by simp [sameL]
  | x :: xs, y :: ys, h => by
    have ih := sameL_iff xs ys (by simpa using h)
    simp only [sameL, Bool.and_eq_true, ih, List.map_cons, List.cons.injEq, Prod.mk.injEq, likeB, decide_eq_true_eq]
  | [], _ :: _, h => by simp at h
  | _ :: _, [], h => by simp at h
theorem sameB_iff (xs ys : List S) : sameB xs ys = true ↔ xs.map (fun x => (x.f0, x.f1, x.f2)) = ys.map (fun x => (x.f0, x.f1, x.f2)) := by
  unfold sameB
  rw [Bool.and_eq_true, decide_eq_true_iff]
  constructor
  · rintro ⟨h1, h2⟩
    exact (sameL_iff xs ys h1).1 h2
  · intro h
    have hl : xs.length = ys.length := by simpa using congrArg List.length h
    exact ⟨hl, (sameL_iff xs ys hl).2 h⟩
theorem ev_SameAll_self (xs : List S) (hx : xs.length ≤ 10000) : Ev (fun k => swardref02_SameAll.f k xs xs) true := by
  have h : ∀ (n i : Nat), i ≤ xs.length → xs.length - i = n → Ev (fun k => swardref02_SameAll.l0 k xs xs i) true := by
    intro n
    induction n with
    | zero =>
      intro i hi hn
      have h1 : ¬ ((i : Int) < (xs.length : Int)) := by omega
      refine Ev.succ ?_
      simp only [swardref02_SameAll.l0, h1, if_false]
      exact Ev.now _
    | succ n ih =>
      intro i hi hn
      have ih0 := ih (i + 1) (by omega) (by omega)
      have h1 : (i : Int) < (xs.length : Int) := by omega
      have h2 : (0 : Int) ≤ (i : Int) := Int.natCast_nonneg _
      have hw := wrap_succ i (by omega)
      refine Ev.succ ?_
      simp only [swardref02_SameAll.l0, h1, h2, if_true, hw]
      exact ih0
  have hs := ev_Same xs xs (by omega)
  rw [(sameB_iff xs xs).2 rfl] at hs
  unfold swardref02_SameAll.f
  refine Ev.bind (f := fun k (t : Bool) => if t = true then swardref02_SameAll.l0 k xs xs 0 else some false) hs ?_
  simp only [if_true]
  exact h _ 0 (Nat.zero_le _) rfl

/-! ### tokens that are as defined -/
theorem ev_lettered (s : ByteArray) (hs : s.size ≤ 4200) : ∀ (n i : Nat), i ≤ s.size → s.size - i = n → Ev (fun k => swardref02_lettered.l0 k s i) ((s.data.toList.drop i).all Lx.isLet) := by
  intro n
  induction n with
  | zero =>
    intro i hi hn
    have he : s.data.toList.drop i = [] := List.drop_of_length_le (by simp; omega)
    have h1 : ¬ ((i : Int) < (s.size : Int)) := by omega
    rw [he]
    refine Ev.succ ?_
    simp only [swardref02_lettered.l0, h1, if_false]
    exact Ev.now _
  | succ n ih =>
    intro i hi hn
    have hlt : i < s.size := by omega
    have ih0 := ih (i + 1) (by omega) (by omega)
    have hd := drop_cons s i hlt
    have hb := bt_nat s i hlt
    have hw := wrap_succ i (by omega)
    have h1 : (i : Int) < (s.size : Int) := by omega
    have h2 : (0 : Int) ≤ (i : Int) := by omega
    rw [hd, List.all_cons]
    refine Ev.succ ?_
    simp only [swardref02_lettered.l0, h1, h2, if_true, hb, letter_f, Option.bind_some, hw]
    cases hl : Lx.isLet s[i]
    · simp only [Bool.false_eq_true, if_false, Bool.false_and]
      exact Ev.now _
    · simp only [if_true, Bool.true_and]
      exact ih0
theorem ev_Name (s : ByteArray) : Ev (fun k => swardref02_Name.f k s) (Lx.isName s.data.toList) := by
  have hlen : s.data.toList.length = s.size := by simp
  by_cases h1 : 1 ≤ s.size
  · by_cases h8 : s.size ≤ 8
    · have hl := ev_lettered s (by omega) _ 0 (Nat.zero_le _) rfl
      rw [List.drop_zero] at hl
      have hk := ev_Key s
      have c1 : (s.size : Int) ≥ 1 := by omega
      have c2 : (s.size : Int) ≤ 8 := by omega
      have hn : Lx.isName s.data.toList = (s.data.toList.all Lx.isLet && !Lx.isKey s.data.toList) := by
        unfold Lx.isName
        rw [decide_eq_true (by omega), decide_eq_true (by omega), Bool.true_and, Bool.true_and]
      rw [hn]
      simp only [swardref02_Name.f, c1, c2, if_true]
      refine Ev.bind (f := fun k (t : Bool) => if t = true then ((swardref02_Key.f k s).bind fun t => some (!t)) else some false) hl ?_
      cases ha : s.data.toList.all Lx.isLet
      · simp only [Bool.false_eq_true, if_false, Bool.false_and]
        exact Ev.now _
      · simp only [if_true, Bool.true_and]
        exact Ev.bind (f := fun k (t : Bool) => some (!t)) hk (Ev.now _)
    · have c1 : (s.size : Int) ≥ 1 := by omega
      have c2 : ¬ (s.size : Int) ≤ 8 := by omega
      have hn : Lx.isName s.data.toList = false := by
        unfold Lx.isName
        rw [decide_eq_false (p := s.data.toList.length ≤ 8) (by omega), Bool.false_and, Bool.and_false]
      rw [hn]
      simp only [swardref02_Name.f, c1, c2, if_true, if_false]
      exact Ev.now _
  · have c1 : ¬ (s.size : Int) ≥ 1 := by omega
    have hn : Lx.isName s.data.toList = false := by
      unfold Lx.isName
      rw [decide_eq_false (p := 1 ≤ s.data.toList.length) (by omega), Bool.false_and]
    rw [hn]
    simp only [swardref02_Name.f, c1, if_false]
    exact Ev.now _
theorem run_all (p : UInt8 → Bool) : ∀ l : Lx.Bs, decide ((Lx.runL p l : Int) = (l.length : Int)) = l.all p
  | [] => rfl
  | c :: l => by
    have ih := run_all p l
    have hle := Lx.runL_le p l
    rw [List.all_cons]
    cases hc : p c
    · rw [Bool.false_and]
      refine decide_eq_false ?_
      simp [Lx.runL, hc]
      omega
    · rw [Bool.true_and, ← ih, decide_eq_decide]
      simp [Lx.runL, hc]
def tokenB (x : S) : Bool := (Lx.pieceOf (sT x)).isSome
theorem ev_tok0 (x : S) (hx : ¬ (x.f3 < 0 ∨ 4000 < x.f3 ∨ (x.f0 ≠ 3 ∧ x.f2 ≠ 0))) : Ev (fun k => swardref02_Token.j0 k false x.f0 x.f1 x.f2 x.f3) (tokenB x) := by
  obtain ⟨k, s, n, a⟩ := x
  unfold tokenB Lx.pieceOf sT
  simp only at hx ⊢
  rw [if_neg hx]
  refine Ev.succ ?_
  simp only [swardref02_Token.j0, Bool.false_eq_true, if_false]
  by_cases h1 : k = 1
  · subst h1
    simp only [if_true]
    have := ev_Name s
    refine Ev.bind (f := fun k (t : Bool) => some t) this ?_
    cases Lx.isName s.data.toList <;> exact Ev.now _
  · by_cases h2 : k = 2
    · subst h2
      have e1 : ¬ ((2 : Int) = 1) := by omega
      simp only [e1, if_true, if_false]
      refine Ev.bind (f := fun k (t : Bool) => some t) (ev_Key s) ?_
      cases Lx.isKey s.data.toList <;> exact Ev.now _
    · by_cases h3 : k = 3
      · subst h3
        have e1 : ¬ ((3 : Int) = 1) := by omega
        have e2 : ¬ ((3 : Int) = 2) := by omega
        simp only [e1, e2, if_true, if_false]
        by_cases hs : s = ⟨#[]⟩
        · have hs2 : s.toList = [] := by rw [hs, bs_toList]
          by_cases hn1 : n ≥ -1000000000
          · by_cases hn2 : n ≤ 1000000000
            · rw [show (if s = (⟨#[]⟩ : ByteArray) ∧ -1000000000 ≤ n ∧ n ≤ 1000000000 then some (Lx.Piece.num n) else none).isSome = true by rw [if_pos ⟨hs, hn1, hn2⟩]; rfl]
              simp only [hs2, hn1, hn2, if_true, decide_true]
              exact Ev.now _
            · rw [show (if s = (⟨#[]⟩ : ByteArray) ∧ -1000000000 ≤ n ∧ n ≤ 1000000000 then some (Lx.Piece.num n) else none).isSome = false by rw [if_neg (by rintro ⟨_, _, h⟩; exact hn2 h)]; rfl]
              simp only [hs2, hn1, hn2, if_true, decide_false]
              exact Ev.now _
          · rw [show (if s = (⟨#[]⟩ : ByteArray) ∧ -1000000000 ≤ n ∧ n ≤ 1000000000 then some (Lx.Piece.num n) else none).isSome = false by rw [if_neg (by rintro ⟨_, h, _⟩; exact hn1 h)]; rfl]
            simp only [hs2, hn1, if_true, if_false]
            exact Ev.now _
        · have hs2 : ¬ s.toList = [] := by
            intro h
            exact hs ((toList_inj s ⟨#[]⟩).1 (by rw [h, bs_toList]))
          rw [show (if s = (⟨#[]⟩ : ByteArray) ∧ -1000000000 ≤ n ∧ n ≤ 1000000000 then some (Lx.Piece.num n) else none).isSome = false by rw [if_neg (by rintro ⟨h, _⟩; exact hs h)]; rfl]
          simp only [hs2, if_false]
          exact Ev.now _
      · by_cases h4 : k = 4
        · subst h4
          have e1 : ¬ ((4 : Int) = 1) := by omega
          have e2 : ¬ ((4 : Int) = 2) := by omega
          have e3 : ¬ ((4 : Int) = 3) := by omega
          simp only [e1, e2, e3, if_true, if_false]
          by_cases h20 : s.size ≤ 20
          · have c20 : (s.size : Int) ≤ 20 := by omega
            have hst := ev_stuff s (by omega) _ 0 0 (Nat.zero_le _) rfl
            rw [Nat.zero_add, Nat.zero_add, List.drop_zero] at hst
            have hra := run_all Lx.isTxt s.data.toList
            have hlen : s.data.toList.length = s.size := by simp
            rw [hlen] at hra
            simp only [c20, if_true]
            refine Ev.bind (f := fun k (t : Int) => some (t == (s.size : Int))) hst ?_
            rw [int_beq, hra]
            cases ha : s.data.toList.all Lx.isTxt
            · rw [show (if s.size ≤ 20 ∧ false = true then some (Lx.Piece.str s.data.toList) else none).isSome = false by rw [if_neg (by rintro ⟨_, h⟩; cases h)]; rfl]
              exact Ev.now _
            · rw [show (if s.size ≤ 20 ∧ true = true then some (Lx.Piece.str s.data.toList) else none).isSome = true by rw [if_pos ⟨h20, rfl⟩]; rfl]
              exact Ev.now _
          · have c20 : ¬ (s.size : Int) ≤ 20 := by omega
            rw [show (if s.size ≤ 20 ∧ s.data.toList.all Lx.isTxt = true then some (Lx.Piece.str s.data.toList) else none).isSome = false by rw [if_neg (by rintro ⟨h, _⟩; exact h20 h)]; rfl]
            simp only [c20, if_false]
            exact Ev.now _
        · by_cases h5 : k = 5
          · subst h5
            have e1 : ¬ ((5 : Int) = 1) := by omega
            have e2 : ¬ ((5 : Int) = 2) := by omega
            have e3 : ¬ ((5 : Int) = 3) := by omega
            have e4 : ¬ ((5 : Int) = 4) := by omega
            have ha := ev_among (Lx.signWords.map bsOf) (by decide) s _ 0 (Nat.zero_le _) rfl
            rw [List.drop_zero, memB_map] at ha
            simp only [e1, e2, e3, e4, if_true, if_false, signs_eq, Option.bind_some]
            refine Ev.bind (f := fun k (t : Bool) => some t) (a := Lx.signWords.contains s.data.toList) ?_ ?_
            · exact Ev.congr (fun k => rfl) ha
            · cases hc : Lx.signWords.contains s.data.toList
              · rw [show (if s.data.toList ∈ Lx.signWords then some (Lx.Piece.sgn s.data.toList) else none).isSome = false by rw [if_neg (by intro h; rw [← List.contains_iff_mem, hc] at h; cases h)]; rfl]
                exact Ev.now _
              · rw [show (if s.data.toList ∈ Lx.signWords then some (Lx.Piece.sgn s.data.toList) else none).isSome = true by rw [if_pos (List.contains_iff_mem.1 hc)]; rfl]
                exact Ev.now _
          · simp only [h1, h2, h3, h4, h5, if_false, Option.isSome_none]
            exact Ev.now _
theorem ev_tok1 (x : S) : Ev (fun k => swardref02_Token.j0 k true x.f0 x.f1 x.f2 x.f3) false := by
  refine Ev.succ ?_
  simp only [swardref02_Token.j0, if_true]
  exact Ev.now _
theorem ev_Token (x : S) : Ev (fun k => swardref02_Token.f k x.f0 x.f1 x.f2 x.f3) (tokenB x) := by
  by_cases hx : x.f3 < 0 ∨ 4000 < x.f3 ∨ (x.f0 ≠ 3 ∧ x.f2 ≠ 0)
  · have hf : tokenB x = false := by
      unfold tokenB Lx.pieceOf
      rw [if_pos (show (sT x).f3 < 0 ∨ 4000 < (sT x).f3 ∨ ((sT x).f0 ≠ 3 ∧ (sT x).f2 ≠ 0) from hx)]
      rfl
    rw [hf]
    unfold swardref02_Token.f
    by_cases h1 : x.f3 < 0
    · simp only [h1, if_true]
      exact ev_tok1 x
    · by_cases h2 : x.f3 > 4000
      · simp only [h1, h2, if_true, if_false]
        exact ev_tok1 x
      · have h3 : ¬ x.f0 = 3 := by omega
        have h4 : (x.f2 != 0) = true := by rw [bne_iff_ne]; omega
        simp only [h1, h2, h3, h4, if_false]
        exact ev_tok1 x
  · have h1 : ¬ x.f3 < 0 := by omega
    have h2 : ¬ x.f3 > 4000 := by omega
    unfold swardref02_Token.f
    by_cases h3 : x.f0 = 3
    · simp only [h1, h2, h3, if_true, if_false]
      rw [← h3]
      exact ev_tok0 x hx
    · have h4 : (x.f2 != 0) = false := by
        have : x.f2 = 0 := by omega
        rw [this]; rfl
      simp only [h1, h2, h3, h4, if_false]
      exact ev_tok0 x hx
theorem ev_All_l (xs : List S) (hx : xs.length ≤ 1000000000000000) : ∀ (n i : Nat), i ≤ xs.length → xs.length - i = n → Ev (fun k => swardref02_All.l0 k xs i) ((xs.drop i).all tokenB) := by
  intro n
  induction n with
  | zero =>
    intro i hi hn
    have h1 : ¬ ((i : Int) < (xs.length : Int)) := by omega
    have he : xs.drop i = [] := List.drop_of_length_le (by omega)
    rw [he]
    refine Ev.succ ?_
    simp only [swardref02_All.l0, h1, if_false]
    exact Ev.now _
  | succ n ih =>
    intro i hi hn
    have hlt : i < xs.length := by omega
    have ih0 := ih (i + 1) (by omega) (by omega)
    have h1 : (i : Int) < (xs.length : Int) := by omega
    have h2 : (0 : Int) ≤ (i : Int) := Int.natCast_nonneg _
    have hw := wrap_succ i (by omega)
    rw [List.drop_eq_getElem_cons hlt, List.all_cons]
    refine Ev.succ ?_
    simp only [swardref02_All.l0, h1, h2, if_true, rd_S xs i hlt, hw]
    refine Ev.bind (f := fun k (t : Bool) => if t = true then swardref02_All.l0 k xs ((i + 1 : Nat) : Int) else some false) (ev_Token xs[i]) ?_
    cases hb : tokenB xs[i]
    · simp only [Bool.false_eq_true, if_false, Bool.false_and]
      exact Ev.now _
    · simp only [if_true, Bool.true_and]
      exact ih0
theorem ev_All (xs : List S) (hx : xs.length ≤ 1000000000000000) : Ev (fun k => swardref02_All.f k xs) (xs.all tokenB) := by
  have := ev_All_l xs hx _ 0 (Nat.zero_le _) rfl
  rw [List.drop_zero] at this
  exact this
def fewB (xs : List S) : Bool := (xs.take 61).all (fun x => decide (x.f1.size ≤ 40)) && decide (xs.length ≤ 60)
theorem ev_few_l (xs : List S) : ∀ (n i : Nat), i ≤ 61 → 61 - i = n → Ev (fun k => swardlaw02_few.l0 k xs i) (((xs.take 61).drop i).all (fun x => decide (x.f1.size ≤ 40)) && decide (xs.length ≤ 60)) := by
  have hz : decide ((xs.length : Int) ≤ 60) = decide (xs.length ≤ 60) := by rw [decide_eq_decide]; omega
  intro n
  induction n with
  | zero =>
    intro i hi hn
    have he : (xs.take 61).drop i = [] := List.drop_of_length_le (by rw [List.length_take]; omega)
    have h6 : decide ((i : Int) < 61) = false := decide_eq_false (by omega)
    rw [he, List.all_nil, Bool.true_and]
    refine Ev.succ ?_
    simp only [swardlaw02_few.l0, h6, ite_self]
    refine Ev.succ ?_
    simp only [swardlaw02_few.j1, Bool.false_eq_true, if_false, hz]
    exact Ev.now _
  | succ n ih =>
    intro i hi hn
    have ih0 := ih (i + 1) (by omega) (by omega)
    by_cases hlt : i < xs.length
    · have h1 : (i : Int) < (xs.length : Int) := by omega
      have h2 : (0 : Int) ≤ (i : Int) := Int.natCast_nonneg _
      have h6 : decide ((i : Int) < 61) = true := decide_eq_true (by omega)
      have hw := wrap_succ i (by omega)
      have hlt2 : i < (xs.take 61).length := by rw [List.length_take]; omega
      have hg : (xs.take 61)[i] = xs[i] := List.getElem_take
      rw [List.drop_eq_getElem_cons hlt2, List.all_cons, hg]
      refine Ev.succ ?_
      simp only [swardlaw02_few.l0, h1, h6, if_true]
      refine Ev.succ ?_
      simp only [swardlaw02_few.j1, h1, h2, if_true, rd_S xs i hlt, hw]
      by_cases h40 : xs[i].f1.size ≤ 40
      · have c40 : ¬ ((xs[i].f1.size : Int) > 40) := by omega
        simp only [c40, if_false, decide_eq_true h40, Bool.true_and]
        exact ih0
      · have c40 : (xs[i].f1.size : Int) > 40 := by omega
        simp only [c40, if_true, decide_eq_false h40, Bool.false_and]
        exact Ev.now _
    · have h1 : ¬ ((i : Int) < (xs.length : Int)) := by omega
      have he : (xs.take 61).drop i = [] := List.drop_of_length_le (by rw [List.length_take]; omega)
      rw [he, List.all_nil, Bool.true_and]
      refine Ev.succ ?_
      simp only [swardlaw02_few.l0, h1, if_false]
      refine Ev.succ ?_
      simp only [swardlaw02_few.j1, Bool.false_eq_true, if_false, hz]
      exact Ev.now _
theorem ev_few (xs : List S) : Ev (fun k => swardlaw02_few.f k xs) (fewB xs) := by
  have := ev_few_l xs _ 0 (Nat.zero_le _) rfl
  rw [List.drop_zero] at this
  exact this
theorem fewB_iff (xs : List S) (h : fewB xs = true) : xs.length ≤ 60 ∧ ∀ x ∈ xs, x.f1.size ≤ 40 := by
  unfold fewB at h
  rw [Bool.and_eq_true, decide_eq_true_iff, List.all_eq_true] at h
  obtain ⟨h1, h2⟩ := h
  rw [List.take_of_length_le (by omega)] at h1
  exact ⟨h2, fun x hx => by simpa using h1 x hx⟩
end Go.Proofs.YtkijoeihkajlcaaDoor.PAll

set_option linter.unusedVariables false
set_option linter.unusedSimpArgs false
namespace Go.Proofs.YtkijoeihkajlcaaDoor.PAll
open Go.RowKit Go.Shelf
open Go.Proofs.YtkijoeihkajlcaaDoorW.PrintWords

theorem lastIdx_bounds (s : ByteArray) (c : Int) : ∀ k : Nat, -1 ≤ Lib.lastIdx s c k ∧ Lib.lastIdx s c k < k := by
  intro k
  rcases Lib.lastIdx_spec s c k with ⟨h, _⟩ | ⟨i, hi, h, _⟩ <;> omega
theorem lastIdx_part (s : ByteArray) (c : Int) (m : Nat) (hm : m ≤ s.size) : ∀ k : Nat, k ≤ m → Lib.lastIdx (s.extract 0 m) c k = Lib.lastIdx s c k
  | 0, _ => rfl
  | k + 1, h => by
    have ih := lastIdx_part s c m hm k (by omega)
    have hb : (s.extract 0 m).data[k]! = s.data[k]! := by
      have h1 : k < (s.extract 0 m).data.size := by
        have : (s.extract 0 m).size = min m s.size - 0 := by simp
        show k < (s.extract 0 m).size
        omega
      have h2 : k < s.data.size := by show k < s.size; omega
      rw [getElem!_pos _ k h1, getElem!_pos _ k h2]
      simp [ByteArray.data_extract]
    by_cases hc : ((s.data[k]!).toNat : Int) = c
    · rw [Lib.lastIdx_hit s c k hc, Lib.lastIdx_hit _ c k (by rw [hb]; exact hc)]
    · rw [Lib.lastIdx_miss s c k hc, Lib.lastIdx_miss _ c k (by rw [hb]; exact hc), ih]
theorem take_succ_data (s : ByteArray) (i : Nat) (h : i < s.size) : s.data.toList.take (i + 1) = s.data.toList.take i ++ [s[i]] := by
  rw [List.take_succ_eq_append_getElem (by simpa using h)]
  rfl
theorem data_bang (s : ByteArray) (i : Nat) (h : i < s.size) : s.data[i]! = s[i] := by
  rw [getElem!_pos _ i (by simpa using h)]
  rfl
theorem ev_Place_l (s : ByteArray) (hs : s.size ≤ 4200) (m : Nat) (hm : m ≤ s.size) : ∀ (n i : Nat), i ≤ m → m - i = n →
    Ev (fun k => swardref02_Place.l0 k s m (1 + ((s.data.toList.take i).count 10 : Nat)) ((i : Int) - Lib.lastIdx s 10 i) i) ((1 + ((s.data.toList.take m).count 10 : Nat) : Int), (m : Int) - Lib.lastIdx s 10 m) := by
  intro n
  induction n with
  | zero =>
    intro i hi hn
    obtain rfl : i = m := by omega
    have h1 : ¬ ((i : Int) < (i : Int)) := by omega
    refine Ev.succ ?_
    simp only [swardref02_Place.l0, h1, if_false]
    exact Ev.now _
  | succ n ih =>
    intro i hi hn
    have hlt : i < s.size := by omega
    have ih0 := ih (i + 1) (by omega) (by omega)
    have h1 : (i : Int) < (m : Int) := by omega
    have h2 : (0 : Int) ≤ (i : Int) := by omega
    have h3 : (i : Int) < (s.size : Int) := by omega
    have hb := bt_nat s i hlt
    have hw := wrap_succ i (by omega)
    have hlb := lastIdx_bounds s 10 i
    have hcl : (s.data.toList.take i).count 10 ≤ 4200 := by
      have h := List.count_le_length (a := (10 : UInt8)) (l := s.data.toList.take i)
      rw [List.length_take] at h
      omega
    have hd := data_bang s i hlt
    rw [take_succ_data s i hlt, List.count_append] at ih0
    by_cases h10 : s[i].toNat = 10
    · have hc : s[i] = 10 := UInt8.toNat_inj.1 h10
      have f10 : ((s[i].toNat : Int)) = 10 := by omega
      rw [Lib.lastIdx_hit s 10 i (by rw [hd]; exact f10)] at ih0
      have hc1 : [s[i]].count 10 = 1 := by rw [hc]; rfl
      rw [hc1] at ih0
      have e1 : ((i + 1 : Nat) : Int) - (i : Int) = 1 := by omega
      have e2 : wrap64 (1 + ((s.data.toList.take i).count 10 : Nat) + 1) = 1 + (((s.data.toList.take i).count 10 + 1 : Nat) : Int) := by unfold wrap64; omega
      rw [e1] at ih0
      refine Ev.succ ?_
      simp only [swardref02_Place.l0, h1, h2, h3, if_true, hb, f10, hw, e2]
      exact ih0
    · have hc : s[i] ≠ 10 := fun h => h10 (by rw [h]; rfl)
      have f10 : ¬ ((s[i].toNat : Int)) = 10 := by omega
      rw [Lib.lastIdx_miss s 10 i (by rw [hd]; exact f10)] at ih0
      have hc1 : [s[i]].count 10 = 0 := by simp [List.count_cons, hc]
      rw [hc1, Nat.add_zero] at ih0
      have e1 : wrap64 ((i : Int) - Lib.lastIdx s 10 i + 1) = ((i + 1 : Nat) : Int) - Lib.lastIdx s 10 i := by unfold wrap64; omega
      refine Ev.succ ?_
      simp only [swardref02_Place.l0, h1, h2, h3, if_true, hb, f10, if_false, hw, e1]
      exact ih0
theorem ev_Place (s : ByteArray) (hs : s.size ≤ 4000) (m : Nat) (hm : m ≤ s.size) : Ev (fun k => swardref02_Place.f k s m) ((Lx.place s m).1, (Lx.place s m).2.1) := by
  have h := ev_Place_l s (by omega) m hm _ 0 (Nat.zero_le _) rfl
  have hp : Lx.place s m = ((1 + ((s.data.toList.take m).count 10 : Nat) : Int), (m : Int) - Lib.lastIdx s 10 m, 0) := by
    unfold Lx.place
    rw [if_neg (by omega), if_neg (by omega), Int.toNat_natCast]
    have hex : (s.extract 0 m).data.toList = s.data.toList.take m := by
      rw [ext_eq s 0 m m (by omega), List.drop_zero]
      simp [bsOf]
    have hsz : (s.extract 0 m).size = m := by
      have : (s.extract 0 m).size = min m s.size - 0 := by simp
      omega
    unfold Lib.countByte Lib.lastIndexByte
    rw [hex, hsz, lastIdx_part s 10 m hm m (Nat.le_refl _)]
  rw [hp]
  unfold swardref02_Place.f
  exact h
theorem ev_Clear (s : ByteArray) (hs : s.size ≤ 4200) : Ev (fun k => swardref02_Clear.f k s) (decide (Lx.skipL s.data.toList = s.size)) := by
  have h := ev_skip_f s hs 0 (Nat.zero_le _)
  rw [List.drop_zero, Nat.zero_add] at h
  unfold swardref02_Clear.f
  refine Ev.bind (f := fun k (t : Int) => some (t == (s.size : Int))) h ?_
  rw [int_beq]
  have : decide (((Lx.skipL s.data.toList : Nat) : Int) = (s.size : Int)) = decide (Lx.skipL s.data.toList = s.size) := by rw [decide_eq_decide]; omega
  rw [this]
  exact Ev.now _
end Go.Proofs.YtkijoeihkajlcaaDoor.PAll

set_option linter.unusedVariables false
set_option linter.unusedSimpArgs false
namespace Go.Proofs.YtkijoeihkajlcaaDoor.PAll
open Go.RowKit Go.Shelf
open Go.Proofs.YtkijoeihkajlcaaDoorW.PrintWords

theorem covers_drop {l : Lx.Bs} {fr : Nat} {ps : List (Nat × Lx.Piece)} {a : Nat} {p : Lx.Piece} {qs : List (Nat × Lx.Piece)} (h : Lx.Covers l fr ps) (hps : ps = (a, p) :: qs) :
    fr ≤ a ∧ a + (Lx.spelled p).length ≤ l.length ∧ (l.drop a).take (Lx.spelled p).length = Lx.spelled p ∧ Lx.skipL ((l.drop fr).take (a - fr)) = a - fr ∧ Lx.Covers l (a + (Lx.spelled p).length) qs := by
  subst hps
  exact h
theorem covers_le {l : Lx.Bs} : ∀ {ps : List (Nat × Lx.Piece)} {fr : Nat}, Lx.Covers l fr ps → fr ≤ l.length
  | [], fr, h => h.1
  | (a, p) :: qs, fr, h => by
    obtain ⟨h1, h2, _⟩ := h
    omega
theorem clear_part (s : ByteArray) (hs : s.size ≤ 4000) (fr a : Nat) (h1 : fr ≤ a) (h2 : a ≤ s.size) (h : Lx.skipL ((s.data.toList.drop fr).take (a - fr)) = a - fr) : ∃ k, swardref02_Clear.f k (s.extract fr a) = some true := by
  have hex := ext_eq s fr (a - fr) a (by omega)
  have hsz : (s.extract fr a).size = a - fr := by
    have : (s.extract fr a).size = min a s.size - fr := by simp
    omega
  have hc := ev_Clear (s.extract fr a) (by omega)
  have hd : (s.extract fr a).data.toList = (s.data.toList.drop fr).take (a - fr) := by rw [hex]; simp [bsOf]
  rw [hd, h, hsz, decide_eq_true rfl] at hc
  exact hc.rounds

set_option maxRecDepth 100000 in
set_option maxHeartbeats 8000000 in
theorem LexCovers_law (s : ByteArray) (w : World) (hL : Laid w) :
    Calls Tryd.prog 5 #[.string s] w fun e w' => e = .returned (.bool true) ∧ Below w.heap.size w w' := by
  have hkn := Lib.hid (fun w' (h : Laid w') => known_calls w' h)
  have hsl : s.data.toList.length = s.size := by simp
  by_cases c1 : s.size ≤ 400
  · obtain ⟨ps, er, hrd⟩ : ∃ ps er, Lx.readAll s.data.toList = (ps, er) := ⟨_, _, rfl⟩
    cases er with
    | some x =>
      have hT := Lib.hid (Tokens_calls s w hL [] 4 (by unfold Lx.toks; rw [if_neg (by omega), hrd]))
      clear hrd hsl
      go_enter Tryd.func5, Tryd.ntmps5
      go_wp2_with fail
      refine hT.out.mono ?_
      rintro e w1 ⟨⟨tk, rfl, ho⟩, hb⟩
      have hB1 := Lib.hid hb
      obtain ⟨A, c, rfl⟩ := own_slice ho
      clear ho hb
      simp only [List.map_nil, List.length_nil]
      go_wp2_with fail
      refine (hkn.out _ (hL.below hB1.out)).mono ?_
      rintro e w2 ⟨rfl, hb⟩
      have hB2 := Lib.hid (Go.Proofs.YtkijoeihkajlcaaDoor.below_then hB1.out hb (Nat.le_refl _))
      clear hb
      go_wp2
      go_ret
      exact ⟨rfl, hB2.out⟩
    | none =>
      have hT := Lib.hid (Tokens_calls s w hL ps 0 (by unfold Lx.toks; rw [if_neg (by omega), hrd]))
      have hcov := Lib.hid (Lx.readAll_covers s.data.toList ps hrd)
      obtain ⟨hf1, hf2, _, _⟩ := Lx.readAll_fits s.data.toList ps none hrd
      replace hf1 := Lib.hid hf1
      have hpl : ps.length ≤ s.size := by omega
      clear hrd hf2
      go_enter Tryd.func5, Tryd.ntmps5
      go_wp2_with fail
      refine hT.out.mono ?_
      rintro e w1 ⟨⟨tk, rfl, ho⟩, hb⟩
      have hB1 := Lib.hid hb
      clear hb
      obtain ⟨xs, hxs⟩ : ∃ xs, xs = ps.map tokS := ⟨_, rfl⟩
      have hxl : xs.length = ps.length := by rw [hxs, List.length_map]
      rw [← hxs] at ho
      replace hxs := Lib.hid hxs
      obtain ⟨A, c, rfl, hc, hr⟩ := Kd.R_reads ho.R
      replace hr := Lib.hid hr
      clear ho hT
      have hxl2 : xs.length ≤ 400 := by omega
      replace hsl := Lib.hid hsl
      replace hxl := Lib.hid hxl
      go_wp2
      go_loopg [5, 6] xs.length (fun g v5 v6 wr => ∃ (fr i : Nat), v5 = .int .i64 fr ∧ v6 = .int .i64 i ∧ i ≤ xs.length ∧ Hid (g + i = xs.length) ∧ fr ≤ s.size ∧ Hid (Below w.heap.size w wr) ∧ Hid (Below w1.heap.size w1 wr) ∧ Hid (Lx.Covers s.data.toList fr (ps.drop i)))
      case atStart => exact ⟨0, 0, rfl, rfl, Nat.zero_le _, Lib.hid rfl, Nat.zero_le _, hB1, Lib.hid (Below.refl _ _), Lib.hid (by simpa using hcov.out)⟩
      case round =>
        obtain ⟨fr, i, rfl, rfl, hi, hg, hfr, hB, hBr, hcv⟩ := hrel
        by_cases hlt : i < xs.length
        · have hil : (i : Int) ≤ (s.size : Int) := by have := hxl.out; omega
          obtain ⟨ad, rfl, d0, d1, d2, d3⟩ := at_Tk (Kd.C_below hr.out hBr.out) i (by omega) (by omega)
          simp only [Int.toNat_natCast] at d0 d1 d2 d3
          have hltp : i < ps.length := by have := hxl.out; omega
          obtain ⟨a, p, hap⟩ : ∃ a p, ps[i] = (a, p) := ⟨_, _, rfl⟩
          have hget : xs.getD i zTk = tokS (a, p) := by
            rw [List.getD_eq_getElem?_getD, hxs.out, List.getElem?_map, List.getElem?_eq_getElem hltp, hap]
            rfl
          have hcd := covers_drop hcv.out (by rw [List.drop_eq_getElem_cons hltp, hap])
          have hgood := (hf1.out ps[i] (List.getElem_mem hltp)).1
          rw [hap] at hgood
          simp only at hgood
          have hgl := Lx.good_len p hgood
          obtain ⟨h1, h2, h3, h4, h5⟩ := hcd
          rw [hsl.out] at h2
          obtain ⟨n, hn⟩ : ∃ n, n = (Lx.spelled p).length := ⟨_, rfl⟩
          rw [← hn] at h2 h3 h5 hgl
          have hword := Lx.word_good a p hgood (by omega)
          have hsize := Lx.size_good a p hgood
          have hwc := fun W hW => Word_calls (tokS (a, p)) (by omega) W hW
          rw [hword] at hwc
          rw [hget] at d0 d1 d2 d3
          have hvb : strV (Lx.spelled p) = .string (s.extract a (a + n)) := by
            rw [ext_eq s a n (a + n) rfl, h3]
            rfl
          have hvs : (s.extract a (a + n)).size = n := by
            have : (s.extract a (a + n)).size = min (a + n) s.size - a := by simp
            omega
          obtain ⟨k2, hCl⟩ := clear_part s (by omega) fr a h1 (by omega) h4
          have hClc := Lib.hid (fun W => swardref02_Clear.calls k2 _ true W hCl)
          simp only [hvb] at hwc
          obtain ⟨k, T, N, f3, htk⟩ : ∃ k T N f3, tokS (a, p) = ⟨k, T, N, f3⟩ := ⟨_, _, _, _, rfl⟩
          have hf3 : f3 = (a : Int) := by
            have := congrArg Tk.f3 htk
            exact this.symm
          subst hf3
          rw [htk] at d0 d1 d2 d3 hwc hget
          have hgeth := Lib.hid hget
          simp only [tokCs] at d0 d1 d2 d3 hwc
          have hwch := Lib.hid hwc
          replace h5 := Lib.hid h5
          clear hwc hvb h3 h4 hCl htk hn hword hsize hgood hget hap hcv
          obtain ⟨b, hb0⟩ : ∃ b, b = s.extract a (a + n) := ⟨_, rfl⟩
          rw [← hb0] at hvs hwch
          have hex := Lib.hid (show s.extract a (a + b.size) = b by rw [hvs, hb0])
          clear hb0
          go_wp2_with fail
          refine (hwch.out _ (hL.below hB.out)).mono ?_
          rintro e w2 ⟨rfl, hb⟩
          have hB2 := Lib.hid (Go.Proofs.YtkijoeihkajlcaaDoor.below_then hB.out hb (Nat.le_refl _))
          have hBr2 := Lib.hid (Go.Proofs.YtkijoeihkajlcaaDoor.below_then hBr.out hb (Nat.le_refl _))
          clear hb d0 d1 d2 d3
          obtain ⟨ad2, had2, _, _, _, d3⟩ := at_Tk (Kd.C_below hr.out hBr2.out) i (by omega) (by omega)
          cases had2
          simp only [Int.toNat_natCast] at d3
          rw [hgeth.out] at d3
          have hb1 : ((n : Int) == 0) = false := by rw [beq_eq_false_iff_ne]; omega
          have hb2n : decide (a < fr) = false := decide_eq_false (by omega)
          have hb3n : decide (s.size < a) = false := decide_eq_false (by omega)
          have hb2 : decide ((a : Int) < (fr : Int)) = false := decide_eq_false (by omega)
          have hb3 : decide ((s.size : Int) < (a : Int)) = false := decide_eq_false (by omega)
          have hb4 : decide ((s.size : Int) - (a : Int) < (n : Int)) = false := decide_eq_false (by omega)
          have hne : ((s.extract a (a + n)).toList == b.toList) = true := by rw [← hvs, hex.out]; exact beq_self_eq_true _
          clear hwch
          go_wp2_with fail
          refine (hClc.out _).mono ?_
          rintro e w3 ⟨rfl, hd⟩
          have hB3 := Lib.hid (Go.Proofs.YtkijoeihkajlcaaDoor.below_then hB2.out hd.below (Nat.le_refl _))
          have hBr3 := Lib.hid (Go.Proofs.YtkijoeihkajlcaaDoor.below_then hBr2.out hd.below (Nat.le_refl _))
          clear hd
          go_wp2
          go_roundg (xs.length - (i + 1))
          case measure => have := hg.out; omega
          case rel => exact ⟨a + n, i + 1, by go_num, by go_num, by omega, Lib.hid (by omega), by omega, hB3, hBr3, h5⟩
        · have hge : ps.length ≤ i := by have := hxl.out; omega
          have hnil : ps.drop i = [] := List.drop_of_length_le hge
          have hcv2 := hcv.out
          rw [hnil] at hcv2
          obtain ⟨_, hskip⟩ := hcv2
          rw [hsl.out] at hskip
          obtain ⟨k2, hCl⟩ := clear_part s (by omega) fr s.size hfr (Nat.le_refl _) (by
            rw [List.take_of_length_le (by rw [List.length_drop, hsl.out]; exact Nat.le_refl _)]
            exact hskip)
          have hClc := Lib.hid (fun W => swardref02_Clear.calls k2 _ true W hCl)
          have hle : (xs.length : Int) ≤ (s.size : Int) := by have := hxl.out; omega
          have hleb : decide ((xs.length : Int) ≤ (s.size : Int)) = true := decide_eq_true hle
          clear hCl hskip hnil hcv
          go_wp2_with fail
          refine (hClc.out _).mono ?_
          rintro e w2 ⟨rfl, hd⟩
          have hB2 := Lib.hid (Go.Proofs.YtkijoeihkajlcaaDoor.below_then hB.out hd.below (Nat.le_refl _))
          clear hd
          go_wp2_with fail
          refine (hkn.out _ (hL.below hB2.out)).mono ?_
          rintro e w3 ⟨rfl, hb⟩
          have hB3 := Lib.hid (Go.Proofs.YtkijoeihkajlcaaDoor.below_then hB2.out hb (Nat.le_refl _))
          clear hb
          go_wp2
          go_ret
          exact ⟨rfl, hB3.out⟩
  · go_enter Tryd.func5, Tryd.ntmps5
    go_wp2_with fail
    refine (hkn.out _ hL).mono ?_
    rintro e w1 ⟨rfl, hb⟩
    have hB1 := Lib.hid hb
    clear hb
    go_wp2
    go_ret
    exact ⟨rfl, hB1.out⟩
end Go.Proofs.YtkijoeihkajlcaaDoor.PAll

set_option linter.unusedVariables false
set_option linter.unusedSimpArgs false
namespace Go.Proofs.YtkijoeihkajlcaaDoor
open Go.ChangeShapes Go.WideShapes Go.ChangeAt Go.RowKit Go.ChangeMaps

theorem ownK : ownKnob Tryd.prog.godebug = none := by kernel_rfl
def laidL : List (String × DataW Unit) := [("math/bits.deBruijn32tab", Rows.laid_math_bits_deBruijn32tab), ("math/bits.deBruijn64tab", Rows.laid_math_bits_deBruijn64tab), ("internal/strconv.uint64pow10", Rows.laid_internal_strconv_uint64pow10), ("unicode.White_Space", Rows.laid_unicode_White_Space), ("strings.asciiSpace", Rows.laid_strings_asciiSpace)]
theorem laid_of_met {W : World} (h : laidMetH Tryd.prog laidL W) : Laid W := by
  rw [MakeChecks.laidMetH_plain _ _ _ (by kernel_rfl)] at h
  have h3 := (show laidMet Tryd.prog [("internal/strconv.uint64pow10", Rows.laid_internal_strconv_uint64pow10), ("unicode.White_Space", Rows.laid_unicode_White_Space), ("strings.asciiSpace", Rows.laid_strings_asciiSpace)] W from h.tail.tail)
  have h5 := (show laidMet Tryd.prog [("strings.asciiSpace", Rows.laid_strings_asciiSpace)] W from h3.tail.tail)
  rw [show (Rows.laid_strings_asciiSpace : DataW Unit) = Lib.tabData .u8 Lib.asciiSpaceTab by kernel_rfl] at h5
  rw [show (Rows.laid_internal_strconv_uint64pow10 : DataW Unit) = Lib.tabData .u64 Lib.pow10Tab by kernel_rfl] at h3
  refine ⟨?_, ?_⟩
  · exact Lib.tabIs_of_head (g := (Tryd.prog.globalNamed "strings.asciiSpace").getD 0) (t := ((Tryd.prog.globals[(Tryd.prog.globalNamed "strings.asciiSpace").getD 0]?).map (·.type)).getD 0) (e := 5) (n := 256) (by kernel_rfl) (by kernel_rfl) (by kernel_rfl) (by kernel_rfl) (by kernel_rfl) (by kernel_rfl) h5
  · exact Lib.tabIs_of_head (g := (Tryd.prog.globalNamed "internal/strconv.uint64pow10").getD 0) (t := ((Tryd.prog.globals[(Tryd.prog.globalNamed "internal/strconv.uint64pow10").getD 0]?).map (·.type)).getD 0) (e := 133) (n := Lib.pow10Tab.length) (by kernel_rfl) (by kernel_rfl) (by kernel_rfl) (by kernel_rfl) (by kernel_rfl) (by kernel_rfl) h3

/-- Behind a call that keeps all that lay, where no argument holds an address. -/
theorem post_none {H : Type} {enc : TypeId × Value → H} {P : Program} {f : Func} {s : ChangeSpec} {apart fresh handsOn again : Bool} {W W' : World} {args : Array Value} {v : Value} {ds gs : List (DataW H)}
    (hW : DataW.Whole enc P f.params.toList s.vars apart W args.toList ds gs [])
    (hres : ∀ (b : Nat) (sp : Nat → Bool) (hd : Bool), DataW.TrodAll enc P W' b sp hd f.resultTypes.toList (v.resultList f.resultTypes.size) (s.fn H (ds ++ gs)).results [])
    (hargs : ∀ sp : Nat → Bool, DataW.TrodAll enc P W' 0 sp true f.params.toList args.toList (s.fn H (ds ++ gs)).args [])
    (hvars : ∀ sp : Nat → Bool, DataW.TrodVars enc P W' sp s.vars (s.fn H (ds ++ gs)).vars [])
    (hk : W.keptBut W' (fun p => p ∈ ([] : List MemPlace)))
    (hok : ∀ (j : Nat) (t : TypeId) (r : Value), f.resultTypes[j]? = some t → (v.resultList f.resultTypes.size)[j]? = some r → Value.okWide P W' .any 0 t r) :
    s.post enc P f apart fresh handsOn again W args v W' := by
  refine ⟨ds, gs, [], [], [], [], hW, hres _ _ _, hargs _, hvars _, World.keptBut_mono (fun p hp => by cases hp) hk, fun _ => ?_⟩
  refine ⟨hok, _, _, ([] ++ []) ++ [], ⟨[] ++ [], [], trodAll_append (hargs _) (hres _ _ _), hvars _, rfl, ?_, fun _ => List.nodup_nil⟩, fun p hp _ => by cases hp⟩
  intro b off hp
  cases hp
end Go.Proofs.YtkijoeihkajlcaaDoor

set_option linter.unusedVariables false
set_option linter.unusedSimpArgs false
namespace Go.Proofs.YtkijoeihkajlcaaDoor
open Go.ChangeShapes Go.WideShapes Go.ChangeAt Go.RowKit Go.ChangeMaps

set_option maxRecDepth 100000 in
theorem liftedLexCovers (os : Os) (started : os.Started) (H : Type) (enc : TypeId × Value → H) :
    ReturnsInHanded {} Tryd.checked os 5 .any (fun w args => (Rows.lexCoversSpec.pre enc Tryd.prog Tryd.f5 Rows.lexCoversRow.domain false w args ∧ laidMetH Tryd.prog Rows.lexCoversRow.laid w) ∧ sizedMet enc Tryd.prog Tryd.f5 (OpenSpec.ofChange Rows.lexCoversSpec) false w args)
      (Rows.lexCoversSpec.post enc Tryd.prog Tryd.f5 false true false false) := by
  refine returnsInHanded_of_change_and (C := Tryd.checked) (X := fun w _ => laidMetH Tryd.prog laidL w) (fun _ _ _ hh h => h.of_heap hh) ownK started (by kernel_rfl) Tryd.func5
    (ChangeSpec.witness_shaped (enc := enc) (C := Tryd.checked) (os := os) (X := fun w _ => laidMetH Tryd.prog laidL w) false (World.laidAll Tryd.prog os laidL) #[.string ⟨#[]⟩] 8 (World.laidAll_os _ _ _)
      (World.shaped_of_ZipB (by kernel_rfl) (by kernel_rfl)) (by kernel_rfl) (by kernel_rfl) (by kernel_rfl)
      (by rw [MakeChecks.laidMetH_plain _ _ _ (by kernel_rfl)]; exact laidMet_laidAll _ (by kernel_rfl) (by kernel_rfl))) ?_
  intro W base args ds gs before hval0 hW hc _ hL _
  have hval : ∀ (j : Nat) t v, Tryd.f5.params[j]? = some t → args[j]? = some v → Value.okWide Tryd.prog W .any base t v := hval0
  have hW' := hW
  obtain ⟨p, q, hA0, hV, rfl, _, _⟩ := hW
  have hA : DataW.TrodAll enc Tryd.prog W 0 (fun _ => true) true Tryd.f5.params.toList args.toList ds p := hA0
  rw [Tryd.params5] at hA hval
  obtain ⟨v0, d0, rfl, rfl, h0⟩ := trodAll_one hA
  obtain ⟨rfl, rfl⟩ := trodVars_none hV
  obtain ⟨a0, rfl, rfl, rfl, w0⟩ := open_string Tryd.underlying9 (hval 0 9 v0 rfl rfl) h0
  simp only [List.append_nil, List.nil_append] at hW'
  refine (PAll.LexCovers_law a0 W (laid_of_met hL)).mono fun e W' ⟨he, hw⟩ => ?_
  subst he
  exact ⟨_, rfl, post_none hW' (fun _ _ _ => trodAll_mk1 (shut_bool Tryd.underlying4 _)) (fun sp => trodAll_mk1 (shut_string Tryd.underlying9 w0)) (fun _ => rfl) (hw.frame _) (ok_one (by kernel_rfl) rfl (okWide_bool_mk Tryd.underlying4 _))⟩

theorem saidLexCovers : Rows.LexCoversSaid :=
  OpenClaim.holds_of_wide 5 Tryd.f5 rfl rfl rfl rfl rfl rfl rfl ⟨rfl, rfl, rfl, rfl, rfl⟩ rfl rfl rfl rfl rfl (by kernel_rfl) Tryd.func5 (by kernel_rfl)
    (of_decide_eq_true (by kernel_rfl)) (by unfold Func.isWrapper; first | (rw [if_pos (by decide +kernel)]; kernel_rfl) | (rw [if_neg (by decide +kernel)]; exact ⟨rfl, rfl⟩))
    (fun os started H enc _ => liftedLexCovers os started H enc)
theorem lexCovers_card : Rows.LexCoversCardSaid :=
  Claim7.holds_tied_plain_at .later [] [.data, .data, .data, .listed, .data] true (true, "5b4db42141422620d803431d3e586301e422e1e551833148ccaf224fee0bee00") true saidLexCovers (fun _ h => by cases h) (by kernel_rfl) (fun _ h => by cases h) lexCovers_row_tie rfl ⟨rfl, rfl⟩ (by kernel_rfl) rfl
    (fun f fn hf hfn => by
      obtain rfl : f = 5 := Option.some.inj ((show Tryd.prog.funcNamed "sward/swardlaw02.LexCovers" = some 5 by kernel_rfl).symm.trans hf) |>.symm
      obtain rfl : fn = Tryd.f5 := (Option.some.inj (Tryd.func5.symm.trans hfn)).symm
      exact ⟨by kernel_rfl, fun j t ht => by
        rw [Tryd.params5] at ht
        have hm : t ∈ [9] := by simpa using Array.mem_of_getElem? ht
        have hall : ([9].all fun u => !Tryd.prog.wantsStandIn u) = true := by kernel_rfl
        exact (show Tryd.prog.wantsStandIn t = false by simpa using List.all_eq_true.1 hall t hm)⟩)
    (by kernel_rfl)
#print axioms lexCovers_card
end Go.Proofs.YtkijoeihkajlcaaDoor
